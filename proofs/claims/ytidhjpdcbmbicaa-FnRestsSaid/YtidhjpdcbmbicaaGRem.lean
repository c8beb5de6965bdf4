/- The program's Rem over the library's Mod: the rest of numbers of 64 bits: a plain function and its contract. The words are of 64 bits. -/
import Derived.Test.YtidhjpdcbmbicaaGWord
import Derived.Test.YtidhjpdcbmbicaaCV
import Derived.Lib.Hide
import Derived.Deep.QuietTactic
import Derived.BigQuiet
import Derived.Laws.BitsAllLaws
namespace Go.Proofs.Ytidhjpdcbmbicaa.G
open Go.RowKit Go.Proofs.YtidhjpdcbmbicaaW.PrintWords Go.Proofs.Ytidhjpdcbmbicaa.CG Go.Proofs.Ytidhjpdcbmbicaa.CH Go.Proofs.Ytidhjpdcbmbicaa.CN Go.Proofs.Ytidhjpdcbmbicaa.CV Go.Proofs.Ytidhjpdcbmbicaa.CB

theorem bits_calls (x : Nat) (W : World) : (callFunc 35 #[.float .f64 x]).run Try.prog W = .ok (.value (.int .u64 x)) W := by
  rw [run_callFunc_extern Try.func35 (by kernel_rfl) (by kernel_rfl) (by kernel_rfl) (e := Extern.MathFloatBits.float64bits) (by kernel_rfl)]; rfl
theorem frombits_calls (n : Int) (m : Nat) (h : n.toNat = m) (W : World) : (callFunc 36 #[.int .u64 n]).run Try.prog W = .ok (.value (.float .f64 m)) W := by
  subst h
  rw [run_callFunc_extern Try.func36 (by kernel_rfl) (by kernel_rfl) (by kernel_rfl) (e := Extern.MathFloatBits.float64frombits) (by kernel_rfl)]; rfl
theorem abs_bits (x : Nat) (hx : x < 18446744073709551616) : Go.bits .andNot .u64 (x : Int) 9223372036854775808 = ((x % 9223372036854775808 : Nat) : Int) := by
  have h := u64_andNot_nat x 9223372036854775808 hx (by omega)
  have e1 : ((9223372036854775808 : Nat) : Int) = 9223372036854775808 := rfl
  rw [e1, show 18446744073709551615 - 9223372036854775808 = 2 ^ 63 - 1 from rfl, mask, show (2 : Nat) ^ 63 = 9223372036854775808 from rfl] at h
  exact h
theorem abs_calls (x : Nat) (w : World) (hx : x < 18446744073709551616) : Calls Try.prog 43 #[.float .f64 x] w fun e w' => e = .returned (.float .f64 (x % 9223372036854775808)) ∧ w = w' := by
  have h1 := bits_calls x
  have h2 := frombits_calls ((x : Int) % 9223372036854775808) (x % 9223372036854775808) (by omega)
  have h3 := abs_bits x hx
  go_enter Try.func43, Try.ntmps43
  go_wp2
  go_ret
  exact ⟨rfl, rfl⟩
theorem isNaN_calls (x : Nat) (w : World) (hx : x < 18446744073709551616) (b : Bool) (hb : nanB x = b) : Calls Try.prog 41 #[.float .f64 x] w fun e w' => e = .returned (.bool b) ∧ w = w' := by
  have ho := nan_order hx
  rw [hb] at ho
  go_enter Try.func41, Try.ntmps41
  go_wp2
  go_ret
  exact ⟨rfl, rfl⟩
/-- Whether a word is an infinity's. -/
def infB (x : Nat) : Bool := decide (x % 9223372036854775808 = 9218868437227405312)
theorem inf_order {x : Nat} (_hx : x < 18446744073709551616) : (FloatKind.f64.format.order (x % 9223372036854775808) 9218868437227405311 == some .gt) = infB x := by
  have hk : keyI (x % 9223372036854775808) = ((x % 9223372036854775808 : Nat) : Int) := by unfold keyI; rw [if_neg (by omega)]
  have hk2 : keyI 9218868437227405311 = 9218868437227405311 := by unfold keyI; rw [if_neg (by omega)]; rfl
  have h := order_eq (x % 9223372036854775808) 9218868437227405311 (by omega) (by omega)
  show (Ieee.double.order (x % 9223372036854775808) 9218868437227405311 == some .gt) = infB x
  rw [h, hk, hk2, show nanB 9218868437227405311 = false by decide]
  have hn : nanB (x % 9223372036854775808) = decide (9218868437227405312 < x % 9223372036854775808) := by unfold nanB; rw [Nat.mod_mod]
  rw [hn]
  unfold infB
  by_cases h1 : 9218868437227405312 < x % 9223372036854775808
  · rw [decide_eq_true h1, if_pos (by simp), decide_eq_false (by omega)]; rfl
  · rw [decide_eq_false h1, if_neg (by simp)]
    by_cases h2 : x % 9223372036854775808 = 9218868437227405312
    · rw [decide_eq_true h2, Int.compare_eq_gt.2 (by omega)]; rfl
    · rw [decide_eq_false h2]
      rcases Nat.lt_or_ge (x % 9223372036854775808) 9218868437227405311 with h3 | h3
      · rw [Int.compare_eq_lt.2 (by omega)]; rfl
      · rw [Int.compare_eq_eq.2 (by omega)]; rfl
theorem isInf_calls (x : Nat) (w : World) (hx : x < 18446744073709551616) (b : Bool) (hb : infB x = b) : Calls Try.prog 40 #[.float .f64 x, .int .i64 0] w fun e w' => e = .returned (.bool b) ∧ w = w' := by
  have ho := inf_order hx
  rw [hb] at ho
  go_enter Try.func40, Try.ntmps40
  go_wp2_with (go_at_call 43; refine (abs_calls x _ hx).mono ?_; rintro e w' ⟨rfl, rfl⟩)
  go_ret
  exact ⟨rfl, rfl⟩
theorem nan_calls (w : World) : Calls Try.prog 42 #[] w fun e w' => e = .returned (.float .f64 9221120237041090561) ∧ w = w' := by
  have h2 := frombits_calls 9221120237041090561 9221120237041090561 (by rfl)
  go_enter Try.func42, Try.ntmps42
  go_wp2
  go_ret
  exact ⟨rfl, rfl⟩
theorem wd_abs (V : Nat) : wd V % 9223372036854775808 = wd V := Nat.mod_eq_of_lt (wd_lt V)
theorem fits_pow52 : fits 4503599627370496 := ⟨⟨1, 52, by omega, rfl⟩, by decide⟩
theorem normal_order {V : Nat} (hV : fits V) : (FloatKind.f64.format.order (wd V) 4503599627370496 == some .lt) = decide (V < 4503599627370496) := by
  have h := order_wd hV fits_pow52
  rw [(wd_low (V := 4503599627370496) (by omega)).1] at h
  show (Ieee.double.order (wd V) 4503599627370496 == some .lt) = _
  rw [h]
  by_cases hc : V < 4503599627370496
  · rw [decide_eq_true hc, Int.compare_eq_lt.2 (by omega)]; rfl
  · rw [decide_eq_false hc]
    rcases Nat.lt_or_eq_of_le (Nat.le_of_not_lt hc) with h1 | h1
    · rw [Int.compare_eq_gt.2 (by omega)]; rfl
    · rw [Int.compare_eq_eq.2 (by omega)]; rfl
theorem normalize_low (V : Nat) (w : World) (hV : fits V) (h0 : V ≠ 0) (hlt : V < 4503599627370496) : Calls Try.prog 50 #[.float .f64 (wd V)] w fun e w' => e = .returned (.tuple #[.float .f64 (wd (V * 2 ^ 52)), .int .i64 (-52)]) ∧ w = w' := by
  have ho := normal_order hV
  rw [decide_eq_true hlt] at ho
  have hx := wd_lt V
  have hm := wd_abs V
  have hop : ∀ t W, (binOp .mul t (.float .f64 (wd V)) (.float .f64 4841369599423283200)).run Try.prog W = .ok (.float .f64 (wd (V * 2 ^ 52))) W := fun t W => run_float_arith W .mul t .f64 (wd V) _ _ (mul_pow52 hV h0)
  generalize wd (V * 2 ^ 52) = z at *
  generalize wd V = x at *
  have ha := fun W => abs_calls x W (by omega)
  rw [hm] at ha
  have HA := Lib.hid ha
  clear ha hm hV h0 hlt
  go_enter Try.func50, Try.ntmps50
  go_wp2_with (go_at_call 43; refine (HA.out _).mono ?_; rintro e w' ⟨rfl, rfl⟩)
  go_ret2
  exact ⟨rfl, rfl⟩
theorem normalize_high (V : Nat) (w : World) (hV : fits V) (hlt : ¬ V < 4503599627370496) : Calls Try.prog 50 #[.float .f64 (wd V)] w fun e w' => e = .returned (.tuple #[.float .f64 (wd V), .int .i64 0]) ∧ w = w' := by
  have ho := normal_order hV
  rw [decide_eq_false hlt] at ho
  have hx := wd_lt V
  have hm := wd_abs V
  generalize wd V = x at *
  have ha := fun W => abs_calls x W (by omega)
  rw [hm] at ha
  have HA := Lib.hid ha
  clear ha hm hV hlt
  go_enter Try.func50, Try.ntmps50
  go_wp2_with (go_at_call 43; refine (HA.out _).mono ?_; rintro e w' ⟨rfl, rfl⟩)
  go_ret2
  exact ⟨rfl, rfl⟩
theorem zero_order {V : Nat} (hV : fits V) (h0 : V ≠ 0) : (FloatKind.f64.format.order (wd V) 0 == some .eq) = false := by
  have h := order_wd hV (show fits 0 from ⟨⟨0, 0, by omega, rfl⟩, by decide⟩)
  rw [wd_zero] at h
  show (Ieee.double.order (wd V) 0 == some .eq) = false
  rw [h, Int.compare_eq_gt.2 (by omega)]; rfl
theorem wd_inf {V : Nat} (hV : fits V) : infB (wd V) = false := by
  unfold infB
  rw [wd_abs]
  refine decide_eq_false ?_
  by_cases h : 52 ≤ V.log2
  · have h0 : V ≠ 0 := by intro hz; rw [hz] at h; exact absurd h (by decide)
    rw [(wd_high hV h).1]
    have := (nm_range h0).2
    have := hV.2
    omega
  · have hlt : V < 9007199254740992 := Nat.lt_of_lt_of_le (CR.lt_log V) (Nat.le_trans (Nat.pow_le_pow_right (by omega) (show V.log2 + 1 ≤ 53 by omega)) (Nat.le_of_eq rfl))
    rw [(wd_low hlt).1]
    omega
/-- A word's fields. -/
theorem field_bits (F f : Nat) (hF : F < 2048) (hf : f < 4503599627370496) : Go.bits .and .u64 (((F * 4503599627370496 + f : Nat) : Int) / 4503599627370496) 2047 = (F : Int) ∧ Go.bits .andNot .u64 ((F * 4503599627370496 + f : Nat) : Int) 9218868437227405312 = (f : Int) ∧ Go.bits .or .u64 (f : Int) 4602678819172646912 = ((4602678819172646912 + f : Nat) : Int) := by
  refine ⟨?_, ?_, ?_⟩
  · have h := and_u64 F 2047 (by omega) (by omega)
    rw [show F &&& 2047 = F from (mask F 11).trans (Nat.mod_eq_of_lt hF)] at h
    rw [show ((F * 4503599627370496 + f : Nat) : Int) / 4503599627370496 = (F : Int) by omega]
    exact h
  · have h := u64_andNot_nat (F * 4503599627370496 + f) 9218868437227405312 (by omega) (by omega)
    have e1 : ((9218868437227405312 : Nat) : Int) = 9218868437227405312 := rfl
    have e2 : (18446744073709551615 - 9218868437227405312 : Nat) = 2 ^ 63 ||| (2 ^ 52 - 1) := by decide
    have e3 : (F * 4503599627370496 + f) &&& 2 ^ 63 = 0 := by
      apply Nat.eq_of_testBit_eq
      intro i
      rw [Nat.testBit_and, Nat.testBit_two_pow, Nat.zero_testBit]
      by_cases h : 63 = i
      · subst h
        rw [Nat.testBit_lt_two_pow (show F * 4503599627370496 + f < 2 ^ 63 by omega)]; rfl
      · rw [decide_eq_false h, Bool.and_false]
    have e4 : (F * 4503599627370496 + f) % 2 ^ 52 = f := by
      have : (2 : Nat) ^ 52 = 4503599627370496 := rfl
      rw [this]; omega
    rw [e1, e2, Nat.and_or_distrib_left, e3, mask, e4, Nat.zero_or] at h
    exact h
  · have h := or_u64 f 4602678819172646912 (by omega) (by omega)
    have e1 : ((4602678819172646912 : Nat) : Int) = 4602678819172646912 := rfl
    have e2 : f ||| 4602678819172646912 = 4602678819172646912 + f := by
      rw [Nat.or_comm]
      exact join 1022 f 52 hf
    rw [e1, e2] at h
    exact h
theorem frexp_calls (F f : Nat) (n r : Int) (x y z : Nat) (w : World) (hx : x < 9223372036854775808) (hz : (FloatKind.f64.format.order x 0 == some .eq) = false) (hinf : infB x = false) (hnan : nanB x = false)
    (HN : ∀ W, Calls Try.prog 50 #[.float .f64 x] W fun e w' => e = .returned (.tuple #[.float .f64 y, .int .i64 n]) ∧ W = w') (hF : F < 2048) (hf : f < 4503599627370496) (hy : y = F * 4503599627370496 + f) (hn : -52 ≤ n) (hn2 : n ≤ 0) (hr : n + ((F : Int) - 1023 + 1) = r) (hzz : z = 4602678819172646912 + f) :
    Calls Try.prog 47 #[.float .f64 x] w fun e w' => e = .returned (.tuple #[.float .f64 z, .int .i64 r]) ∧ w = w' := by
  obtain ⟨b1, b2, b3⟩ := field_bits F f hF hf
  rw [← hy] at b1 b2
  rw [← hzz] at b3
  have hy2 : y < 9223372036854775808 * 2 := by omega
  have HN' := Lib.hid HN
  have HR := Lib.hid hr
  have h1 := bits_calls y
  have h2 := frombits_calls (z : Int) z (by omega)
  have hi := fun W => isInf_calls x W (by omega) false hinf
  have hN := fun W => isNaN_calls x W (by omega) false hnan
  have HI := Lib.hid hi
  have HN2 := Lib.hid hN
  clear HN hi hN hinf hnan hy hzz hr
  go_enter Try.func47, Try.ntmps47
  go_wp2_with (first | (go_at_call 40; refine (HI.out _).mono ?_; rintro e w' ⟨rfl, rfl⟩) | (go_at_call 41; refine (HN2.out _).mono ?_; rintro e w' ⟨rfl, rfl⟩) | (go_at_call 50; refine (HN'.out _).mono ?_; rintro e w' ⟨rfl, rfl⟩))
  go_ret2
  rw [HR.out]
  exact ⟨rfl, rfl⟩
theorem Frexp_calls (x z : Nat) (r : Int) (w : World) (H : ∀ W, Calls Try.prog 47 #[.float .f64 x] W fun e w' => e = .returned (.tuple #[.float .f64 z, .int .i64 r]) ∧ W = w') :
    Calls Try.prog 44 #[.float .f64 x] w fun e w' => e = .returned (.tuple #[.float .f64 z, .int .i64 r]) ∧ w = w' := by
  have HH := Lib.hid H
  clear H
  go_enter Try.func44, Try.ntmps44
  go_wp2_with (go_at_call 47; refine (HH.out _).mono ?_; rintro e w' ⟨rfl, rfl⟩)
  go_ret2
  exact ⟨rfl, rfl⟩
theorem or_word (G f : Nat) (z : Int) (hf : f < 4503599627370496) (hG : G < 2048) (hz : z = G) : Go.bits .or .u64 (f : Int) (z * 4503599627370496) = ((G * 4503599627370496 + f : Nat) : Int) := by
  subst hz
  have h := or_u64 f (G * 4503599627370496) (by omega) (by omega)
  have e1 : f ||| G * 4503599627370496 = G * 4503599627370496 + f := by
    rw [Nat.or_comm, Nat.mul_comm]
    exact join G f 52 hf
  rw [e1] at h
  rw [← h]
  congr 1
theorem read_word (G f : Nat) (hf : f < 4503599627370496) (h1 : 1 ≤ G) (hG : G ≤ 2046) : Ieee.double.read (G * 4503599627370496 + f) = .number false (4503599627370496 + f) ((G : Int) - 1075) := by
  have h := read_enc false (4503599627370496 + f) ((G : Int) - 1075) (by omega) (by omega) (by omega) (fun _ => by omega)
  rw [show CR.enc false (((G : Int) - 1075 + 1074).toNat * 4503599627370496 + (4503599627370496 + f)) = G * 4503599627370496 + f by
    show ((G : Int) - 1075 + 1074).toNat * 4503599627370496 + (4503599627370496 + f) = _
    omega] at h
  exact h
theorem mul_one_word (G f : Nat) (hf : f < 4503599627370496) (h1 : 1 ≤ G) (hG : G ≤ 2046) : Ieee.double.mul 4607182418800017408 (G * 4503599627370496 + f) = some (G * 4503599627370496 + f) := by
  have hr := read_word G f hf h1 hG
  have h := mul_one (G * 4503599627370496 + f) (by omega) (by
    cases hn : nanB (G * 4503599627370496 + f)
    · rfl
    · obtain ⟨_, _, h2⟩ := (read_nan (by omega)).2 hn
      rw [hr] at h2; cases h2)
  rw [mulT_comm] at h
  unfold mulT at h
  rw [mul_some_fin read_one hr] at h ⊢
  exact congrArg some h
theorem ldexp_high (F f : Nat) (n k E : Int) (x y g : Nat) (w : World) (hx : x < 9223372036854775808) (hz : (FloatKind.f64.format.order x 0 == some .eq) = false) (hinf : infB x = false) (hnan : nanB x = false)
    (HN : ∀ W, Calls Try.prog 50 #[.float .f64 x] W fun e w' => e = .returned (.tuple #[.float .f64 y, .int .i64 n]) ∧ W = w') (hF : F < 2048) (hf : f < 4503599627370496) (hy : y = F * 4503599627370496 + f) (hn : -52 ≤ n) (hn2 : n ≤ 0) (hk : 0 ≤ k) (hk2 : k ≤ 3000)
    (hE : k + n + ((F : Int) - 1023) = E) (hE1 : -1022 ≤ E) (hE2 : E ≤ 1023) (hg : g = (E + 1023).toNat * 4503599627370496 + f) :
    Calls Try.prog 49 #[.float .f64 x, .int .i64 k] w fun e w' => e = .returned (.float .f64 g) ∧ w = w' := by
  obtain ⟨_, b2, b3⟩ := field_bits F f hF hf
  clear b3
  rw [← hy] at b2
  have b1 : Go.bits .and .i64 (F : Int) 2047 = F := by
    have h := and_i64 F 2047 (by omega) (by omega)
    rw [show F &&& 2047 = F from (mask F 11).trans (Nat.mod_eq_of_lt hF)] at h
    exact h
  have hy2 : y < 9223372036854775808 * 2 := by omega
  have HN' := Lib.hid HN
  have h1 := bits_calls y
  have h2 := frombits_calls (g : Int) g (by omega)
  have b3 := or_word (E + 1023).toNat f (E + 1023) hf (by omega) (by omega)
  rw [← hg] at b3
  have hmul := mul_one_word (E + 1023).toNat f hf (by omega) (by omega)
  rw [← hg] at hmul
  have hop : ∀ t W, (binOp .mul t (.float .f64 4607182418800017408) (.float .f64 g)).run Try.prog W = .ok (.float .f64 g) W := fun t W => run_float_arith W .mul t .f64 _ g g hmul
  have hi := fun W => isInf_calls x W (by omega) false hinf
  have hN := fun W => isNaN_calls x W (by omega) false hnan
  have HI := Lib.hid hi
  have HN2 := Lib.hid hN
  have hyd : (y : Int) / 4503599627370496 = F := by omega
  have c1 : decide (E < -1075) = false := decide_eq_false (by omega)
  have c2 : decide (1023 < E) = false := decide_eq_false (by omega)
  have c3 : decide (E < -1022) = false := decide_eq_false (by omega)
  have c4 : -1075 ≤ E := by omega
  have f1 : (0 : Int) ≤ F := by omega
  have f2 : (F : Int) < 2048 := by omega
  clear HN hi hN hinf hnan hy hg hmul
  go_enter Try.func49, Try.ntmps49
  go_wp2_with (first | (go_at_call 40; refine (HI.out _).mono ?_; rintro e w' ⟨rfl, rfl⟩) | (go_at_call 41; refine (HN2.out _).mono ?_; rintro e w' ⟨rfl, rfl⟩) | (go_at_call 50; refine (HN'.out _).mono ?_; rintro e w' ⟨rfl, rfl⟩))
  go_ret
  exact ⟨rfl, rfl⟩
theorem ldexp_low (F f : Nat) (n k E : Int) (x y g : Nat) (w : World) (hx : x < 9223372036854775808) (hz : (FloatKind.f64.format.order x 0 == some .eq) = false) (hinf : infB x = false) (hnan : nanB x = false)
    (HN : ∀ W, Calls Try.prog 50 #[.float .f64 x] W fun e w' => e = .returned (.tuple #[.float .f64 y, .int .i64 n]) ∧ W = w') (hF : F < 2048) (hf : f < 4503599627370496) (hy : y = F * 4503599627370496 + f) (hn : -52 ≤ n) (hn2 : n ≤ 0) (hk : 0 ≤ k) (hk2 : k ≤ 3000)
    (hE : k + n + ((F : Int) - 1023) = E) (hE1 : E < -1022) (hE2 : -1074 ≤ E) (hg : g = (E + 1076).toNat * 4503599627370496 + f) (r : Nat) (hmul : Ieee.double.mul 4368491638549381120 g = some r) :
    Calls Try.prog 49 #[.float .f64 x, .int .i64 k] w fun e w' => e = .returned (.float .f64 r) ∧ w = w' := by
  obtain ⟨_, b2, b3⟩ := field_bits F f hF hf
  clear b3
  rw [← hy] at b2
  have b1 : Go.bits .and .i64 (F : Int) 2047 = F := by
    have h := and_i64 F 2047 (by omega) (by omega)
    rw [show F &&& 2047 = F from (mask F 11).trans (Nat.mod_eq_of_lt hF)] at h
    exact h
  have hy2 : y < 9223372036854775808 * 2 := by omega
  have HN' := Lib.hid HN
  have h1 := bits_calls y
  have h2 := frombits_calls (g : Int) g (by omega)
  have b3 := or_word (E + 1076).toNat f (E + 53 + 1023) hf (by omega) (by omega)
  rw [← hg] at b3
  have hop : ∀ t W, (binOp .mul t (.float .f64 4368491638549381120) (.float .f64 g)).run Try.prog W = .ok (.float .f64 r) W := fun t W => run_float_arith W .mul t .f64 _ g r hmul
  have hi := fun W => isInf_calls x W (by omega) false hinf
  have hN := fun W => isNaN_calls x W (by omega) false hnan
  have HI := Lib.hid hi
  have HN2 := Lib.hid hN
  have hyd : (y : Int) / 4503599627370496 = F := by omega
  have c1 : decide (E < -1075) = false := decide_eq_false (by omega)
  have c2 : decide (1023 < E) = false := decide_eq_false (by omega)
  have c3 : decide (E < -1022) = true := decide_eq_true (by omega)
  have c4 : -1075 ≤ E := by omega
  have f1 : (0 : Int) ≤ F := by omega
  have f2 : (F : Int) < 2048 := by omega
  clear HN hi hN hinf hnan hy hg hmul
  go_enter Try.func49, Try.ntmps49
  go_wp2_with (first | (go_at_call 40; refine (HI.out _).mono ?_; rintro e w' ⟨rfl, rfl⟩) | (go_at_call 41; refine (HN2.out _).mono ?_; rintro e w' ⟨rfl, rfl⟩) | (go_at_call 50; refine (HN'.out _).mono ?_; rintro e w' ⟨rfl, rfl⟩))
  go_ret
  exact ⟨rfl, rfl⟩
/-- A word's fields, of what is brought to 53 figures. -/
theorem normal_word {V : Nat} (hV : fits V) (hL : 52 ≤ V.log2) : ∃ f : Nat, nm V = 4503599627370496 + f ∧ f < 4503599627370496 ∧ wd V = (V.log2 - 51) * 4503599627370496 + f := by
  have h0 : V ≠ 0 := by intro hz; rw [hz] at hL; exact absurd hL (by decide)
  obtain ⟨r1, r2⟩ := nm_range h0
  refine ⟨nm V - 4503599627370496, by omega, by omega, ?_⟩
  rw [(wd_high hV hL).1]
  omega
theorem log_lt52 {V : Nat} (h0 : V ≠ 0) (h : V < 4503599627370496) : V.log2 < 52 := CR.log_mono (k := 52) h h0
theorem log_ge52 {V : Nat} (h : ¬ V < 4503599627370496) : 52 ≤ V.log2 := CR.log_ge (k := 52) (Nat.le_of_not_lt h)
theorem shift52 {V : Nat} (hV : fits V) (h0 : V ≠ 0) (h : V < 4503599627370496) : fits (V * 2 ^ 52) ∧ (V * 2 ^ 52).log2 = V.log2 + 52 ∧ nm (V * 2 ^ 52) = nm V := by
  have hl := log_lt52 h0 h
  have e1 : (V * 2 ^ 52).log2 = V.log2 + 52 := CF.log_shift V 52 h0
  refine ⟨fits_shift hV (by rw [e1]; omega), e1, ?_⟩
  unfold nm
  rw [e1, if_pos (show V.log2 ≤ 52 by omega)]
  by_cases h1 : V.log2 + 52 ≤ 52
  · rw [if_pos h1, show V.log2 = 0 by omega]; simp
  · rw [if_neg h1, show V.log2 + 52 - 52 = V.log2 by omega]
    have e2 : V * 2 ^ 52 = V * 2 ^ (52 - V.log2) * 2 ^ V.log2 := by rw [Nat.mul_assoc, ← Nat.pow_add, show 52 - V.log2 + V.log2 = 52 by omega]
    rw [e2, Nat.mul_div_cancel _ (Nat.pow_pos (by omega))]
/-- The word of a number's mantissa, as Frexp tells it. -/
def fr (V : Nat) : Nat := 4602678819172646912 + (nm V - 4503599627370496)
theorem fr_eq {V f : Nat} (h : nm V = 4503599627370496 + f) : fr V = 4602678819172646912 + f := by unfold fr; rw [h, Nat.add_sub_cancel_left]
theorem Frexp_wd {V : Nat} (hV : fits V) (h0 : V ≠ 0) (w : World) : Calls Try.prog 44 #[.float .f64 (wd V)] w fun e w' => e = .returned (.tuple #[.float .f64 (fr V), .int .i64 ((V.log2 : Int) - 1073)]) ∧ w = w' := by
  refine Frexp_calls _ _ _ w (fun W => ?_)
  have a1 := wd_lt V
  have a2 := zero_order hV h0
  have a3 := wd_inf hV
  have a4 := wd_nan V
  by_cases h : V < 4503599627370496
  · obtain ⟨s1, s2, s3⟩ := shift52 hV h0 h
    obtain ⟨f, hf1, hf2, hf3⟩ := normal_word s1 (by omega)
    have hl := log_lt52 h0 h
    rw [s3] at hf1
    have a5 := fun W' => normalize_low V W' hV h0 h
    have a6 := fr_eq hf1
    rw [s2] at hf3
    generalize wd V = x at *
    generalize wd (V * 2 ^ 52) = y at *
    generalize fr V = z at *
    clear s1 s2 s3 hf1 hV h0 h
    generalize V.log2 = L at *
    exact frexp_calls (L + 52 - 51) f (-52) _ x y z W a1 a2 a3 a4 a5 (by omega) hf2 hf3 (by omega) (by omega) (by omega) a6
  · have hl := log_ge52 h
    obtain ⟨f, hf1, hf2, hf3⟩ := normal_word hV hl
    have hlim := hV.2
    have a5 := fun W' => normalize_high V W' hV h
    have a6 := fr_eq hf1
    generalize wd V = x at *
    generalize fr V = z at *
    clear hf1 hV h0 h
    generalize V.log2 = L at *
    exact frexp_calls (L - 51) f 0 _ x x z W a1 a2 a3 a4 a5 (by omega) hf2 hf3 (by omega) (by omega) (by omega) a6
theorem Ldexp_calls (x r : Nat) (k : Int) (w : World) (H : ∀ W, Calls Try.prog 49 #[.float .f64 x, .int .i64 k] W fun e w' => e = .returned (.float .f64 r) ∧ W = w') :
    Calls Try.prog 45 #[.float .f64 x, .int .i64 k] w fun e w' => e = .returned (.float .f64 r) ∧ w = w' := by
  have HH := Lib.hid H
  clear H
  go_enter Try.func45, Try.ntmps45
  go_wp2_with (go_at_call 49; refine (HH.out _).mono ?_; rintro e w' ⟨rfl, rfl⟩)
  go_ret
  exact ⟨rfl, rfl⟩
theorem nm_shift {V k : Nat} (hV : fits V) (h0 : V ≠ 0) : nm (V * 2 ^ k) = nm V := by
  have e1 : (V * 2 ^ k).log2 = V.log2 + k := CF.log_shift V k h0
  unfold nm
  rw [e1]
  by_cases h1 : V.log2 + k ≤ 52
  · rw [if_pos h1, if_pos (by omega), Nat.mul_assoc, ← Nat.pow_add, show k + (52 - (V.log2 + k)) = 52 - V.log2 by omega]
  · rw [if_neg h1]
    by_cases h2 : V.log2 ≤ 52
    · rw [if_pos h2]
      have e2 : V * 2 ^ k = V * 2 ^ (52 - V.log2) * 2 ^ (V.log2 + k - 52) := by rw [Nat.mul_assoc, ← Nat.pow_add]; congr 2; omega
      rw [e2, Nat.mul_div_cancel _ (Nat.pow_pos (by omega))]
    · rw [if_neg h2]
      have hb := rep_big hV.1 (by omega)
      have e2 : V * 2 ^ k = V / 2 ^ (V.log2 - 52) * 2 ^ (V.log2 + k - 52) := by
        conv => lhs; rw [hb]
        rw [Nat.mul_assoc, ← Nat.pow_add]; congr 2; omega
      rw [e2, Nat.mul_div_cancel _ (Nat.pow_pos (by omega))]
theorem low_word {V k f : Nat} (h0 : V ≠ 0) (hh : V.log2 + k < 52) (hm : nm V = 4503599627370496 + f) (hf : f < 4503599627370496) : Ieee.double.mul 4368491638549381120 ((V.log2 + k + 2) * 4503599627370496 + f) = some (wd (V * 2 ^ k)) := by
  have hnm : nm V = V * 2 ^ (52 - V.log2) := by unfold nm; rw [if_pos (by omega)]
  have q1 := CF.near_scale false V (52 - V.log2 + 52) ((k : Int) - 1074) h0
  have q2 := CF.near_scale false V k ((k : Int) - 1074) h0
  rw [mul_some_fin read_pow53 (read_word (V.log2 + k + 2) f hf (by clear hnm q1 q2 hm; omega) (by clear hnm q1 q2 hm; omega)), show (false ^^ false) = false from rfl]
  refine congrArg some ?_
  rw [hm] at hnm
  rw [hnm, Nat.mul_comm, show (4503599627370496 : Nat) = 2 ^ 52 from rfl, Nat.mul_assoc, ← Nat.pow_add]
  unfold wd
  rw [show ((k : Int) - 1074 - (k : Int)) = -1074 by omega] at q2
  rw [q2, ← q1]
  refine congrArg _ ?_
  clear q1 q2 hnm hm
  generalize V.log2 = L at *
  omega
theorem Ldexp_wd {V k : Nat} (hV : fits V) (h0 : V ≠ 0) (hk : fits (V * 2 ^ k)) (kz : Int) (hkz : kz = k) (w : World) : Calls Try.prog 45 #[.float .f64 (wd V), .int .i64 kz] w fun e w' => e = .returned (.float .f64 (wd (V * 2 ^ k))) ∧ w = w' := by
  subst hkz
  refine Ldexp_calls _ _ _ w (fun W => ?_)
  have e1 : (V * 2 ^ k).log2 = V.log2 + k := CF.log_shift V k h0
  have hlim := hk.2
  rw [e1] at hlim
  have a1 := wd_lt V
  have a2 := zero_order hV h0
  have a3 := wd_inf hV
  have a4 := wd_nan V
  -- what is brought to 53 figures
  have hgo : ∀ (n : Int) (F f y : Nat), (∀ W', Calls Try.prog 50 #[.float .f64 (wd V)] W' fun e w' => e = .returned (.tuple #[.float .f64 y, .int .i64 n]) ∧ W' = w') → F < 2048 → f < 4503599627370496 → y = F * 4503599627370496 + f → -52 ≤ n → n ≤ 0 → n + F = (V.log2 : Int) - 51 → nm V = 4503599627370496 + f →
      Calls Try.prog 49 #[.float .f64 (wd V), .int .i64 (k : Int)] W fun e w' => e = .returned (.float .f64 (wd (V * 2 ^ k))) ∧ W = w' := by
    intro n F f y HN hF hf hy hn hn2 hs hm
    by_cases hh : 52 ≤ V.log2 + k
    · obtain ⟨f', g1, g2, g3⟩ := normal_word hk (by rw [e1]; exact hh)
      rw [nm_shift hV h0, hm] at g1
      have hff : f = f' := Nat.add_left_cancel g1
      subst hff
      rw [e1] at g3
      generalize wd V = x at *
      generalize wd (V * 2 ^ k) = g at *
      clear hm g1 e1 hV h0 hk
      generalize V.log2 = L at *
      exact ldexp_high F f n k ((L : Int) + k - 1074) x y g W a1 a2 a3 a4 HN hF hf hy hn hn2 (by omega) (by omega) (by omega) (by omega) (by omega) (by rw [g3]; congr 2; omega)
    · have hmul := low_word (k := k) h0 (Nat.lt_of_not_le hh) hm hf
      generalize wd V = x at *
      generalize wd (V * 2 ^ k) = g at *
      clear hm e1 hV h0 hk
      generalize V.log2 = L at *
      exact ldexp_low F f n k ((L : Int) + k - 1074) x y ((L + k + 2) * 4503599627370496 + f) W a1 a2 a3 a4 HN hF hf hy hn hn2 (by omega) (by omega) (by omega) (by omega) (by omega) (by rw [show ((L : Int) + k - 1074 + 1076).toNat = L + k + 2 by omega]) g hmul
  by_cases h : V < 4503599627370496
  · obtain ⟨s1, s2, s3⟩ := shift52 hV h0 h
    obtain ⟨f, hf1, hf2, hf3⟩ := normal_word s1 (by rw [s2]; omega)
    have hl := log_lt52 h0 h
    rw [s3] at hf1
    rw [s2] at hf3
    refine hgo (-52) (V.log2 + 52 - 51) f _ (fun W' => normalize_low V W' hV h0 h) ?_ hf2 hf3 ?_ ?_ ?_ hf1
    all_goals (clear hgo hf1 hf3 s1 s2 s3 a1 a2 a3 a4 hV hk e1; generalize V.log2 = L at *; omega)
  · have hl := log_ge52 h
    obtain ⟨f, hf1, hf2, hf3⟩ := normal_word hV hl
    have hlim2 := hV.2
    refine hgo 0 (V.log2 - 51) f _ (fun W' => normalize_high V W' hV h) ?_ hf2 hf3 ?_ ?_ ?_ hf1
    all_goals (clear hgo hf1 hf3 a1 a2 a3 a4 hV hk e1; generalize V.log2 = L at *; omega)
theorem fr_order {U V : Nat} (hU : U ≠ 0) (hV : V ≠ 0) : (FloatKind.f64.format.order (fr U) (fr V) == some .lt) = decide (nm U < nm V) := by
  obtain ⟨u1, u2⟩ := nm_range hU
  obtain ⟨v1, v2⟩ := nm_range hV
  unfold fr
  generalize nm U = a at *
  generalize nm V = b at *
  have k1 : ∀ c : Nat, 4503599627370496 ≤ c → c < 9007199254740992 → keyI (4602678819172646912 + (c - 4503599627370496)) = ((4602678819172646912 + (c - 4503599627370496) : Nat) : Int) ∧ nanB (4602678819172646912 + (c - 4503599627370496)) = false := by
    intro c h1 h2
    constructor
    · unfold keyI; rw [if_neg (by omega)]
    · unfold nanB; exact decide_eq_false (by omega)
  have h := order_eq (4602678819172646912 + (a - 4503599627370496)) (4602678819172646912 + (b - 4503599627370496)) (by omega) (by omega)
  rw [(k1 a u1 u2).1, (k1 b v1 v2).1, (k1 a u1 u2).2, (k1 b v1 v2).2, if_neg (by simp)] at h
  show (Ieee.double.order _ _ == some .lt) = _
  rw [h]
  clear h k1
  by_cases hc : a < b
  · rw [decide_eq_true hc, Int.compare_eq_lt.2 (by omega)]; rfl
  · rw [decide_eq_false hc]
    rcases Nat.lt_or_eq_of_le (Nat.le_of_not_lt hc) with h1 | h1
    · rw [Int.compare_eq_gt.2 (by omega)]; rfl
    · rw [Int.compare_eq_eq.2 (by omega)]; rfl
theorem ge_order {R Y : Nat} (hR : fits R) (hY : fits Y) : ∃ b1 b2 : Bool, (FloatKind.f64.format.order (wd R) (wd Y) == some .gt) = b1 ∧ (FloatKind.f64.format.order (wd R) (wd Y) == some .eq) = b2 ∧ (b1 || b2) = decide (Y ≤ R) := by
  have h := order_wd hR hY
  refine ⟨_, _, rfl, rfl, ?_⟩
  show ((Ieee.double.order (wd R) (wd Y) == some .gt) || (Ieee.double.order (wd R) (wd Y) == some .eq)) = _
  rw [h]
  clear h hR hY
  rcases Nat.lt_trichotomy R Y with h1 | h1 | h1
  · rw [Int.compare_eq_lt.2 (by omega), decide_eq_false (by omega)]; rfl
  · rw [Int.compare_eq_eq.2 (by omega), decide_eq_true (by omega)]; rfl
  · rw [Int.compare_eq_gt.2 (by omega), decide_eq_true (by omega)]; rfl
theorem wd_mono {U V : Nat} (hU : fits U) (hV : fits V) (h : U < V) : wd U < wd V := by
  have h1 := order_wd hU hV
  have l1 := wd_lt U
  have l2 := wd_lt V
  have k1 : keyI (wd U) = (wd U : Int) := by unfold keyI; rw [if_neg (Nat.not_le.2 l1)]
  have k2 : keyI (wd V) = (wd V : Int) := by unfold keyI; rw [if_neg (Nat.not_le.2 l2)]
  rw [order_eq _ _ (Nat.lt_trans l1 (by decide)) (Nat.lt_trans l2 (by decide)), wd_nan, wd_nan, if_neg (by simp), k1, k2, Int.compare_eq_lt.2 (show (U : Int) < V by omega)] at h1
  have h2 := Int.compare_eq_lt.1 (Option.some.inj h1)
  exact Int.ofNat_lt.1 h2
/-- One step of the rest. -/
theorem step_calls {R Y : Nat} (hR : fits R) (hY : fits Y) (h0 : Y ≠ 0) (h : Y ≤ R) : ∃ k : Nat, fits (Y * 2 ^ k) ∧ Y * 2 ^ k ≤ R ∧ R ≤ 2 * (Y * 2 ^ k) ∧ (nm R < nm Y → ((R.log2 : Int) - 1073 - 1) - ((Y.log2 : Int) - 1073) = k) ∧ (¬ nm R < nm Y → ((R.log2 : Int) - 1073) - ((Y.log2 : Int) - 1073) = k) := by
  obtain ⟨s1, s2⟩ := step_range h0 h hR hY
  have hfit : ∀ k : Nat, Y * 2 ^ k ≤ R → fits (Y * 2 ^ k) := fun k hk => fits_shift hY (by
    have : Y * 2 ^ k ≠ 0 := Nat.mul_ne_zero h0 (Nat.ne_of_gt (Nat.pow_pos (by decide)))
    have h1 := CR.log_ge (Nat.le_trans (CR.log_le this) hk)
    exact Nat.le_trans h1 hR.2)
  by_cases hc : nm R < nm Y
  · obtain ⟨q1, q2, q3⟩ := s1 hc
    exact ⟨R.log2 - 1 - Y.log2, hfit _ q2, q2, Nat.le_of_lt q3, fun _ => by clear hfit s1 s2 q2 q3 hc hR hY; omega, fun hn => absurd hc hn⟩
  · obtain ⟨q1, q2, q3⟩ := s2 hc
    exact ⟨R.log2 - Y.log2, hfit _ q2, q2, Nat.le_of_lt q3, fun hn => absurd hn hc, fun _ => by clear hfit s1 s2 q2 q3 hc hR hY; omega⟩
def wordOf : Value → Nat
  | .float _ b => b
  | _ => 0
theorem lt_zero_order (x : Nat) (hx : x < 18446744073709551616) (s : Bool) (m : Nat) (e : Int) (hr : Ieee.double.read x = .number s m e) (hm : m ≠ 0) : (FloatKind.f64.format.order x 0 == some .lt) = s := by
  have h := order_mag (read_num hx hr).2.2.1 (show (-1074 : Int) ≤ -1074 by omega) hr (show Ieee.double.read 0 = .number false 0 (-1074) by decide)
  show (Ieee.double.order x 0 == some .lt) = s
  rw [h]
  have hp : 0 < magV m e := Nat.mul_pos (by omega) (Nat.pow_pos (by omega))
  have hz : sg false (magV 0 (-1074)) = 0 := by unfold magV; rw [Nat.zero_mul]; rfl
  rw [hz]
  generalize magV m e = a at *
  unfold sg
  cases s
  · rw [if_neg (by simp), Int.compare_eq_gt.2 (by omega)]; rfl
  · rw [if_pos rfl, Int.compare_eq_lt.2 (by omega)]; rfl
theorem neg_float (b : Nat) (hb : b < 18446744073709551616) : Op.unary .neg (.float .f64 b) = pure (.float .f64 (negT b)) := by
  show (pure (Value.float .f64 (b ^^^ 9223372036854775808)) : Sem Value) = _
  rw [negT_xor b hb]
/-- What is left of numbers above 0, by words. -/
def ModRel (X Y : Nat) (v : Value) : Prop := ∃ R : Nat, v = .float .f64 (wd R) ∧ fits R ∧ R % Y = X % Y
set_option maxRecDepth 100000 in
/-- The rest of numbers above 0. -/
theorem mod_pos (X Y : Nat) (y : Nat) (w : World) (hX : fits X) (hY : fits Y) (h0 : Y ≠ 0)
    (hy : y < 18446744073709551616) (habs : y % 9223372036854775808 = wd Y) (hyn : nanB y = false) (hy0 : (FloatKind.f64.format.order y 0 == some .eq) = false)
    (hs : (FloatKind.f64.format.order (wd X) 0 == some .lt) = false) (r : Nat) (hr : wd (X % Y) = r) :
    Calls Try.prog 38 #[.float .f64 (wd X), .float .f64 y] w fun e w' => e = .returned (.float .f64 r) ∧ w = w' := by
  have hx := Nat.lt_trans (wd_lt X) (show 9223372036854775808 < 18446744073709551616 by decide)
  have HI := Lib.hid (fun W => isInf_calls (wd X) W hx false (wd_inf hX))
  have HNx := Lib.hid (fun W => isNaN_calls (wd X) W hx false (wd_nan X))
  have HNy := Lib.hid (fun W => isNaN_calls y W hy false hyn)
  have ha := fun W => abs_calls y W hy
  rw [habs] at ha
  have HA := Lib.hid ha
  have HFY := Lib.hid (fun W => Frexp_wd hY h0 W)
  have HR := Lib.hid hr
  have HX := Lib.hid hX
  have HY := Lib.hid hY
  have H0 := Lib.hid h0
  have ly1 : (0 : Int) ≤ (Y.log2 : Int) := by omega
  have ly2 : (Y.log2 : Int) ≤ 2097 := by have := hY.2; omega
  clear ha hr habs hyn hx hX hY h0
  go_enter Try.func38, Try.ntmps38
  go_wp2_with (first | (go_at_call 40; refine (HI.out _).mono ?_; rintro e w' ⟨rfl, rfl⟩) | (go_at_call 41; (first | (with_reducible refine (HNx.out _).mono ?_) | (with_reducible refine (HNy.out _).mono ?_)); rintro e w' ⟨rfl, rfl⟩) | (go_at_call 43; refine (HA.out _).mono ?_; rintro e w' ⟨rfl, rfl⟩) | (go_at_call 44; refine (HFY.out _).mono ?_; rintro e w' ⟨rfl, rfl⟩))
  go_loop [7] (ModRel X Y) (fun v => wordOf v)
  case atStart => exact ⟨X, rfl, HX.out, rfl⟩
  case round =>
    obtain ⟨R, rfl, hR, hmod⟩ := hrel
    have HM := Lib.hid hmod
    obtain ⟨b1, b2, o1, o2, o3⟩ := ge_order hR HY.out
    have O3 := Lib.hid o3
    clear hmod o3 HNx HNy HA HI
    by_cases hge : Y ≤ R
    · obtain ⟨k, hk1, hk2, hk3, hk4, hk5⟩ := step_calls hR HY.out H0.out hge
      have hR0 : R ≠ 0 := fun h => H0.out (Nat.le_zero.1 (h ▸ hge))
      have ho := fr_order hR0 H0.out
      have hsub := sub_wd hR hk1 hk2
      have hop : ∀ t W, (binOp .sub t (.float .f64 (wd R)) (.float .f64 (wd (Y * 2 ^ k)))).run Try.prog W = .ok (.float .f64 (wd (R - Y * 2 ^ k))) W := fun t W => run_float_arith W .sub t .f64 _ _ _ hsub
      have HFR := Lib.hid (fun W => Frexp_wd hR hR0 W)
      have HL := Lib.hid (fun (kz : Int) (hkz : kz = k) W => Ldexp_wd HY.out H0.out hk1 kz hkz W)
      have HR' := Lib.hid hR
      have HK := Lib.hid (And.intro hk1 (And.intro hk2 hk3))
      have H4 := Lib.hid hk4
      have H5 := Lib.hid hk5
      have lr1 : (0 : Int) ≤ (R.log2 : Int) := by omega
      have lr2 : (R.log2 : Int) ≤ 2097 := by have := hR.2; omega
      have hrel' : ModRel X Y (.float .f64 (wd (R - Y * 2 ^ k))) := by
        refine ⟨_, rfl, sub_fits hR hk1 hk2 hk3, ?_⟩
        rw [← HM.out]
        conv => rhs; rw [← Nat.sub_add_cancel hk2]
        rw [Nat.mul_comm Y, Nat.add_mul_mod_self_right]
      have hless : wordOf (.float .f64 (wd (R - Y * 2 ^ k))) < wordOf (.float .f64 (wd R)) := by
        refine wd_mono (sub_fits hR hk1 hk2 hk3) hR ?_
        have : 0 < Y * 2 ^ k := Nat.mul_pos (Nat.pos_of_ne_zero H0.out) (Nat.pow_pos (by decide))
        exact Nat.sub_lt (Nat.pos_of_ne_zero hR0) this
      have HREL := Lib.hid hrel'
      have HLESS := Lib.hid hless
      clear hsub hR hk1 hk2 hk3 hk4 hk5 hR0 hrel' hless
      have hb : b1 = true ∨ (b1 = false ∧ b2 = true) := by
        have := O3.out
        rw [decide_eq_true hge] at this
        cases b1
        · exact .inr ⟨rfl, this⟩
        · exact .inl rfl
      clear hge
      by_cases hc : nm R < nm Y
      · rw [decide_eq_true hc] at ho
        have HC := Lib.hid hc
        clear hc
        rcases hb with rfl | ⟨rfl, rfl⟩
        all_goals
          go_wp2_with (first | (go_at_call 44; refine (HFR.out _).mono ?_; rintro e w' ⟨rfl, rfl⟩) | (go_at_call 45; refine (HL.out _ (H4.out HC.out) _).mono ?_; rintro e w' ⟨rfl, rfl⟩))
          go_round
          case rel => exact HREL.out
          case measure => exact HLESS.out
      · rw [decide_eq_false hc] at ho
        have HC := Lib.hid hc
        clear hc
        rcases hb with rfl | ⟨rfl, rfl⟩
        all_goals
          go_wp2_with (first | (go_at_call 44; refine (HFR.out _).mono ?_; rintro e w' ⟨rfl, rfl⟩) | (go_at_call 45; refine (HL.out _ (H5.out HC.out) _).mono ?_; rintro e w' ⟨rfl, rfl⟩))
          go_round
          case rel => exact HREL.out
          case measure => exact HLESS.out
    · have hb : b1 = false ∧ b2 = false := by
        have := O3.out
        rw [decide_eq_false hge] at this
        cases b1 <;> cases b2 <;> first | exact ⟨rfl, rfl⟩ | cases this
      obtain ⟨rfl, rfl⟩ := hb
      have hfin : wd R = r := by rw [← HR.out, ← HM.out, Nat.mod_eq_of_lt (Nat.lt_of_not_le hge)]
      have HF := Lib.hid hfin
      clear hfin hge
      go_wp2
      go_ret
      exact ⟨congrArg (fun z => Ending.returned (Value.float .f64 z)) HF.out, rfl⟩
set_option maxRecDepth 100000 in
theorem mod_neg (X Y : Nat) (x y : Nat) (w : World) (hx : x < 18446744073709551616) (hxi : infB x = false) (hxn : nanB x = false) (hxX : negT x = wd X) (hX : fits X) (hY : fits Y) (h0 : Y ≠ 0)
    (hy : y < 18446744073709551616) (habs : y % 9223372036854775808 = wd Y) (hyn : nanB y = false) (hy0 : (FloatKind.f64.format.order y 0 == some .eq) = false)
    (hs : (FloatKind.f64.format.order x 0 == some .lt) = true) (r : Nat) (hr : negT (wd (X % Y)) = r) :
    Calls Try.prog 38 #[.float .f64 x, .float .f64 y] w fun e w' => e = .returned (.float .f64 r) ∧ w = w' := by
  have HI := Lib.hid (fun W => isInf_calls x W hx false hxi)
  have HNx := Lib.hid (fun W => isNaN_calls x W hx false hxn)
  have hu := neg_float x hx
  rw [hxX] at hu
  have HNy := Lib.hid (fun W => isNaN_calls y W hy false hyn)
  have ha := fun W => abs_calls y W hy
  rw [habs] at ha
  have HA := Lib.hid ha
  have HFY := Lib.hid (fun W => Frexp_wd hY h0 W)
  have HR := Lib.hid hr
  have HX := Lib.hid hX
  have HY := Lib.hid hY
  have H0 := Lib.hid h0
  have ly1 : (0 : Int) ≤ (Y.log2 : Int) := by omega
  have ly2 : (Y.log2 : Int) ≤ 2097 := by have := hY.2; omega
  clear ha hr habs hyn hx hX hY h0 hxi hxn hxX
  go_enter Try.func38, Try.ntmps38
  go_wp2_with (first | (go_at_call 40; refine (HI.out _).mono ?_; rintro e w' ⟨rfl, rfl⟩) | (go_at_call 41; (first | (with_reducible refine (HNx.out _).mono ?_) | (with_reducible refine (HNy.out _).mono ?_)); rintro e w' ⟨rfl, rfl⟩) | (go_at_call 43; refine (HA.out _).mono ?_; rintro e w' ⟨rfl, rfl⟩) | (go_at_call 44; refine (HFY.out _).mono ?_; rintro e w' ⟨rfl, rfl⟩))
  go_loop [7] (ModRel X Y) (fun v => wordOf v)
  case atStart => exact ⟨X, rfl, HX.out, rfl⟩
  case round =>
    obtain ⟨R, rfl, hR, hmod⟩ := hrel
    have HM := Lib.hid hmod
    obtain ⟨b1, b2, o1, o2, o3⟩ := ge_order hR HY.out
    have O3 := Lib.hid o3
    clear hmod o3 HNx HNy HA HI
    by_cases hge : Y ≤ R
    · obtain ⟨k, hk1, hk2, hk3, hk4, hk5⟩ := step_calls hR HY.out H0.out hge
      have hR0 : R ≠ 0 := fun h => H0.out (Nat.le_zero.1 (h ▸ hge))
      have ho := fr_order hR0 H0.out
      have hsub := sub_wd hR hk1 hk2
      have hop : ∀ t W, (binOp .sub t (.float .f64 (wd R)) (.float .f64 (wd (Y * 2 ^ k)))).run Try.prog W = .ok (.float .f64 (wd (R - Y * 2 ^ k))) W := fun t W => run_float_arith W .sub t .f64 _ _ _ hsub
      have HFR := Lib.hid (fun W => Frexp_wd hR hR0 W)
      have HL := Lib.hid (fun (kz : Int) (hkz : kz = k) W => Ldexp_wd HY.out H0.out hk1 kz hkz W)
      have HR' := Lib.hid hR
      have HK := Lib.hid (And.intro hk1 (And.intro hk2 hk3))
      have H4 := Lib.hid hk4
      have H5 := Lib.hid hk5
      have lr1 : (0 : Int) ≤ (R.log2 : Int) := by omega
      have lr2 : (R.log2 : Int) ≤ 2097 := by have := hR.2; omega
      have hrel' : ModRel X Y (.float .f64 (wd (R - Y * 2 ^ k))) := by
        refine ⟨_, rfl, sub_fits hR hk1 hk2 hk3, ?_⟩
        rw [← HM.out]
        conv => rhs; rw [← Nat.sub_add_cancel hk2]
        rw [Nat.mul_comm Y, Nat.add_mul_mod_self_right]
      have hless : wordOf (.float .f64 (wd (R - Y * 2 ^ k))) < wordOf (.float .f64 (wd R)) := by
        refine wd_mono (sub_fits hR hk1 hk2 hk3) hR ?_
        have : 0 < Y * 2 ^ k := Nat.mul_pos (Nat.pos_of_ne_zero H0.out) (Nat.pow_pos (by decide))
        exact Nat.sub_lt (Nat.pos_of_ne_zero hR0) this
      have HREL := Lib.hid hrel'
      have HLESS := Lib.hid hless
      clear hsub hR hk1 hk2 hk3 hk4 hk5 hR0 hrel' hless
      have hb : b1 = true ∨ (b1 = false ∧ b2 = true) := by
        have := O3.out
        rw [decide_eq_true hge] at this
        cases b1
        · exact .inr ⟨rfl, this⟩
        · exact .inl rfl
      clear hge
      by_cases hc : nm R < nm Y
      · rw [decide_eq_true hc] at ho
        have HC := Lib.hid hc
        clear hc
        rcases hb with rfl | ⟨rfl, rfl⟩
        all_goals
          go_wp2_with (first | (go_at_call 44; refine (HFR.out _).mono ?_; rintro e w' ⟨rfl, rfl⟩) | (go_at_call 45; refine (HL.out _ (H4.out HC.out) _).mono ?_; rintro e w' ⟨rfl, rfl⟩))
          go_round
          case rel => exact HREL.out
          case measure => exact HLESS.out
      · rw [decide_eq_false hc] at ho
        have HC := Lib.hid hc
        clear hc
        rcases hb with rfl | ⟨rfl, rfl⟩
        all_goals
          go_wp2_with (first | (go_at_call 44; refine (HFR.out _).mono ?_; rintro e w' ⟨rfl, rfl⟩) | (go_at_call 45; refine (HL.out _ (H5.out HC.out) _).mono ?_; rintro e w' ⟨rfl, rfl⟩))
          go_round
          case rel => exact HREL.out
          case measure => exact HLESS.out
    · have hb : b1 = false ∧ b2 = false := by
        have := O3.out
        rw [decide_eq_false hge] at this
        cases b1 <;> cases b2 <;> first | exact ⟨rfl, rfl⟩ | cases this
      obtain ⟨rfl, rfl⟩ := hb
      have hu2 := neg_float (wd R) (Nat.lt_trans (wd_lt R) (show 9223372036854775808 < 18446744073709551616 by decide))
      have hfin : negT (wd R) = r := by rw [← HR.out, ← HM.out, Nat.mod_eq_of_lt (Nat.lt_of_not_le hge)]
      have HF := Lib.hid hfin
      clear hfin hge
      go_wp2
      go_ret
      exact ⟨congrArg (fun z => Ending.returned (Value.float .f64 z)) HF.out, rfl⟩
set_option maxRecDepth 100000 in
/-- No round: what is less than what is taken stays. -/
theorem mod_none (x y ya fy r0 : Nat) (ey : Int) (s : Bool) (w : World) (hx : x < 18446744073709551616) (hy : y < 18446744073709551616) (hxi : infB x = false) (hxn : nanB x = false) (hyn : nanB y = false) (hy0 : (FloatKind.f64.format.order y 0 == some .eq) = false) (habs : y % 9223372036854775808 = ya)
    (HFY : ∀ W, Calls Try.prog 44 #[.float .f64 ya] W fun e w' => e = .returned (.tuple #[.float .f64 fy, .int .i64 ey]) ∧ W = w') (hs : (FloatKind.f64.format.order x 0 == some .lt) = s) (hr0 : r0 = if s = true then negT x else x)
    (o1 : (FloatKind.f64.format.order r0 ya == some .gt) = false) (o2 : (FloatKind.f64.format.order r0 ya == some .eq) = false) :
    Calls Try.prog 38 #[.float .f64 x, .float .f64 y] w fun e w' => e = .returned (.float .f64 x) ∧ w = w' := by
  have HI := Lib.hid (fun W => isInf_calls x W hx false hxi)
  have HNx := Lib.hid (fun W => isNaN_calls x W hx false hxn)
  have HNy := Lib.hid (fun W => isNaN_calls y W hy false hyn)
  have ha := fun W => abs_calls y W hy
  rw [habs] at ha
  have HA := Lib.hid ha
  have HFY' := Lib.hid HFY
  have hu := neg_float x hx
  have hnl := negT_lt x hx
  have hnn : negT (negT x) = x := by unfold negT; split <;> split <;> omega
  have hu2 := neg_float (negT x) hnl
  rw [hnn] at hu2
  clear ha HFY habs hyn hxi hxn hnn hnl
  cases s
  · rw [if_neg (by simp)] at hr0
    subst hr0
    go_enter Try.func38, Try.ntmps38
    go_wp2_with (first | (go_at_call 40; refine (HI.out _).mono ?_; rintro e w' ⟨rfl, rfl⟩) | (go_at_call 41; (first | (with_reducible refine (HNx.out _).mono ?_) | (with_reducible refine (HNy.out _).mono ?_)); rintro e w' ⟨rfl, rfl⟩) | (go_at_call 43; refine (HA.out _).mono ?_; rintro e w' ⟨rfl, rfl⟩) | (go_at_call 44; refine (HFY'.out _).mono ?_; rintro e w' ⟨rfl, rfl⟩))
    go_loop [7] (fun v => v = .float .f64 r0) (fun v => wordOf v)
    case atStart => rfl
    case round =>
      subst hrel
      go_wp2
      go_ret
      exact ⟨rfl, rfl⟩
  · rw [if_pos rfl] at hr0
    subst hr0
    go_enter Try.func38, Try.ntmps38
    go_wp2_with (first | (go_at_call 40; refine (HI.out _).mono ?_; rintro e w' ⟨rfl, rfl⟩) | (go_at_call 41; (first | (with_reducible refine (HNx.out _).mono ?_) | (with_reducible refine (HNy.out _).mono ?_)); rintro e w' ⟨rfl, rfl⟩) | (go_at_call 43; refine (HA.out _).mono ?_; rintro e w' ⟨rfl, rfl⟩) | (go_at_call 44; refine (HFY'.out _).mono ?_; rintro e w' ⟨rfl, rfl⟩))
    go_loop [7] (fun v => v = .float .f64 (negT x)) (fun v => wordOf v)
    case atStart => rfl
    case round =>
      subst hrel
      go_wp2
      go_ret
      exact ⟨rfl, rfl⟩
theorem Frexp_inf (w : World) : Calls Try.prog 44 #[.float .f64 9218868437227405312] w fun e w' => e = .returned (.tuple #[.float .f64 9218868437227405312, .int .i64 0]) ∧ w = w' := by
  refine Frexp_calls _ _ _ w (fun W => ?_)
  have HI := Lib.hid (fun W => isInf_calls 9218868437227405312 W (by decide) true (by decide))
  have hz : (FloatKind.f64.format.order 9218868437227405312 0 == some .eq) = false := by decide
  go_enter Try.func47, Try.ntmps47
  go_wp2_with (go_at_call 40; refine (HI.out _).mono ?_; rintro e w' ⟨rfl, rfl⟩)
  go_ret2
  exact ⟨rfl, rfl⟩
theorem mod_nan (x y : Nat) (w : World) (hx : x < 18446744073709551616) (hy : y < 18446744073709551616) (h : (FloatKind.f64.format.order y 0 == some .eq) = true ∨ infB x = true ∨ nanB x = true ∨ nanB y = true) :
    Calls Try.prog 38 #[.float .f64 x, .float .f64 y] w fun e w' => e = .returned (.float .f64 9221120237041090561) ∧ w = w' := by
  have HI := Lib.hid (fun W => isInf_calls x W hx _ rfl)
  have HNx := Lib.hid (fun W => isNaN_calls x W hx _ rfl)
  have HNy := Lib.hid (fun W => isNaN_calls y W hy _ rfl)
  have HC := Lib.hid (fun W => nan_calls W)
  generalize infB x = b1 at *
  generalize nanB x = b2 at *
  generalize nanB y = b3 at *
  have hb0 : ∃ b0, (FloatKind.f64.format.order y 0 == some .eq) = b0 := ⟨_, rfl⟩
  obtain ⟨b0, hb0⟩ := hb0
  rw [hb0] at h
  have H := Lib.hid h
  clear h
  cases b0
  · cases b1
    · cases b2
      · cases b3
        · exact absurd H.out (by simp)
        · go_enter Try.func38, Try.ntmps38
          go_wp2_with (first | (go_at_call 40; refine (HI.out _).mono ?_; rintro e w' ⟨rfl, rfl⟩) | (go_at_call 41; (first | (with_reducible refine (HNx.out _).mono ?_) | (with_reducible refine (HNy.out _).mono ?_)); rintro e w' ⟨rfl, rfl⟩) | (go_at_call 42; refine (HC.out _).mono ?_; rintro e w' ⟨rfl, rfl⟩))
          go_ret
          exact ⟨rfl, rfl⟩
      · go_enter Try.func38, Try.ntmps38
        go_wp2_with (first | (go_at_call 40; refine (HI.out _).mono ?_; rintro e w' ⟨rfl, rfl⟩) | (go_at_call 41; refine (HNx.out _).mono ?_; rintro e w' ⟨rfl, rfl⟩) | (go_at_call 42; refine (HC.out _).mono ?_; rintro e w' ⟨rfl, rfl⟩))
        go_ret
        exact ⟨rfl, rfl⟩
    · go_enter Try.func38, Try.ntmps38
      go_wp2_with (first | (go_at_call 40; refine (HI.out _).mono ?_; rintro e w' ⟨rfl, rfl⟩) | (go_at_call 42; refine (HC.out _).mono ?_; rintro e w' ⟨rfl, rfl⟩))
      go_ret
      exact ⟨rfl, rfl⟩
  · go_enter Try.func38, Try.ntmps38
    go_wp2_with (go_at_call 42; refine (HC.out _).mono ?_; rintro e w' ⟨rfl, rfl⟩)
    go_ret
    exact ⟨rfl, rfl⟩
theorem num_not {x m : Nat} {s : Bool} {e : Int} (hx : x < 18446744073709551616) (h : Ieee.double.read x = .number s m e) : infB x = false ∧ nanB x = false := by
  constructor
  · unfold infB
    refine decide_eq_false ?_
    intro hi
    rw [read_def x hx, if_neg (by omega), if_neg (by omega), if_pos hi] at h
    cases h
  · cases hn : nanB x
    · rfl
    · obtain ⟨_, _, h2⟩ := (read_nan hx).2 hn
      rw [h] at h2; cases h2
theorem abs_wd {y n : Nat} {t : Bool} {j : Int} (hy : y < 18446744073709551616) (h : Ieee.double.read y = .number t n j) : fits (magV n j) ∧ y % 9223372036854775808 = wd (magV n j) ∧ (t = false → y = wd (magV n j)) ∧ (t = true → negT y = wd (magV n j)) := by
  cases t
  · obtain ⟨f1, f2⟩ := fits_read hy h
    have hl := wd_lt (magV n j)
    rw [f2] at hl
    exact ⟨f1, by rw [f2]; exact Nat.mod_eq_of_lt hl, fun _ => f2.symm, fun h => by cases h⟩
  · have hr : Ieee.double.read (negT y) = .number false n j := by rw [negT_read y hy, h]; rfl
    obtain ⟨f1, f2⟩ := fits_read (negT_lt y hy) hr
    have hl := wd_lt (magV n j)
    rw [f2] at hl
    refine ⟨f1, ?_, (fun h => by cases h), fun _ => f2.symm⟩
    rw [f2]
    unfold negT at hl ⊢
    split <;> rename_i h1
    · omega
    · rw [if_neg h1] at hl; omega
/-- The rest of numbers of 64 bits. -/
def modT (x y : Nat) : Nat := match Ieee.double.read x, Ieee.double.read y with
  | .number s m i, .number _ n j => if n = 0 then 9221120237041090560 else if s = true then negT (wd (magV m i % magV n j)) else wd (magV m i % magV n j)
  | .number _ _ _, .infinity _ => x
  | _, _ => 9221120237041090560
def impl_Rem (a0 a1 : Int) : Option Int := if inU64 a0 = true then (if inU64 a1 = true then some (((modT a0.toNat a1.toNat : Nat)) : Int) else none) else none
/-- The library's Mod tells the rest, or a NaN. -/
theorem mod_calls (x y : Nat) (hx : x < 18446744073709551616) (hy : y < 18446744073709551616) : ∃ z : Nat, z < 18446744073709551616 ∧ ((nanB z = false ∧ z = modT x y) ∨ (nanB z = true ∧ modT x y = 9221120237041090560)) ∧ ∀ W, Calls Try.prog 38 #[.float .f64 x, .float .f64 y] W fun e w' => e = .returned (.float .f64 z) ∧ W = w' := by
  have hnan : ((FloatKind.f64.format.order y 0 == some .eq) = true ∨ infB x = true ∨ nanB x = true ∨ nanB y = true) → modT x y = 9221120237041090560 → ∃ z : Nat, z < 18446744073709551616 ∧ ((nanB z = false ∧ z = modT x y) ∨ (nanB z = true ∧ modT x y = 9221120237041090560)) ∧ ∀ W, Calls Try.prog 38 #[.float .f64 x, .float .f64 y] W fun e w' => e = .returned (.float .f64 z) ∧ W = w' :=
    fun h hm => ⟨9221120237041090561, by decide, .inr ⟨by decide, hm⟩, fun W => mod_nan x y W hx hy h⟩
  cases hrx : Ieee.double.read x with
  | nan s f => exact hnan (.inr (.inr (.inl ((read_nan hx).1 ⟨s, f, hrx⟩)))) (by unfold modT; rw [hrx])
  | infinity s =>
    refine hnan (.inr (.inl ?_)) (by unfold modT; rw [hrx])
    unfold infB
    rw [(read_inf hx hrx).2]
    cases s <;> decide
  | number s m i =>
    obtain ⟨nx1, nx2⟩ := num_not hx hrx
    obtain ⟨fx, ax, ax1, ax2⟩ := abs_wd hx hrx
    cases hry : Ieee.double.read y with
    | nan t f => exact hnan (.inr (.inr (.inr ((read_nan hy).1 ⟨t, f, hry⟩)))) (by unfold modT; rw [hrx, hry])
    | infinity t =>
      have hm : modT x y = x := by unfold modT; rw [hrx, hry]
      have hyn : nanB y = false := by
        cases hn : nanB y
        · rfl
        · obtain ⟨_, _, h2⟩ := (read_nan hy).2 hn
          rw [hry] at h2; cases h2
      have hya : y % 9223372036854775808 = 9218868437227405312 := by
        rw [(read_inf hy hry).2]
        cases t <;> decide
      have hy0 : (FloatKind.f64.format.order y 0 == some .eq) = false := by
        show (Ieee.double.order y 0 == some .eq) = false
        unfold Ieee.Format.order
        rw [hry, show Ieee.double.read 0 = .number false 0 (-1074) by decide]
        cases t <;> rfl
      have hlt : ∀ r0 : Nat, (∃ s' m' i', Ieee.double.read r0 = .number s' m' i') → Ieee.double.order r0 9218868437227405312 = some .lt := by
        rintro r0 ⟨s', m', i', hr⟩
        unfold Ieee.Format.order
        rw [hr, show Ieee.double.read 9218868437227405312 = .infinity false by decide]; rfl
      refine ⟨x, hx, .inl ⟨nx2, hm.symm⟩, fun W => ?_⟩
      have hr0 : ∀ b : Bool, ∃ s' m' i', Ieee.double.read (if b = true then negT x else x) = .number s' m' i' := by
        intro b
        cases b
        · exact ⟨s, m, i, hrx⟩
        · exact ⟨!s, m, i, by rw [if_pos rfl, negT_read x hx, hrx]; rfl⟩
      exact mod_none x y 9218868437227405312 9218868437227405312 _ 0 _ W hx hy nx1 nx2 hyn hy0 hya Frexp_inf rfl rfl (by show (Ieee.double.order _ _ == some .gt) = false; rw [hlt _ (hr0 _)]; rfl) (by show (Ieee.double.order _ _ == some .eq) = false; rw [hlt _ (hr0 _)]; rfl)
    | number t n j =>
      obtain ⟨ny1, ny2⟩ := num_not hy hry
      obtain ⟨fy, ay, _, _⟩ := abs_wd hy hry
      obtain ⟨_, _, bj, _, _, _, _⟩ := read_num hy hry
      obtain ⟨_, _, bi, _, _, _, _⟩ := read_num hx hrx
      have hz0 : Ieee.double.read 0 = .number false 0 (-1074) := by decide
      by_cases h : n = 0
      · subst h
        refine hnan (.inl ?_) (by unfold modT; rw [hrx, hry]; rfl)
        show (Ieee.double.order y 0 == some .eq) = true
        rw [order_mag bj (by decide) hry hz0]
        have e1 : magV 0 j = 0 := Nat.zero_mul _
        have e2 : magV 0 (-1074) = 0 := Nat.zero_mul _
        rw [e1, e2]
        cases t <;> decide
      · have hm : modT x y = if s = true then negT (wd (magV m i % magV n j)) else wd (magV m i % magV n j) := by
          unfold modT; rw [hrx, hry]; exact if_neg h
        have hY0 : magV n j ≠ 0 := Nat.mul_ne_zero h (Nat.ne_of_gt (Nat.pow_pos (by decide)))
        have e2 : magV 0 (-1074) = 0 := Nat.zero_mul _
        have hy0 : (FloatKind.f64.format.order y 0 == some .eq) = false := by
          show (Ieee.double.order y 0 == some .eq) = false
          rw [order_mag bj (by decide) hry hz0, e2]
          generalize magV n j = a at *
          cases t
          · rw [Int.compare_eq_gt.2 (show sg false 0 < sg false a by unfold sg; simp; omega)]; rfl
          · rw [Int.compare_eq_lt.2 (show sg true a < sg false 0 by unfold sg; simp; omega)]; rfl
        have hres : ∀ V : Nat, nanB (wd V) = false ∧ wd V < 18446744073709551616 := fun V => ⟨wd_nan V, Nat.lt_trans (wd_lt V) (by decide)⟩
        cases s
        · rw [if_neg (by simp)] at hm
          refine ⟨wd (magV m i % magV n j), (hres _).2, .inl ⟨(hres _).1, hm.symm⟩, fun W => ?_⟩
          have hxe := ax1 rfl
          have hs : (FloatKind.f64.format.order x 0 == some .lt) = false := by
            show (Ieee.double.order x 0 == some .lt) = false
            rw [order_mag bi (by decide) hrx hz0, e2]
            generalize magV m i = a at *
            rcases Nat.eq_zero_or_pos a with ha | ha
            · subst ha; decide
            · rw [Int.compare_eq_gt.2 (show sg false 0 < sg false a by unfold sg; simp; omega)]; rfl
          rw [hxe] at hs ⊢
          exact mod_pos _ _ y W fx fy hY0 hy ay ny2 hy0 hs _ rfl
        · rw [if_pos rfl] at hm
          refine ⟨negT (wd (magV m i % magV n j)), negT_lt _ (hres _).2, .inl ⟨by rw [negT_nan _ (hres _).2]; exact (hres _).1, hm.symm⟩, fun W => ?_⟩
          by_cases hm0 : m = 0
          · subst hm0
            have e1 : magV 0 i = 0 := Nat.zero_mul _
            have hxe := ax2 rfl
            rw [e1, wd_zero] at hxe
            have hx63 : x = 9223372036854775808 := by unfold negT at hxe; split at hxe <;> omega
            rw [e1, Nat.zero_mod, wd_zero, show negT 0 = x by rw [hx63]; decide]
            have hs : (FloatKind.f64.format.order x 0 == some .lt) = false := by rw [hx63]; decide
            have ho : Ieee.double.order x (wd (magV n j)) = some .lt := by
              obtain ⟨n', j', p1, p2, p3, p4⟩ := wd_read fy
              rw [order_mag bi p2 hrx p1, e1]
              have : magV n' j' = magV n j := p3
              rw [this]
              generalize magV n j = a at *
              rw [Int.compare_eq_lt.2 (show sg true 0 < sg false a by unfold sg; simp; omega)]
            exact mod_none x y _ _ x _ false W hx hy nx1 nx2 ny2 hy0 ay (fun W' => Frexp_wd fy hY0 W') hs (by simp) (by show (Ieee.double.order _ _ == some .gt) = false; rw [ho]; rfl) (by show (Ieee.double.order _ _ == some .eq) = false; rw [ho]; rfl)
          · exact mod_neg _ _ x y W hx nx1 nx2 (ax2 rfl) fx fy hY0 hy ay ny2 hy0 (lt_zero_order x hx true m i hrx hm0) _ rfl
theorem Mod_calls (x y z : Nat) (w : World) (H : ∀ W, Calls Try.prog 38 #[.float .f64 x, .float .f64 y] W fun e w' => e = .returned (.float .f64 z) ∧ W = w') :
    Calls Try.prog 30 #[.float .f64 x, .float .f64 y] w fun e w' => e = .returned (.float .f64 z) ∧ w = w' := by
  have HH := Lib.hid H
  clear H
  go_enter Try.func30, Try.ntmps30
  go_wp2_with (go_at_call 38; refine (HH.out _).mono ?_; rintro e w' ⟨rfl, rfl⟩)
  go_ret
  exact ⟨rfl, rfl⟩
theorem impl_Rem_calls (a0 a1 r : Int) (w : World) (h : impl_Rem a0 a1 = some r) :
    Calls Try.prog 20 #[.int .u64 a0, .int .u64 a1] w fun e w' => e = .returned (.int .u64 r) ∧ Drawn0 w w' := by
  unfold impl_Rem at h
  by_cases h0 : inU64 a0 = true
  · rw [if_pos h0] at h
    by_cases h1 : inU64 a1 = true
    · rw [if_pos h1] at h
      obtain ⟨x, rfl, hx⟩ := inU64_nat h0
      obtain ⟨y, rfl, hy⟩ := inU64_nat h1
      obtain rfl := Option.some.inj h
      clear h h0 h1
      simp only [Int.toNat_natCast]
      obtain ⟨z, hz, hor, H⟩ := mod_calls x y hx hy
      have HM := Lib.hid (fun W => Mod_calls x y z W H)
      clear H
      rcases hor with ⟨hn, he⟩ | ⟨hn, he⟩
      · have HW := Lib.hid (fun W => word_num z W hz hn)
        rw [← he]
        clear he hn hz hx hy
        go_enter Try.func20, Try.ntmps20
        go_wp2_with (first | (go_at_call 25; refine (real64_calls _ _).mono ?_; rintro e w' ⟨rfl, rfl⟩) | (go_at_call 30; refine (HM.out _).mono ?_; rintro e w' ⟨rfl, rfl⟩) | (go_at_call 24; refine (HW.out _).mono ?_; rintro e w' ⟨rfl, rfl⟩))
        all_goals (go_ret; exact ⟨rfl, Drawn0.refl _⟩)
      · have HW := Lib.hid (fun W => word_nan z W hz hn)
        rw [he]
        clear he hn hz hx hy
        go_enter Try.func20, Try.ntmps20
        go_wp2_with (first | (go_at_call 25; refine (real64_calls _ _).mono ?_; rintro e w' ⟨rfl, rfl⟩) | (go_at_call 30; refine (HM.out _).mono ?_; rintro e w' ⟨rfl, rfl⟩) | (go_at_call 24; refine (HW.out _).mono ?_; rintro e w' ⟨rfl, rfl⟩))
        all_goals (go_ret; exact ⟨rfl, Drawn0.refl _⟩)
    · rw [if_neg h1] at h; cases h
  · rw [if_neg h0] at h; cases h
end Go.Proofs.Ytidhjpdcbmbicaa.G
