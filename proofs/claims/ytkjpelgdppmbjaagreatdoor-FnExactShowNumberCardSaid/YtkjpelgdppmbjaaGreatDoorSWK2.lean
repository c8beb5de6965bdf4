/- Walks of the library's number reading: small functions. -/
import Derived.Test.YtkjpelgdppmbjaaGreatDoorSWZip
import Derived.Test.YtkjpelgdppmbjaaGreatDoorSWShelf
import Derived.Test.YtkjpelgdppmbjaaGreatDoorSWK1
import Derived.Lib.Hide
import Derived.Deep.QuietTactic
import Derived.BigQuiet
import Derived.WalkLawsBesides
import Derived.Laws.BitsAllLaws
import Derived.Laws.Externs
import Derived.Deep.LoopGhost
import Derived.WalkMore
namespace Go.Proofs.YtkjpelgdppmbjaaGreatDoor.SF
open Go.RowKit YtkjpelgdppmbjaaGreatDoorW.PrintWords Go.Proofs.YtkjpelgdppmbjaaGreatDoor.CB

theorem bool2u_true (w : World) : Calls Tryz.prog 183 #[.bool true] w fun e w' => e = .returned (.int .u64 1) ∧ w = w' := by
 go_enter Tryz.func183, Tryz.ntmps183
 go_wp2
 go_ret
 exact ⟨rfl, rfl⟩
theorem bool2u_false (w : World) : Calls Tryz.prog 183 #[.bool false] w fun e w' => e = .returned (.int .u64 0) ∧ w = w' := by
 go_enter Tryz.func183, Tryz.ntmps183
 go_wp2
 go_ret
 exact ⟨rfl, rfl⟩
theorem log2Pow10_calls (p : Int) (w : World) (h1 : -10000 ≤ p) (h2 : p ≤ 10000) : Calls Tryz.prog 214 #[.int .i64 p] w fun e w' => e = .returned (.int .i64 (US.lp p)) ∧ w = w' := by
 go_enter Tryz.func214, Tryz.ntmps214
 go_wp2
 go_ret
 exact ⟨rfl, rfl⟩
theorem round_calls (u : Nat) (w : World) (h : u < 9223372036854775808) : Calls Tryz.prog 220 #[.int .u64 u] w fun e w' => e = .returned (.int .u64 ((u + 1 + u / 4 % 2) / 4 : Nat)) ∧ w = w' := by
 have h1 := and_u64 (u / 4) 1 (by omega) (by omega)
 rw [Nat.and_one_is_mod, show ((u / 4 : Nat) : Int) = (u : Int) / 4 by omega, show ((1 : Nat) : Int) = 1 from rfl, show ((u / 4 % 2 : Nat) : Int) = (u : Int) / 4 % 2 by omega] at h1
 have h2 : IntKind.u64.wrap ((u : Int) + 1 + (u : Int) / 4 % 2) = (u : Int) + 1 + (u : Int) / 4 % 2 := by rw [wu64]; omega
 go_enter Tryz.func220, Tryz.ntmps220
 go_wp2
 go_ret
 exact ⟨congrArg (fun z => Ending.returned (.int .u64 z)) (by simp), rfl⟩
theorem bool2u_calls (b : Bool) (w : World) : Calls Tryz.prog 183 #[.bool b] w fun e w' => e = .returned (.int .u64 (b.toNat : Nat)) ∧ w = w' := by
 cases b
 ·exact bool2u_false w
 ·exact bool2u_true w
theorem pow_cast (s : Nat) : ((2 ^ s : Nat) : Int) = (2 : Int) ^ s := by rw [Int.natCast_pow]; rfl
theorem cut_back (h s : Nat) (hh : h < 18446744073709551616) : (IntKind.u64.wrap ((h : Int) / 2 ^ s * 2 ^ s) != (h : Int)) = decide (h % 2 ^ s ≠ 0) := by
 have e1 : (h : Int) / 2 ^ s * 2 ^ s = ((h / 2 ^ s * 2 ^ s : Nat) : Int) := by rw [Int.natCast_mul, Int.natCast_ediv, pow_cast]
 have hd := Nat.div_add_mod h (2 ^ s)
 rw [Nat.mul_comm] at hd
 rw [e1, wu64]
 by_cases hz : h % 2 ^ s = 0
 ·rw [decide_eq_false (by omega)]; simp; omega
 ·rw [decide_eq_true hz]; simp; omega
theorem or_cut (h s b : Nat) (hh : h < 18446744073709551616) (hb : b < 18446744073709551616) : Go.bits .or .u64 ((h : Int) / 2 ^ s) (b : Int) = ((h / 2 ^ s ||| b : Nat) : Int) := by
 have e1 : (h : Int) / 2 ^ s = ((h / 2 ^ s : Nat) : Int) := by rw [Int.natCast_ediv, pow_cast]
 rw [e1]
 exact or_u64 _ _ (Nat.lt_of_le_of_lt (Nat.div_le_self _ _) hh) hb
theorem uscale_one (x hi h mid s b : Nat) (w : World) (hh : h < 18446744073709551616) (hs : s < 64)
  (HM : ∀ W, Calls Tryz.prog 145 #[.int .u64 x, .int .u64 hi] W fun e w' => e = .returned (.tuple #[.int .u64 h, .int .u64 mid]) ∧ W = w')
  (c0 : w.cell? ⟨b, 0, none⟩ = some (.int .u64 hi)) (c2 : w.cell? ⟨b, 2, none⟩ = some (.int .i64 s)) (hr : h % 2 ^ s ≠ 0) :
  Calls Tryz.prog 216 #[.int .u64 x, .pointer (some ⟨b, 0, none⟩)] w fun e w' => e = .returned (.int .u64 (h / 2 ^ s ||| 1 : Nat)) ∧ w = w' := by
 have hs63 := and_i64 s 63 (by omega) (by omega)
 rw [show s &&& 63 = s from (mask s 6).trans (Nat.mod_eq_of_lt (by omega)), show ((63 : Nat) : Int) = 63 from rfl] at hs63
 have hc := cut_back h s hh
 rw [decide_eq_true hr] at hc
 have ho := or_cut h s 1 hh (by omega)
 rw [show ((1 : Nat) : Int) = 1 from rfl] at ho
 have HM' := Lib.hid HM
 clear HM hr
 go_enter Tryz.func216, Tryz.ntmps216
 go_wp2_with (go_at_call 145; refine (HM'.out _).mono ?_; rintro e w' ⟨rfl, rfl⟩)
 go_ret
 exact ⟨rfl, rfl⟩
theorem uscale_two (x hi lo h mid m2 q s b : Nat) (u : Int) (w : World) (hh : h < 18446744073709551616) (hmid : mid < 18446744073709551616) (hm2 : m2 < 18446744073709551616) (hs : s < 64)
  (HM : ∀ W, Calls Tryz.prog 145 #[.int .u64 x, .int .u64 hi] W fun e w' => e = .returned (.tuple #[.int .u64 h, .int .u64 mid]) ∧ W = w')
  (HL : ∀ W, Calls Tryz.prog 145 #[.int .u64 x, .int .u64 lo] W fun e w' => e = .returned (.tuple #[.int .u64 m2, .int .u64 q]) ∧ W = w')
  (c0 : w.cell? ⟨b, 0, none⟩ = some (.int .u64 hi)) (c1 : w.cell? ⟨b, 1, none⟩ = some (.int .u64 lo)) (c2 : w.cell? ⟨b, 2, none⟩ = some (.int .i64 s)) (hr : h % 2 ^ s = 0)
  (v : Nat) (hv : v = if mid < m2 then h - 1 else h) (hpos : mid < m2 → 1 ≤ h) (hu : u = (v / 2 ^ s ||| (if 1 < (mid + 18446744073709551616 - m2) % 18446744073709551616 then 1 else 0) : Nat)) :
  Calls Tryz.prog 216 #[.int .u64 x, .pointer (some ⟨b, 0, none⟩)] w fun e w' => e = .returned (.int .u64 u) ∧ ∃ n, w' = w.drewN n := by
 have hs63 := and_i64 s 63 (by omega) (by omega)
 rw [show s &&& 63 = s from (mask s 6).trans (Nat.mod_eq_of_lt (by omega)), show ((63 : Nat) : Int) = 63 from rfl] at hs63
 have hc := cut_back h s hh
 rw [decide_eq_false (by omega)] at hc
 have hbw : IntKind.u64.wrap ((h : Int) - ((decide (mid < m2)).toNat : Nat)) = (v : Int) := by
  rw [wu64, hv]
  by_cases h1 : mid < m2
  ·rw [decide_eq_true (by omega), if_pos h1]; have := hpos h1; simp; omega
  ·rw [decide_eq_false (by omega), if_neg h1]; simp; omega
 have hd : IntKind.u64.wrap ((mid : Int) - (m2 : Int)) = (((mid + 18446744073709551616 - m2) % 18446744073709551616 : Nat) : Int) := by rw [wu64]; omega
 have hvl : v < 18446744073709551616 := by rw [hv]; split <;> omega
 have ho := or_cut v s ((decide ((1 : Int) < (((mid + 18446744073709551616 - m2) % 18446744073709551616 : Nat) : Int))).toNat) hvl (Nat.lt_of_le_of_lt (Bool.toNat_le _) (by omega))
 have HU : ((v / 2 ^ s ||| (decide ((1 : Int) < (((mid + 18446744073709551616 - m2) % 18446744073709551616 : Nat) : Int))).toNat : Nat) : Int) = u := by
  rw [hu]
  by_cases h1 : 1 < (mid + 18446744073709551616 - m2) % 18446744073709551616
  ·rw [decide_eq_true (by omega), if_pos h1, Bool.toNat_true]
  ·rw [decide_eq_false (by omega), if_neg h1, Bool.toNat_false]
 rw [HU] at ho
 generalize (((mid + 18446744073709551616 - m2) % 18446744073709551616 : Nat) : Int) = dd at *
 have HM' := Lib.hid HM
 have HL' := Lib.hid HL
 clear HM HL hr hv hpos hu HU
 go_enter Tryz.func216, Tryz.ntmps216
 go_wp2_with (first | (go_at_call 145; ((with_reducible refine (HM'.out _).mono ?_); rintro e w' ⟨rfl, rfl⟩)) | (go_at_call 145; ((with_reducible refine (HL'.out _).mono ?_); rintro e w' ⟨rfl, rfl⟩)) | (go_at_call 183; refine (bool2u_calls _ _).mono ?_; rintro e w' ⟨rfl, rfl⟩))
 go_quiet ((go_at_call 183; refine Calls.quiet_of_same ((bool2u_calls _ _).mono fun e w' h => ⟨h.1, h.2.symm⟩)))
 go_wp2
 go_ret
 exact ⟨rfl, _, rfl⟩
theorem uscale_calls (x hi lo s b : Nat) (w : World) (hx : x < 18446744073709551616) (hhi : hi < 18446744073709551616) (hlo : lo < 18446744073709551616) (hs : s < 64) (hnn : x * lo ≤ x * hi * 18446744073709551616)
  (c0 : w.cell? ⟨b, 0, none⟩ = some (.int .u64 hi)) (c1 : w.cell? ⟨b, 1, none⟩ = some (.int .u64 lo)) (c2 : w.cell? ⟨b, 2, none⟩ = some (.int .i64 s)) :
  Calls Tryz.prog 216 #[.int .u64 x, .pointer (some ⟨b, 0, none⟩)] w fun e w' => e = .returned (.int .u64 (US.usc x hi lo s : Nat)) ∧ ∃ n, w' = w.drewN n := by
 have hxh : x * hi / 18446744073709551616 < 18446744073709551616 := Nat.div_lt_of_lt_mul (Nat.mul_lt_mul_of_lt_of_le hx (Nat.le_of_lt hhi) (by omega))
 have hxl : x * lo / 18446744073709551616 < 18446744073709551616 := Nat.div_lt_of_lt_mul (Nat.mul_lt_mul_of_lt_of_le hx (Nat.le_of_lt hlo) (by omega))
 by_cases hr : x * hi / 18446744073709551616 % 2 ^ s ≠ 0
 ·refine (uscale_one x hi (x * hi / 18446744073709551616) (x * hi % 18446744073709551616) s b w hxh hs (fun W => (Tryz.bits_Mul64 x hi hx hhi W).mono fun e w' h => ⟨h.1, h.2.symm⟩) c0 c2 hr).mono ?_
  rintro e w' ⟨rfl, rfl⟩
  refine ⟨?_, 0, rfl⟩
  unfold US.usc
  rw [if_pos hr]
 ·refine uscale_two x hi lo (x * hi / 18446744073709551616) (x * hi % 18446744073709551616) (x * lo / 18446744073709551616) (x * lo % 18446744073709551616) s b _ w hxh (Nat.mod_lt _ (by omega)) hxl hs (fun W => (Tryz.bits_Mul64 x hi hx hhi W).mono fun e w' h => ⟨h.1, h.2.symm⟩) (fun W => (Tryz.bits_Mul64 x lo hx hlo W).mono fun e w' h => ⟨h.1, h.2.symm⟩) c0 c1 c2 (by omega) _ rfl (by omega) ?_
  unfold US.usc
  rw [if_neg hr]
theorem prescale_calls (e p q : Int) (hi lo : Nat) (v0 v1 v2 : Value) (w : World) (hq : q = -(e + US.lp p + 3)) (hp1 : -348 ≤ p) (hp2 : p ≤ 347) (he1 : -10000 ≤ e) (he2 : e ≤ 10000) (hw : 13 < w.heap.size)
  (c0 : w.cell? ⟨13, (p + 348).toNat * 2, none⟩ = some (.int .u64 hi)) (c1 : w.cell? ⟨13, (p + 348).toNat * 2 + 1, none⟩ = some (.int .u64 lo)) :
  Calls Tryz.prog 215 #[.pointer (some ⟨w.heap.size, 0, none⟩), .int .i64 e, .int .i64 p, .int .i64 (US.lp p)] (w.alloc (.cells #[v0, v1, v2] 221)) fun e w' => e = .returned (.tuple #[]) ∧ w' = w.alloc (.cells #[.int .u64 hi, .int .u64 lo, .int .i64 q] 221) := by
 have hl1 : -100000 ≤ US.lp p := by unfold US.lp; omega
 have hl2 : US.lp p ≤ 100000 := by unfold US.lp; omega
 generalize US.lp p = lp at *
 have HQ := Lib.hid hq
 clear hq
 go_enter Tryz.func215, Tryz.ntmps215
 go_wp2
 go_end0
 exact ⟨rfl, by rw [HQ.out]⟩

def num (l : List UInt8) : Nat := l.foldl (fun a c => a * 10 + (c.toNat - 48)) 0
theorem num_from (l : List UInt8) (a : Nat) : l.foldl (fun a c => a * 10 + (c.toNat - 48)) a = a * 10 ^ l.length + num l := by
 induction l generalizing a with
 | nil => simp [num]
 | cons c l ih =>
  unfold num
  rw [List.foldl_cons, List.foldl_cons, ih, ih (0 * 10 + _), List.length_cons, Nat.pow_succ, Nat.add_mul]
  simp only [Nat.zero_mul, Nat.zero_add]
  have : a * 10 * 10 ^ l.length = a * (10 ^ l.length * 10) := by ac_rfl
  omega
theorem num_lt (l : List UInt8) (h : ∀ c ∈ l, c.toNat ≤ 57) : num l < 10 ^ l.length := by
 induction l with
 | nil => exact Nat.one_pos
 | cons c l ih =>
  have h1 := ih (fun x hx => h x (List.mem_cons_of_mem _ hx))
  have h2 := h c (List.mem_cons_self ..)
  unfold num
  rw [List.foldl_cons, num_from, List.length_cons, Nat.pow_succ]
  have : (0 * 10 + (c.toNat - 48)) * 10 ^ l.length ≤ 9 * 10 ^ l.length := Nat.mul_le_mul_right _ (by omega)
  omega
theorem take_next (s : ByteArray) (k : Nat) (h : k < s.size) : s.data.toList.take (k + 1) = s.data.toList.take k ++ [s[k]] := by
 rw [List.take_succ_eq_append_getElem (by simpa using h)]; rfl
def lost (l : List UInt8) : Bool := (l.drop 19).any (fun c => c != 48)
theorem lost_next (s : ByteArray) (k : Nat) (h : k < s.size) : lost (s.data.toList.take (k + 1)) = (lost (s.data.toList.take k) || (decide (19 ≤ k) && s[k] != 48)) := by
 have hl : (s.data.toList.take k).length = k := by rw [List.length_take, Nat.min_eq_left]; simp; exact Nat.le_of_lt h
 unfold lost
 rw [take_next s k h, List.drop_append, hl]
 by_cases h19 : 19 ≤ k
 ·rw [show 19 - k = 0 by omega, List.drop_zero, List.any_append, decide_eq_true h19]; simp
 ·rw [decide_eq_false h19]
  have : List.drop (19 - k) [s[k]] = [] := List.drop_eq_nil_of_le (by simp; omega)
  rw [this, List.append_nil]; simp
structure RdAt (s : ByteArray) (n k mk c : Nat) (tt gg : Bool) : Prop where
 hk : k ≤ n
 hm : mk = num (s.data.toList.take (min k 19))
 hc : c = min k 19
 ht : tt = lost (s.data.toList.take k)
 hg : gg = decide (0 < k)
theorem RdAt.zero (s : ByteArray) (n : Nat) : RdAt s n 0 0 0 false false := ⟨Nat.zero_le _, rfl, rfl, rfl, rfl⟩
theorem RdAt.small {s : ByteArray} {n k mk c : Nat} {tt gg : Bool} (h : RdAt s n k mk c tt gg) (h19 : k < 19) (hd : ∀ j, j < k → ∀ h : j < s.size, s[j].toNat ≤ 57) : mk < 1000000000000000000 := by
  rw [h.hm]
  have h1 := num_lt (s.data.toList.take (min k 19)) (by
    intro x hx
    obtain ⟨j, hj, rfl⟩ := List.mem_iff_getElem.1 hx
    rw [List.length_take] at hj
    rw [List.getElem_take]
    exact hd j (by omega) (by have : j < s.data.toList.length := by omega
                              simpa using this))
  refine Nat.lt_of_lt_of_le h1 ?_
  exact Nat.le_trans (Nat.pow_le_pow_right (by omega) (show _ ≤ 18 by rw [List.length_take]; omega)) (by decide)
theorem RdAt.next {s : ByteArray} {n k mk c : Nat} {tt gg : Bool} (h : RdAt s n k mk c tt gg) (h19 : ¬ k < 19) (hn : k < n) (hs : k < s.size) : RdAt s n (k + 1) mk c (tt || s[k] != 48) true := by
 refine ⟨hn, ?_, by rw [h.hc]; omega, ?_, by simp⟩
 ·rw [h.hm, show min (k + 1) 19 = min k 19 by omega]
 ·rw [lost_next s k hs, decide_eq_true (by omega), Bool.true_and, h.ht]


end Go.Proofs.YtkjpelgdppmbjaaGreatDoor.SF
