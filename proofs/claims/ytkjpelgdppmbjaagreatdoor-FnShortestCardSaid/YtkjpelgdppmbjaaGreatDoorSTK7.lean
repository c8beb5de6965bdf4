/- Walks of the program's Nearest: the text that it hands to ParseFloat, as it is read. -/
import Derived.Test.YtkjpelgdppmbjaaGreatDoorSTZip
import Derived.Test.YtkjpelgdppmbjaaGreatDoorSTK6
import Derived.Test.YtkjpelgdppmbjaaGreatDoorSTPureNearText
namespace Go.Proofs.YtkjpelgdppmbjaaGreatDoor.SF
open Go.RowKit YtkjpelgdppmbjaaGreatDoorW.PrintWords CB CQ PN
open Go.Proofs.YtkjpelgdppmbjaaGreatDoor.Pure (decT decN isDg valD figOk nearOk)

theorem num_valD (l : List UInt8) : num l = valD l := by
 unfold num valD
 congr 1
 funext a c
 rw [Nat.mul_comm]
def textOf (f : ByteArray) (E : Int) : ByteArray := (f ++ (⟨#[101]⟩ : ByteArray)) ++ decT E
theorem text_data (f : ByteArray) (E : Int) : (textOf f E).data.toList = f.data.toList ++ 101 :: (decT E).data.toList := by
 unfold textOf
 rw [Pure.append_data, Pure.append_data, List.append_assoc]; rfl
theorem at_left {s : ByteArray} {l m : List UInt8} (hs : s.data.toList = l ++ m) (k : Nat) (h : k < s.size) (hk : k < l.length) : l[k]? = some s[k] := by
 rw [← byte_at s k h, hs, List.getElem?_append_left hk]
theorem at_right {s : ByteArray} {l m : List UInt8} (hs : s.data.toList = l ++ m) (k : Nat) (h : k < s.size) (hk : l.length ≤ k) : m[k - l.length]? = some s[k] := by
 rw [← byte_at s k h, hs, List.getElem?_append_right hk]
theorem size_of {s : ByteArray} {l : List UInt8} (hs : s.data.toList = l) : s.size = l.length := by
 rw [← hs]; simp
theorem dec_neg (v : Nat) (h : v ≠ 0) : (decT (-(v : Int))).data.toList = 45 :: (decN v).data.toList := by
 have h1 := Pure.decT_sgn (-(v : Int)) (by omega)
 have h2 := Pure.decT_sgn (v : Int) (by omega)
 rw [decide_eq_true (by omega), Int.natAbs_neg, Int.natAbs_natCast] at h1
 rw [decide_eq_false (by omega), Int.natAbs_natCast] at h2
 have e1 : Pure.sgn true (Pure.dgs v ⟨#[]⟩) = ⟨#[45]⟩ ++ Pure.dgs v ⟨#[]⟩ := if_pos rfl
 have e2 : Pure.sgn false (Pure.dgs v ⟨#[]⟩) = Pure.dgs v ⟨#[]⟩ := if_neg (by decide)
 rw [e1] at h1
 rw [e2] at h2
 show (decT (-(v : Int))).data.toList = 45 :: (decT (v : Int)).data.toList
 rw [h1, h2, Pure.append_data]; rfl
structure Figs (f : ByteArray) (E : Int) : Prop where mk ::
 n1 : 1 ≤ f.size
 n2 : f.size ≤ 60
 dig : ∀ b ∈ f.data.toList, isDg b
 e1 : -500 ≤ E
 e2 : E ≤ 500
theorem text_plus {f : ByteArray} {v : Nat} (h : Figs f (v : Int)) :
  f.size + 1 < (textOf f v).size ∧ (textOf f v).size ≤ f.size + 4 ∧ (∀ k (hk : k < (textOf f v).size), k < f.size → f.data.toList[k]? = some (textOf f v)[k] ∧ 48 ≤ (textOf f v)[k].toNat ∧ (textOf f v)[k].toNat ≤ 57) ∧ (∀ hk : f.size < (textOf f v).size, (textOf f v)[f.size].toNat = 101) ∧
  (∀ k (hk : k < (textOf f v).size), f.size + 1 ≤ k → 48 ≤ (textOf f v)[k].toNat ∧ (textOf f v)[k].toNat ≤ 57) ∧ (textOf f v).data.toList.take f.size = f.data.toList ∧ num ((textOf f v).data.toList.drop (f.size + 1)) = v := by
 have hl : f.data.toList.length = f.size := by simp
 have hd := text_data f (v : Int)
 have hz := size_of hd
 have hdn : (decT (v : Int)) = decN v := rfl
 rw [hdn] at hd hz
 have hdg := Pure.decN_dg v
 have h1 := Pure.decN_pos v
 have h2 := (Pure.decN_size v 3 (by omega)).2 (by have := h.e2; omega)
 have hls : (decN v).data.toList.length = (decN v).size := by simp
 rw [List.length_append, List.length_cons, hl, hls] at hz
 refine ⟨by omega, by omega, fun k hk hkn => ?_, fun hk => ?_, fun k hk hkn => ?_, ?_, ?_⟩
 ·have := at_left hd k hk (by omega)
  exact ⟨this, h.dig _ (List.mem_of_getElem? this)⟩
 ·have := at_right hd f.size hk (by omega)
  rw [hl, Nat.sub_self] at this
  rw [← Option.some.inj this]; rfl
 ·have := at_right hd k hk (by omega)
  rw [hl, show k - f.size = (k - (f.size + 1)) + 1 by omega, List.getElem?_cons_succ] at this
  exact hdg _ (List.mem_of_getElem? this)
 ·rw [hd, List.take_left' hl]
 ·rw [hd, ← hl, List.drop_append, List.drop_of_length_le (by omega), Nat.add_sub_cancel_left, List.nil_append, List.drop_succ_cons, List.drop_zero, num_valD, Pure.valD_decN]
theorem text_minus {f : ByteArray} {v : Nat} (hv : v ≠ 0) (h : Figs f (-(v : Int))) :
  f.size + 2 < (textOf f (-(v : Int))).size ∧ (textOf f (-(v : Int))).size ≤ f.size + 5 ∧ (∀ k (hk : k < (textOf f (-(v : Int))).size), k < f.size → f.data.toList[k]? = some (textOf f (-(v : Int)))[k] ∧ 48 ≤ (textOf f (-(v : Int)))[k].toNat ∧ (textOf f (-(v : Int)))[k].toNat ≤ 57) ∧ (∀ hk : f.size < (textOf f (-(v : Int))).size, (textOf f (-(v : Int)))[f.size].toNat = 101) ∧
  (∀ hk : f.size + 1 < (textOf f (-(v : Int))).size, (textOf f (-(v : Int)))[f.size + 1].toNat = 45) ∧
  (∀ k (hk : k < (textOf f (-(v : Int))).size), f.size + 2 ≤ k → 48 ≤ (textOf f (-(v : Int)))[k].toNat ∧ (textOf f (-(v : Int)))[k].toNat ≤ 57) ∧ (textOf f (-(v : Int))).data.toList.take f.size = f.data.toList ∧ num ((textOf f (-(v : Int))).data.toList.drop (f.size + 2)) = v := by
 have hl : f.data.toList.length = f.size := by simp
 have hd := text_data f (-(v : Int))
 have hz := size_of hd
 rw [dec_neg v hv] at hd hz
 have hdg := Pure.decN_dg v
 have h1 := Pure.decN_pos v
 have h2 := (Pure.decN_size v 3 (by omega)).2 (by have := h.e1; omega)
 have hls : (decN v).data.toList.length = (decN v).size := by simp
 rw [List.length_append, List.length_cons, List.length_cons, hl, hls] at hz
 refine ⟨by omega, by omega, fun k hk hkn => ?_, fun hk => ?_, fun hk => ?_, fun k hk hkn => ?_, ?_, ?_⟩
 ·have := at_left hd k hk (by omega)
  exact ⟨this, h.dig _ (List.mem_of_getElem? this)⟩
 ·have := at_right hd f.size hk (by omega)
  rw [hl, Nat.sub_self] at this
  rw [← Option.some.inj this]; rfl
 ·have := at_right hd (f.size + 1) hk (by omega)
  rw [hl, show f.size + 1 - f.size = 1 by omega] at this
  rw [← Option.some.inj this]; rfl
 ·have := at_right hd k hk (by omega)
  rw [hl, show k - f.size = (k - (f.size + 2)) + 1 + 1 by omega, List.getElem?_cons_succ, List.getElem?_cons_succ] at this
  exact hdg _ (List.mem_of_getElem? this)
 ·rw [hd, List.take_left' hl]
 ·rw [hd, ← hl, List.drop_append, List.drop_of_length_le (by omega), Nat.add_sub_cancel_left, List.nil_append, List.drop_succ_cons, List.drop_succ_cons, List.drop_zero, num_valD, Pure.valD_decN]
theorem text_calls (f : ByteArray) (E : Int) (w : World) (B : Nat) (hB : B ≤ w.heap.size) (ht : Tabs w B) (h : Figs f E) (h0 : bt f 0 ≠ 48) :
  Calls Tryz.prog 160 #[.string (textOf f E)] w fun e w' => (∃ (x : Nat) (er : Value), e = .returned (.tuple #[.float .f64 x, .int .i64 (textOf f E).size, er]) ∧ ErrOr er ∧ NearE (valD f.data.toList * 10 ^ E.toNat) (10 ^ (-E).toNat) 0 x) ∧ Below w.heap.size w w' := by
 have hf0 := bt_list f 0 h.n1
 have hf1 : f.data.toList[0]? = some (f.data.toList[0]'(by have := h.n1; rw [Array.length_toList]; exact this)) := List.getElem?_eq_getElem _
 rcases Int.lt_or_le E 0 with hE | hE
 ·obtain ⟨v, rfl⟩ : ∃ v : Nat, E = -(v : Int) := ⟨E.natAbs, by omega⟩
  obtain ⟨t1, t2, t3, t4, t5, t6, t7, t8⟩ := text_minus (by omega) h
  have hn1 := h.n1
  have hfirst : (textOf f (-(v : Int)))[0].toNat ≠ 48 := by
   have := (t3 0 (by omega) (by omega)).1
   rw [hf1] at this
   rw [← Option.some.inj this]
   intro hh
   rw [hh] at hf0
   exact h0 hf0
  have hc := atof64_minus (textOf f (-(v : Int))) f.size v w B hB ht h.n1 h.n2 t1 t2 (fun k hk hkn => (t3 k hk hkn).2) hfirst (t4 _) (t5 _) t6 t8 (by have := h.e1; omega)
  rw [t7, num_valD] at hc
  exact hc
 ·obtain ⟨v, rfl⟩ : ∃ v : Nat, E = (v : Int) := ⟨E.toNat, by omega⟩
  obtain ⟨t1, t2, t3, t4, t6, t7, t8⟩ := text_plus h
  have hn1 := h.n1
  have hfirst : (textOf f (v : Int))[0].toNat ≠ 48 := by
   have := (t3 0 (by omega) (by omega)).1
   rw [hf1] at this
   rw [← Option.some.inj this]
   intro hh
   rw [hh] at hf0
   exact h0 hf0
  have hc := atof64_plus (textOf f (v : Int)) f.size v w B hB ht h.n1 h.n2 t1 t2 (fun k hk hkn => (t3 k hk hkn).2) hfirst (t4 _) t6 t8 (by have := h.e2; omega)
  rw [t7, num_valD] at hc
  exact hc
theorem text_zero (f : ByteArray) (E : Int) (w : World) (B : Nat) (ht : Tabs w B) (h : Figs f E) (h0 : bt f 0 = 48) (h1 : f.size = 1) :
  Calls Tryz.prog 160 #[.string (textOf f E)] w fun e w' => e = .returned (.tuple #[.float .f64 0, .int .i64 (textOf f E).size, .nilIface]) ∧ Below w.heap.size w w' := by
 have hf0 := bt_list f 0 h.n1
 have hf1 : f.data.toList[0]? = some (f.data.toList[0]'(by have := h.n1; rw [Array.length_toList]; exact this)) := List.getElem?_eq_getElem _
 rcases Int.lt_or_le E 0 with hE | hE
 ·obtain ⟨v, rfl⟩ : ∃ v : Nat, E = -(v : Int) := ⟨E.natAbs, by omega⟩
  obtain ⟨t1, t2, t3, t4, t5, t6, t7, t8⟩ := text_minus (by omega) h
  rw [h1] at t1 t2
  have hfirst : (textOf f (-(v : Int)))[0].toNat = 48 := by
   have := (t3 0 (by omega) (by omega)).1
   rw [hf1] at this
   rw [← Option.some.inj this]
   have h48 := hf0.symm.trans h0
   omega
  have he : (textOf f (-(v : Int)))[1].toNat = 101 := by have := t4 (by omega); simpa only [h1] using this
  have hneg : (textOf f (-(v : Int)))[2].toNat = 45 := by have := t5 (by omega); simpa only [h1] using this
  refine atof64_zero _ w (fun W => special_calls _ W (by omega) (by omega) (by omega) (by omega)) (fun W => readFloat_zero_minus _ W t1 t2 hfirst he hneg (fun k hk hkn => t6 k hk (by omega))) ht.opt
 ·obtain ⟨v, rfl⟩ : ∃ v : Nat, E = (v : Int) := ⟨E.toNat, by omega⟩
  obtain ⟨t1, t2, t3, t4, t6, t7, t8⟩ := text_plus h
  rw [h1] at t1 t2
  have hfirst : (textOf f (v : Int))[0].toNat = 48 := by
   have := (t3 0 (by omega) (by omega)).1
   rw [hf1] at this
   rw [← Option.some.inj this]
   have h48 := hf0.symm.trans h0
   omega
  have he : (textOf f (v : Int))[1].toNat = 101 := by have := t4 (by omega); simpa only [h1] using this
  refine atof64_zero _ w (fun W => special_calls _ W (by omega) (by omega) (by omega) (by omega)) (fun W => readFloat_zero_plus _ W t1 t2 hfirst he (fun k hk hkn => t6 k hk (by omega))) ht.opt
open Go.Proofs.YtkjpelgdppmbjaaGreatDoor.Pure (decT decN isDg valD figOk nearOk)

structure Home (w : World) (B : Nat) : Prop where mk ::
 tabs : Tabs w B
 eblk : 2 < B
 err : ∃ ev, w.cell? ⟨2, 0, none⟩ = some ev ∧ (ev = .nilIface ∨ ∃ te pe, ev = .iface te pe)
theorem Home.below {w w' : World} {B : Nat} (h : Home w B) (hb : Below B w w') : Home w' B := by
 obtain ⟨ev, h1, h2⟩ := h.err
 exact ⟨h.tabs.below hb, h.eblk, ev, (hb.cell (p := ⟨_, 0, none⟩) h.eblk).trans h1, h2⟩
structure Tells (f : ByteArray) (E : Int) (x : Nat) : Prop where mk ::
 le : x ≤ 9218868437227405312
 zero : bt f 0 = 48 → x = 0
 near : bt f 0 ≠ 48 → NearE (valD f.data.toList * 10 ^ E.toNat) (10 ^ (-E).toNat) 0 x
theorem text_size {f : ByteArray} {E : Int} (hfig : Figs f E) : (textOf f E).size ≤ 1000 := by
 have := hfig.n2
 rcases Int.lt_or_le E 0 with h | h
 ·obtain ⟨v, rfl⟩ : ∃ v : Nat, E = -(v : Int) := ⟨E.natAbs, by omega⟩
  have := (text_minus (by omega) hfig).2.1
  omega
 ·obtain ⟨v, rfl⟩ : ∃ v : Nat, E = (v : Int) := ⟨E.toNat, by omega⟩
  have := (text_plus hfig).2.1
  omega
theorem parse_text (f : ByteArray) (E : Int) (w : World) (B : Nat) (hB : B ≤ w.heap.size) (hh : Home w B) (hf : figOk f = true) (h60 : f.size ≤ 60) (hE : -500 ≤ E ∧ E ≤ 500) :
  Calls Tryz.prog 45 #[.string (textOf f E), .int .i64 64] w fun e w' => (∃ (x : Nat) (er : Value), e = .returned (.tuple #[.float .f64 x, er]) ∧ Tells f E x) ∧ Below w.heap.size w w' := by
 obtain ⟨k1, k2, k3, k4⟩ := Pure.figOk_parts f hf
 have hfig : Figs f E := ⟨k1, h60, k3, hE.1, hE.2⟩
 obtain ⟨ev, hv, hev⟩ := hh.err
 have hsz := text_size hfig
 refine parseFloat_out (textOf f E) w (Tells f E) ev hsz (Nat.lt_of_lt_of_le hh.eblk hB) hv hev ?_
 refine parseFloat_in (textOf f E) w (fun x er => ErrOr er ∧ Tells f E x) ?_
 refine parsePrefix_calls (textOf f E) w (fun x er => ErrOr er ∧ Tells f E x) ?_
 by_cases h0 : bt f 0 = 48
 ·have h1 : f.size = 1 := by
   have : ¬ 1 < f.size := fun h => k4 ⟨h0, h⟩
   omega
  refine (text_zero f E w B hh.tabs hfig h0 h1).mono ?_
  rintro e w' ⟨rfl, hb⟩
  exact ⟨⟨0, _, rfl, .inl rfl, ⟨by omega, fun _ => rfl, fun h => absurd h0 h⟩⟩, hb⟩
 ·refine (text_calls f E w B hB hh.tabs hfig h0).mono ?_
  rintro e w' ⟨⟨x, er, rfl, he, hx⟩, hb⟩
  exact ⟨⟨x, er, rfl, he, ⟨nearE_le hx, fun h => absurd h h0, fun _ => hx⟩⟩, hb⟩
theorem nearest_good (f : ByteArray) (E : Int) (w : World) (B : Nat) (hB : B ≤ w.heap.size) (hh : Home w B) (hf : figOk f = true) (h60 : f.size ≤ 60) (hE1 : -500 ≤ E) (hE2 : E ≤ 500) :
  Calls Tryz.prog 15 #[.string f, .int .i64 E] w fun e w' => (∃ x : Nat, e = .returned (.int .u64 x) ∧ Tells f E x) ∧ Below w.heap.size w w' := by
 obtain ⟨k, hk⟩ := (Pure.impl_fig f (by omega)).rounds
 obtain ⟨k2, hk2⟩ := (Pure.impl_dec E (by omega) (by omega)).rounds
 have hfo := fun W => MFnExactScan.impl_FiguresOk.calls k f true W (by rw [← hf]; exact hk)
 have hwi := fun W => MFnExactScan.impl_within.calls E (-500) 500 true W (by rw [Pure.impl_in E (-500) 500, decide_eq_true ⟨hE1, hE2⟩])
 have hde := fun W => MFnExactScan.impl_Decimal.calls k2 E (decT E) W hk2
 have HFO := Lib.hid hfo
 have HWI := Lib.hid hwi
 have HDE := Lib.hid hde
 have hpa : ∀ W, Below w.heap.size w W → Calls Tryz.prog 45 #[.string ((f ++ (⟨#[101]⟩ : ByteArray)) ++ decT E), .int .i64 64] W fun e w' => (∃ (x : Nat) (er : Value), e = .returned (.tuple #[.float .f64 x, er]) ∧ Tells f E x) ∧ Below W.heap.size W w' :=
  fun W hb => parse_text f E W B (Nat.le_trans hB hb.size) (hh.below (hb.mono hB)) hf h60 ⟨hE1, hE2⟩
 have HPA := Lib.hid hpa
 have HWO := Lib.hid word_calls
 have hlim : ¬ 9223372036854775807 < f.size + 1 + (decT E).size := by
  obtain ⟨k1, _, k3, _⟩ := Pure.figOk_parts f hf
  have h1 := text_size (f := f) (E := E) ⟨k1, h60, k3, hE1, hE2⟩
  have h2 : (textOf f E).size = f.size + 1 + (decT E).size := by unfold textOf; rw [ByteArray.size_append, ByteArray.size_append]; rfl
  omega
 have c0 : decide ((f.size : Int) > 60) = false := decide_eq_false (by omega)
 clear hfo hwi hde hk hk2 hpa hh hf
 go_enter Tryz.func15, Tryz.ntmps15
 go_wp2_with (first | (go_at_call 43; ((with_reducible refine (HFO.out _).mono ?_); rintro e w' ⟨rfl, ⟨n1, rfl⟩⟩)) | (go_at_call 44; ((with_reducible refine (HWI.out _).mono ?_); rintro e w' ⟨rfl, ⟨n2, rfl⟩⟩)) | (go_at_call 46; ((with_reducible refine (HDE.out _).mono ?_); rintro e w' ⟨rfl, hb0⟩; have hb : Below w.heap.size w w' := (pw_below_drewN (Below.refl _ _) _).trans hb0)) | (go_at_call 45; ((with_reducible refine (HPA.out _ hb).mono ?_); rintro e w' ⟨⟨x, er, rfl, hx⟩, hb2⟩)) | (go_at_call 47; ((with_reducible refine (HWO.out _ _ hx.le).mono ?_); rintro e w' ⟨rfl, rfl⟩)))
 all_goals go_ret
 all_goals exact ⟨⟨x, rfl, hx⟩, hb.trans (hb2.mono hb.size)⟩
theorem nearest_bad (f : ByteArray) (E : Int) (w : World) (hs : f.size ≤ 140737488351232) (hbad : figOk f = false ∨ 60 < f.size ∨ E < -500 ∨ 500 < E) :
  Calls Tryz.prog 15 #[.string f, .int .i64 E] w fun e w' => e = .returned (.int .u64 0) ∧ Below w.heap.size w w' := by
 obtain ⟨k, hk⟩ := (Pure.impl_fig f hs).rounds
 have hfo := fun W => MFnExactScan.impl_FiguresOk.calls k f _ W hk
 have HFO := Lib.hid hfo
 clear hfo hk
 cases hf : figOk f with
 | false =>
  rw [hf] at HFO
  clear hbad
  go_enter Tryz.func15, Tryz.ntmps15
  go_wp2_with (first | (go_at_call 43; ((with_reducible refine (HFO.out _).mono ?_); rintro e w' ⟨rfl, ⟨n1, rfl⟩⟩)))
  all_goals go_ret
  all_goals exact ⟨rfl, pw_below_drewN (Below.refl _ _) _⟩
 | true =>
  rw [hf] at HFO
  rcases Nat.lt_or_ge 60 f.size with h60 | h60
  ·have c0 : decide ((f.size : Int) > 60) = true := decide_eq_true (by omega)
   clear hbad
   go_enter Tryz.func15, Tryz.ntmps15
   go_wp2_with (first | (go_at_call 43; ((with_reducible refine (HFO.out _).mono ?_); rintro e w' ⟨rfl, ⟨n1, rfl⟩⟩)))
   all_goals go_ret
   all_goals exact ⟨rfl, pw_below_drewN (Below.refl _ _) _⟩
  ·have c0 : decide ((f.size : Int) > 60) = false := decide_eq_false (by omega)
   have hwi := fun W => MFnExactScan.impl_within.calls E (-500) 500 false W (by
    rw [Pure.impl_in E (-500) 500, decide_eq_false]
    intro hh
    rcases hbad with h | h | h | h
    ·rw [hf] at h; cases h
    ·omega
    ·omega
    ·omega)
   have HWI := Lib.hid hwi
   clear hbad hwi
   go_enter Tryz.func15, Tryz.ntmps15
   go_wp2_with (first | (go_at_call 43; ((with_reducible refine (HFO.out _).mono ?_); rintro e w' ⟨rfl, ⟨n1, rfl⟩⟩)) | (go_at_call 44; ((with_reducible refine (HWI.out _).mono ?_); rintro e w' ⟨rfl, ⟨n2, rfl⟩⟩)))
   all_goals go_ret
   all_goals exact ⟨rfl, pw_below_drewN (Below.refl _ _) _⟩
theorem nearest_same (f : ByteArray) (E : Int) (w : World) (B : Nat) (hB : B ≤ w.heap.size) (hh : Home w B) (hs : f.size ≤ 140737488351232) (x : Nat) (h0 : nearOk f E = false → x = 0) (h1 : nearOk f E = true → NearE (valD f.data.toList * 10 ^ E.toNat) (10 ^ (-E).toNat) 0 x) :
  Calls Tryz.prog 15 #[.string f, .int .i64 E] w fun e w' => e = .returned (.int .u64 x) ∧ Below w.heap.size w w' := by
 by_cases hok : figOk f = true ∧ f.size ≤ 60 ∧ -500 ≤ E ∧ E ≤ 500
 ·obtain ⟨a1, a2, a3, a4⟩ := hok
  refine (nearest_good f E w B hB hh a1 a2 a3 a4).mono ?_
  rintro e w' ⟨⟨y, rfl, hy⟩, hb⟩
  have hxy : y = x := by
   by_cases h48 : bt f 0 = 48
   ·rw [hy.zero h48, h0 (by unfold nearOk; rw [decide_eq_true h48]; simp)]
   ·exact nearE_one (hy.near h48) (h1 (by unfold nearOk; rw [a1, decide_eq_true a2, decide_eq_true ⟨a3, a4⟩, decide_eq_false h48]; rfl))
  exact ⟨by rw [hxy], hb⟩
 ·have hbad : figOk f = false ∨ 60 < f.size ∨ E < -500 ∨ 500 < E := by
   rcases hf : figOk f with _ | _
   ·exact .inl rfl
   ·refine .inr ?_
    rcases Nat.lt_or_ge 60 f.size with h | h
    ·exact .inl h
    ·refine .inr ?_
     have : ¬ (-500 ≤ E ∧ E ≤ 500) := fun hh => hok ⟨hf, h, hh.1, hh.2⟩
     omega
  have hx : x = 0 := h0 (by
   unfold nearOk
   rcases hf : figOk f with _ | _
   ·rfl
   ·rcases hbad with h | h | h
    ·rw [hf] at h; cases h
    ·rw [decide_eq_false (by omega : ¬ f.size ≤ 60)]; rfl
    ·rw [decide_eq_false (by omega : ¬ (-500 ≤ E ∧ E ≤ 500)), Bool.and_false]; rfl)
  rw [hx]
  exact nearest_bad f E w hs hbad
end Go.Proofs.YtkjpelgdppmbjaaGreatDoor.SF
