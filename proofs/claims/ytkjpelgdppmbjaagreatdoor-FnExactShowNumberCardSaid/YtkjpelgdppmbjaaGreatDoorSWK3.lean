/- Walks of the library's decimal numbers: the array of figures in memory; trim. -/
import Derived.Test.YtkjpelgdppmbjaaGreatDoorSWZip
import Derived.Test.YtkjpelgdppmbjaaGreatDoorSWK2
import Derived.Deep.LoopGhost
import Derived.BigGuard
import Derived.Deep.CutBlock
import Derived.Deep.DeepCutAuto
import Derived.RegionTactic
import Derived.ChangeAlike
import Derived.BigRegion
namespace Go.Proofs.YtkjpelgdppmbjaaGreatDoor.SF
open Go.RowKit YtkjpelgdppmbjaaGreatDoorW.PrintWords Go.Proofs.YtkjpelgdppmbjaaGreatDoor.CB

def upd (f : Nat → Value) (i : Nat) (v : Value) : Nat → Value := fun j => if j = i then v else f j
theorem upd_at (f : Nat → Value) (i : Nat) (v : Value) : upd f i v i = v := if_pos rfl
theorem upd_ne (f : Nat → Value) {i j : Nat} (v : Value) (h : j ≠ i) : upd f i v j = f j := if_neg h
structure Arr (w : World) (B : Nat) (f : Nat → Value) : Prop where
 cell : ∀ i, i < 804 → w.cell? ⟨B, i, none⟩ = some (f i)
 free : ∀ i, i < 804 → w.frozen? ⟨B, i, none⟩ = false
theorem Arr.set {w : World} {B : Nat} {f : Nat → Value} (h : Arr w B f) {i : Nat} (hi : i < 804) (v : Value) : Arr (w.setCell ⟨B, i, none⟩ v) B (upd f i v) := by
 refine ⟨fun j hj => ?_, fun j hj => ?_⟩
 ·by_cases e : j = i
  ·subst e; rw [upd_at]; exact World.cell?_setCell_same _ _ _ (h.cell j hj)
  ·rw [upd_ne _ _ e, World.cell?_setCell_other (h := fun hh => e (by injection hh with _ h2 _; exact h2.symm))]; exact h.cell j hj
 ·rw [World.frozen?_setCell]; exact h.free j hj
theorem Arr.drewN {w : World} {B : Nat} {f : Nat → Value} (h : Arr w B f) (n : Nat) : Arr (w.drewN n) B f := ⟨h.cell, h.free⟩
theorem Arr.below {w w' : World} {B k : Nat} {f : Nat → Value} (h : Arr w B f) (hb : Below k w w') (hk : B < k) : Arr w' B f :=
 ⟨fun i hi => (hb.cell (p := ⟨B, i, none⟩) hk).trans (h.cell i hi), fun i hi => (hb.frozen (p := ⟨B, i, none⟩) hk).trans (h.free i hi)⟩
structure Dec (f : Nat → Value) (ds : List Nat) (dp : Int) (neg tr : Bool) : Prop where
 dig : ∀ i, i < ds.length → f i = .int .u8 ((48 + ds.getD i 0 : Nat) : Int)
 ten : ∀ i, ds.getD i 0 < 10
 len : ds.length ≤ 800
 nd : f 800 = .int .i64 ds.length
 dpt : f 801 = .int .i64 dp
 ngt : f 802 = .bool neg
 trn : f 803 = .bool tr
def strip (ds : List Nat) : List Nat := (ds.reverse.dropWhile (· == 0)).reverse
theorem strip_zero (ds : List Nat) : strip (ds ++ [0]) = strip ds := by unfold strip; simp
theorem strip_pos (ds : List Nat) (d : Nat) (h : d ≠ 0) : strip (ds ++ [d]) = ds ++ [d] := by
 unfold strip
 have : (d == 0) = false := by simpa using h
 simp [this]
theorem getD_left (l m : List Nat) {i : Nat} (h : i < l.length) : (l ++ m).getD i 0 = l.getD i 0 := by simp [List.getD, List.getElem?_append_left h]
theorem getD_out (l : List Nat) {i : Nat} (h : l.length ≤ i) : l.getD i 0 = 0 := by simp [List.getD, List.getElem?_eq_none h]
theorem getD_end (l : List Nat) (d : Nat) : (l ++ [d]).getD l.length 0 = d := by simp [List.getD]
theorem Dec.drop {f : Nat → Value} {ds : List Nat} {d : Nat} {dp : Int} {neg tr : Bool} (h : Dec f (ds ++ [d]) dp neg tr) : Dec (upd f 800 (.int .i64 ds.length)) ds dp neg tr := by
 have hl := h.len
 rw [List.length_append, List.length_singleton] at hl
 refine ⟨fun i hi => ?_, fun i => ?_, by omega, upd_at .., ?_, ?_, ?_⟩
 ·rw [upd_ne _ _ (by omega), h.dig i (by rw [List.length_append]; omega), getD_left _ _ hi]
 ·by_cases hi : i < ds.length
  ·have := h.ten i
   rw [getD_left _ _ hi] at this; exact this
  ·rw [getD_out _ (by omega)]; omega
 ·rw [upd_ne _ _ (by omega)]; exact h.dpt
 ·rw [upd_ne _ _ (by omega)]; exact h.ngt
 ·rw [upd_ne _ _ (by omega)]; exact h.trn
theorem Dec.point {f : Nat → Value} {ds : List Nat} {dp : Int} {neg tr : Bool} (h : Dec f ds dp neg tr) (q : Int) : Dec (upd f 801 (.int .i64 q)) ds q neg tr :=
 ⟨fun i hi => by rw [upd_ne _ _ (by have := h.len; omega)]; exact h.dig i hi, h.ten, h.len, by rw [upd_ne _ _ (by omega)]; exact h.nd, upd_at .., by rw [upd_ne _ _ (by omega)]; exact h.ngt, by rw [upd_ne _ _ (by omega)]; exact h.trn⟩
structure Made (B : Nat) (w w' : World) (ds : List Nat) (dp : Int) (neg tr : Bool) : Prop where mk ::
 out : ∃ f, Arr w' B f ∧ Dec f ds dp neg tr ∧ Below B w w'
theorem snoc_or (l : List Nat) : l = [] ∨ ∃ m d, l = m ++ [d] := by
 rcases List.eq_nil_or_concat l with h | ⟨m, d, h⟩
 ·exact .inl h
 ·exact .inr ⟨m, d, by rw [h, List.concat_eq_append]⟩
end Go.Proofs.YtkjpelgdppmbjaaGreatDoor.SF
namespace Go.Proofs.YtkjpelgdppmbjaaGreatDoor.SF

def numL (ds : List Nat) : Nat := ds.foldl (fun a d => a * 10 + d) 0
theorem numL_snoc (ds : List Nat) (d : Nat) : numL (ds ++ [d]) = numL ds * 10 + d := by unfold numL; rw [List.foldl_append]; rfl
def pre (ds : List Nat) : Nat → Nat
 | 0 => 0
 | r + 1 => pre ds r * 10 + ds.getD r 0
theorem pre_take (ds : List Nat) (r : Nat) (h : r ≤ ds.length) : pre ds r = numL (ds.take r) := by
 induction r with
 | zero => rfl
 | succ r ih =>
  rw [pre, ih (by omega), List.take_succ_eq_append_getElem (by omega), numL_snoc]
  simp [List.getD, List.getElem?_eq_getElem (show r < ds.length by omega)]
theorem pre_all (ds : List Nat) : pre ds ds.length = numL ds := by rw [pre_take _ _ (Nat.le_refl _), List.take_length]
theorem pre_past (ds : List Nat) (t : Nat) : pre ds (ds.length + t) = numL ds * 10 ^ t := by
 induction t with
 | zero => rw [Nat.add_zero, pre_all, Nat.pow_zero, Nat.mul_one]
 | succ t ih => rw [← Nat.add_assoc, pre, ih, getD_out _ (by omega), Nat.pow_succ, Nat.add_zero, Nat.mul_assoc]
theorem numL_strip (ds : List Nat) : ∃ t, ds = strip ds ++ List.replicate t 0 := by
 induction hn : ds.length generalizing ds with
 | zero => exact ⟨0, by rw [List.length_eq_zero_iff.1 hn]; rfl⟩
 | succ n ih =>
  rcases snoc_or ds with rfl | ⟨m, d, rfl⟩
  ·cases hn
  ·by_cases h : d = 0
   ·subst h
    obtain ⟨t, ht⟩ := ih m (by simpa using hn)
    refine ⟨t + 1, ?_⟩
    rw [strip_zero, List.replicate_succ', ← List.append_assoc, ← ht]
   ·exact ⟨0, by rw [strip_pos _ _ h]; simp⟩
theorem numL_zeros (ds : List Nat) (t : Nat) : numL (ds ++ List.replicate t 0) = numL ds * 10 ^ t := by
 induction t with
 | zero => simp
 | succ t ih => rw [List.replicate_succ', ← List.append_assoc, numL_snoc, ih, Nat.pow_succ, Nat.add_zero, Nat.mul_assoc]
theorem strip_last (ds : List Nat) : strip ds = [] ∨ ∃ m d, strip ds = m ++ [d] ∧ d ≠ 0 := by
 induction hn : ds.length generalizing ds with
 | zero => exact .inl (by rw [List.length_eq_zero_iff.1 hn]; rfl)
 | succ n ih =>
  rcases snoc_or ds with rfl | ⟨m, d, rfl⟩
  ·cases hn
  ·by_cases h : d = 0
   ·subst h; rw [strip_zero]; exact ih m (by simpa using hn)
   ·exact .inr ⟨m, d, strip_pos _ _ h, h⟩
end Go.Proofs.YtkjpelgdppmbjaaGreatDoor.SF
namespace Go.Proofs.YtkjpelgdppmbjaaGreatDoor.SF
open Go.RowKit YtkjpelgdppmbjaaGreatDoorW.PrintWords Go.Proofs.YtkjpelgdppmbjaaGreatDoor.CB

structure Enough (ds : List Nat) (k nd rr nn : Nat) : Prop where
 n : nn = pre ds rr
 hi : 2 ^ k ≤ nn
 one : 1 ≤ rr
 lo : pre ds (rr - 1) < 2 ^ k
 r : rr ≤ nd + k
theorem ten_two (k : Nat) : 2 ^ k ≤ 10 ^ k := Nat.pow_le_pow_left (by omega) k
structure RS (B k : Nat) (f : Nat → Value) (ds : List Nat) (w wr : World) (r0 rr nn : Nat) (os : List Nat) (g : Nat → Value) : Prop where
 len : os.length + r0 = rr
 eq : pre ds rr = numL os * (10 * 2 ^ k) + nn
 lt : nn < 10 * 2 ^ k
 ten : ∀ i, os.getD i 0 < 10
 top : os = [] → 2 ^ k ≤ nn
 hd : os ≠ [] → os.getD 0 0 ≠ 0
 arr : Arr wr B g
 out : ∀ i, i < os.length → g i = .int .u8 ((48 + os.getD i 0 : Nat) : Int)
 old : ∀ i, os.length ≤ i → g i = f i
 bel : Below B w wr
theorem RS.next {B k : Nat} {f : Nat → Value} {ds : List Nat} {w wr : World} {r0 rr nn : Nat} {os : List Nat} {g : Nat → Value} (h : RS B k f ds w wr r0 rr nn os g) (hten : ∀ i, ds.getD i 0 < 10) (hl : os.length < 800) :
  RS B k f ds w (wr.setCell ⟨B, os.length, none⟩ (.int .u8 ((48 + nn / 2 ^ k : Nat) : Int))) r0 (rr + 1) (nn % 2 ^ k * 10 + ds.getD rr 0) (os ++ [nn / 2 ^ k]) (upd g os.length (.int .u8 ((48 + nn / 2 ^ k : Nat) : Int))) := by
 have hK : 0 < 2 ^ k := Nat.pow_pos (by omega)
 have hlt := h.lt
 have hm := Nat.mod_lt nn hK
 have hdm := Nat.div_add_mod nn (2 ^ k)
 have hd10 : nn / 2 ^ k < 10 := Nat.div_lt_of_lt_mul (by rw [Nat.mul_comm]; exact hlt)
 have ht := hten rr
 refine ⟨by have := h.len; simp; omega, ?_, by omega, fun i => ?_, fun hh => absurd hh (by simp), fun _ => ?_, h.arr.set (by omega) _, fun i hi => ?_, fun i hi => ?_, h.bel.setCell (Nat.le_refl _) _⟩
 ·rw [pre, h.eq, numL_snoc]
  generalize 2 ^ k = K at *
  generalize nn / K = q at *
  generalize nn % K = m at *
  have e1 : (numL os * 10 + q) * (10 * K) = numL os * (10 * K) * 10 + 10 * (K * q) := by
   rw [Nat.add_mul]
   have a1 : numL os * 10 * (10 * K) = numL os * (10 * K) * 10 := by ac_rfl
   have a2 : q * (10 * K) = 10 * (K * q) := by ac_rfl
   rw [a1, a2]
  rw [e1]; omega
 ·rcases Nat.lt_trichotomy i os.length with hi | hi | hi
  ·rw [getD_left _ _ hi]; exact h.ten i
  ·subst hi; rw [getD_end]; exact hd10
  ·rw [getD_out _ (by simp; omega)]; omega
 ·rcases Nat.eq_zero_or_pos os.length with h0 | h0
  ·have e := List.length_eq_zero_iff.1 h0
   subst e
   have := h.top rfl
   show nn / 2 ^ k ≠ 0
   have : 1 ≤ nn / 2 ^ k := (Nat.le_div_iff_mul_le hK).2 (by omega)
   omega
  ·rw [getD_left _ _ h0]; exact h.hd (by intro e; rw [e] at h0; cases h0)
 ·rw [List.length_append, List.length_singleton] at hi
  rcases Nat.lt_or_eq_of_le (Nat.le_of_lt_succ hi) with h1 | h1
  ·rw [upd_ne _ _ (by omega), h.out i h1, getD_left _ _ h1]
  ·subst h1; rw [upd_at, getD_end]
 ·rw [List.length_append, List.length_singleton] at hi
  rw [upd_ne _ _ (by omega)]; exact h.old i (by omega)
theorem RS.put {B k : Nat} {f : Nat → Value} {ds : List Nat} {w wr : World} {r0 rr nn d m c : Nat} {os : List Nat} {g : Nat → Value} (h : RS B k f ds w wr r0 rr nn os g) (hten : ∀ i, ds.getD i 0 < 10) (hl : os.length < 800) (hd : nn / 2 ^ k = d) (hm : nn % 2 ^ k = m) (hc : ds.getD rr 0 = c) :
  ∃ os' g', os'.length = os.length + 1 ∧ RS B k f ds w (wr.setCell ⟨B, os.length, none⟩ (.int .u8 ((d : Int) + 48))) r0 (rr + 1) (m * 10 + c) os' g' := by
 have h1 := h.next hten hl
 rw [hd, hm, hc, show ((48 + d : Nat) : Int) = (d : Int) + 48 by omega] at h1
 exact ⟨_, _, by simp, h1⟩
structure Halved (k : Nat) (ds : List Nat) (dp : Int) (es : List Nat) (q : Int) : Prop where
 ne : es ≠ []
 top : es.getD 0 0 ≠ 0
 last : ∃ m d, es = m ++ [d] ∧ d ≠ 0
 val : ∃ a b : Nat, numL es * 2 ^ k * 10 ^ a = numL ds * 10 ^ b ∧ q - es.length - (dp - ds.length) = (a : Int) - b
 bnd : dp - 1000 ≤ q ∧ q ≤ dp
theorem Made.after {B : Nat} {w wm w' : World} {ds : List Nat} {dp : Int} {neg tr : Bool} (hb : Below B w wm) (h : Made B wm w' ds dp neg tr) : Made B w w' ds dp neg tr := by
 obtain ⟨f, h1, h2, h3⟩ := h
 exact ⟨f, h1, h2, hb.trans h3⟩
structure HalvedAt (B : Nat) (w w' : World) (k : Nat) (ds : List Nat) (dp : Int) (neg tr : Bool) : Prop where mk ::
 out : ∃ es q, Made B w w' es q neg tr ∧ Halved k ds dp es q
theorem RS.dec {B k nd : Nat} {f : Nat → Value} {ds : List Nat} {w wr : World} {r0 rr nn : Nat} {os : List Nat} {g : Nat → Value} {dp q : Int} {neg tr : Bool} (h : RS B k (upd f 801 (.int .i64 q)) ds w wr r0 rr nn os g) (hd : Dec f ds dp neg tr) (hl : os.length ≤ 800) (_hn : ds.length = nd) : Dec (upd g 800 (.int .i64 os.length)) os q neg tr := by
 refine ⟨fun i hi => ?_, h.ten, hl, upd_at .., ?_, ?_, ?_⟩
 ·rw [upd_ne _ _ (by omega)]; exact h.out i hi
 ·rw [upd_ne _ _ (by omega), h.old 801 (by omega), upd_at]
 ·rw [upd_ne _ _ (by omega), h.old 802 (by omega), upd_ne _ _ (by omega)]; exact hd.ngt
 ·rw [upd_ne _ _ (by omega), h.old 803 (by omega), upd_ne _ _ (by omega)]; exact hd.trn
theorem strip_numL (os : List Nat) : ∃ t, numL os = numL (strip os) * 10 ^ t ∧ os.length = (strip os).length + t := by
 obtain ⟨t, ht⟩ := numL_strip os
 refine ⟨t, ?_, ?_⟩
 ·conv => lhs; rw [ht]
  exact numL_zeros _ _
 ·conv => lhs; rw [ht]
  simp
theorem strip_ne (os : List Nat) (h : numL os ≠ 0) : strip os ≠ [] := by
 intro e
 obtain ⟨t, h1, _⟩ := strip_numL os
 rw [e] at h1
 have : numL [] = 0 := rfl
 rw [this] at h1; omega
theorem strip_top (os : List Nat) (h : strip os ≠ []) : (strip os).getD 0 0 = os.getD 0 0 := by
 obtain ⟨t, ht⟩ := numL_strip os
 conv => rhs; rw [ht]
 rw [getD_left _ _ (List.length_pos_iff.2 h)]

def pless : List Nat → List Nat → Bool
 | _, [] => false
 | [], _ :: _ => true
 | b :: bs, c :: cs => if b = c then pless bs cs else decide (b < c)

theorem numL_cons (d : Nat) (l : List Nat) : numL (d :: l) = d * 10 ^ l.length + numL l := by
 have h : ∀ (l : List Nat) (a : Nat), l.foldl (fun a d => a * 10 + d) a = a * 10 ^ l.length + numL l := by
  intro l
  induction l with
  | nil => intro a; simp [numL]
  | cons c l ih =>
   intro a
   unfold numL
   rw [List.foldl_cons, List.foldl_cons, ih, ih (0 * 10 + c), List.length_cons, Nat.pow_succ, Nat.add_mul]
   simp only [Nat.zero_mul, Nat.zero_add]
   have : a * 10 * 10 ^ l.length = a * (10 ^ l.length * 10) := by ac_rfl
   omega
 have e : numL (d :: l) = l.foldl (fun a d => a * 10 + d) (0 * 10 + d) := rfl
 rw [e, h, Nat.zero_mul, Nat.zero_add]
theorem numL_lt (ds : List Nat) (h : ∀ i, ds.getD i 0 < 10) : numL ds < 10 ^ ds.length := by
 have e : ∀ r, pre ds r < 10 ^ r := by
  intro r
  induction r with
  | zero => exact Nat.one_pos
  | succ r ih => rw [pre, Nat.pow_succ]; have := h r; omega
 rw [← pre_all]; exact e _
structure LS (B : Nat) (f : Nat → Value) (N : Nat) (w wr : World) (ww nn V : Nat) (os : List Nat) (g : Nat → Value) : Prop where
 len : ww + os.length = N
 eq : numL os + nn * 10 ^ os.length = V
 ten : ∀ i, os.getD i 0 < 10
 arr : Arr wr B g
 out : ∀ i, i < os.length → g (ww + i) = .int .u8 ((48 + os.getD i 0 : Nat) : Int)
 old : ∀ i, i < ww ∨ 800 ≤ i → g i = f i
 bel : Below B w wr
theorem LS.step {B N : Nat} {f : Nat → Value} {w wr : World} {ww nn V : Nat} {os : List Nat} {g : Nat → Value} (h : LS B f N w wr (ww + 1) nn V os g) (hN : N ≤ 800) (p q c V' : Nat) (hq : p / 10 = q) (hc : p % 10 = c) (hV : numL os + p * 10 ^ os.length = V') :
  ∃ os' g', os'.length = os.length + 1 ∧ LS B f N w (wr.setCell ⟨B, ww, none⟩ (.int .u8 ((c : Int) + 48))) ww q V' os' g' := by
 have hl := h.len
 refine ⟨c :: os, upd g ww (.int .u8 ((c : Int) + 48)), rfl, by simp; omega, ?_, fun i => ?_, h.arr.set (by omega) _, fun i hi => ?_, fun i hi => ?_, h.bel.setCell (p := ⟨B, ww, none⟩) (Nat.le_refl B) _⟩
 ·rw [numL_cons, List.length_cons, Nat.pow_succ, ← hV, show p = 10 * q + c by omega, Nat.add_mul]
  have : q * (10 ^ os.length * 10) = 10 * q * 10 ^ os.length := by ac_rfl
  omega
 ·cases i with
  | zero => show c < 10; omega
  | succ i => exact h.ten i
 ·cases i with
  | zero =>
   rw [Nat.add_zero, upd_at]
   show _ = Value.int .u8 ((48 + c : Nat) : Int)
   rw [show ((48 + c : Nat) : Int) = (c : Int) + 48 by omega]
  | succ i =>
   rw [List.length_cons] at hi
   rw [upd_ne _ _ (by omega), show ww + (i + 1) = ww + 1 + i by omega, h.out i (by omega)]; rfl
 ·rw [upd_ne _ _ (by rcases hi with hi | hi <;> omega)]
  exact h.old i (by rcases hi with hi | hi <;> omega)
structure Doubled (k : Nat) (ds : List Nat) (dp : Int) (es : List Nat) (q : Int) : Prop where
 ne : es ≠ []
 top : es.getD 0 0 ≠ 0
 last : ∃ m d, es = m ++ [d] ∧ d ≠ 0
 val : ∃ a b : Nat, numL es * 10 ^ a = numL ds * 2 ^ k * 10 ^ b ∧ q - es.length - (dp - ds.length) = (a : Int) - b
 bnd : dp ≤ q ∧ q ≤ dp + 1000
structure DoubledAt (B : Nat) (w w' : World) (k : Nat) (ds : List Nat) (dp : Int) (neg tr : Bool) : Prop where mk ::
 out : ∃ es q, Made B w w' es q neg tr ∧ Doubled k ds dp es q
theorem LS.dec {B N : Nat} {f : Nat → Value} {w wr : World} {V : Nat} {os : List Nat} {g : Nat → Value} {ds : List Nat} {dp q : Int} {neg tr : Bool} (h : LS B f N w wr 0 0 V os g) (hd : Dec f ds dp neg tr) (hN : N ≤ 800) : Dec (upd (upd g 800 (.int .i64 os.length)) 801 (.int .i64 q)) os q neg tr := by
 have hl := h.len
 refine ⟨fun i hi => ?_, h.ten, by omega, ?_, upd_at .., ?_, ?_⟩
 ·have := h.out i hi
  rw [Nat.zero_add] at this
  rw [upd_ne _ _ (by omega), upd_ne _ _ (by omega)]; exact this
 ·rw [upd_ne _ _ (by omega), upd_at]
 ·rw [upd_ne _ _ (by omega), upd_ne _ _ (by omega), h.old 802 (by omega)]; exact hd.ngt
 ·rw [upd_ne _ _ (by omega), upd_ne _ _ (by omega), h.old 803 (by omega)]; exact hd.trn
theorem LS.more {B N : Nat} {f : Nat → Value} {w wr : World} {ww nn V : Nat} {os : List Nat} {g : Nat → Value} (h : LS B f N w wr ww nn V os g) (hV : V < 10 ^ N) (hn : nn ≠ 0) : 1 ≤ ww := by
 have e := h.eq
 have h1 : 1 * 10 ^ os.length ≤ nn * 10 ^ os.length := Nat.mul_le_mul_right _ (by omega)
 have h2 : 10 ^ os.length < 10 ^ N := by omega
 have := (Nat.pow_lt_pow_iff_right (show 1 < 10 by omega)).1 h2
 have := h.len
 omega
theorem LS.last {B N : Nat} {f : Nat → Value} {w wr : World} {ww V : Nat} {os : List Nat} {g : Nat → Value} (h : LS B f N w wr ww 0 V os g) (hN : 1 ≤ N) (hV : 10 ^ N ≤ V * 10) : ww = 0 := by
 have e := h.eq
 rw [Nat.zero_mul, Nat.add_zero] at e
 have h1 := numL_lt os h.ten
 obtain ⟨M, rfl⟩ : ∃ M, N = M + 1 := ⟨N - 1, by omega⟩
 rw [Nat.pow_succ] at hV
 have h2 : 10 ^ M < 10 ^ os.length := by omega
 have := (Nat.pow_lt_pow_iff_right (show 1 < 10 by omega)).1 h2
 have := h.len
 omega

def Val (ds : List Nat) (dp : Int) (D : Nat) (z E : Int) : Prop := ∃ a b l n : Nat, dp - ds.length = E + a - b ∧ z = (l : Int) - n ∧ numL ds * 10 ^ a * 2 ^ n = D * 2 ^ l * 10 ^ b
structure Good (ds : List Nat) : Prop where
 ne : ds ≠ []
 top : ds.getD 0 0 ≠ 0
 last : ∃ m d, ds = m ++ [d] ∧ d ≠ 0
theorem Halved.val' {k : Nat} {ds es : List Nat} {dp q : Int} (h : Halved k ds dp es q) {D : Nat} {z E : Int} (hv : Val ds dp D z E) : Val es q D (z - k) E := by
 obtain ⟨a, b, l, n, h1, h2, h3⟩ := hv
 obtain ⟨c, e, h4, h5⟩ := h.val
 refine ⟨a + c, b + e, l, n + k, by omega, by omega, ?_⟩
 calc numL es * 10 ^ (a + c) * 2 ^ (n + k) = (numL es * 2 ^ k * 10 ^ c) * 10 ^ a * 2 ^ n := by rw [Nat.pow_add, Nat.pow_add]; ac_rfl
  _ = (numL ds * 10 ^ a * 2 ^ n) * 10 ^ e := by rw [h4]; ac_rfl
  _ = D * 2 ^ l * 10 ^ (b + e) := by rw [h3, Nat.pow_add]; ac_rfl
theorem Doubled.val' {k : Nat} {ds es : List Nat} {dp q : Int} (h : Doubled k ds dp es q) {D : Nat} {z E : Int} (hv : Val ds dp D z E) : Val es q D (z + k) E := by
 obtain ⟨a, b, l, n, h1, h2, h3⟩ := hv
 obtain ⟨c, e, h4, h5⟩ := h.val
 refine ⟨a + c, b + e, l + k, n, by omega, by omega, ?_⟩
 calc numL es * 10 ^ (a + c) * 2 ^ n = (numL es * 10 ^ c) * 10 ^ a * 2 ^ n := by rw [Nat.pow_add]; ac_rfl
  _ = (numL ds * 10 ^ a * 2 ^ n) * 2 ^ k * 10 ^ e := by rw [h4]; ac_rfl
  _ = D * 2 ^ (l + k) * 10 ^ (b + e) := by rw [h3, Nat.pow_add, Nat.pow_add]; ac_rfl
theorem last_mod {ds : List Nat} (h : Good ds) (hten : ∀ i, ds.getD i 0 < 10) : numL ds % 10 ≠ 0 := by
 obtain ⟨m, d, rfl, hd⟩ := h.last
 have := hten m.length
 rw [getD_end] at this
 rw [numL_snoc]; omega
theorem top_le {ds : List Nat} (h : Good ds) : 10 ^ (ds.length - 1) ≤ numL ds := by
 rcases ds with _ | ⟨c, l⟩
 ·exact absurd rfl h.ne
 ·rw [numL_cons, List.length_cons, Nat.add_sub_cancel]
  have hc : 1 ≤ c := by have := h.top; show 0 < c; exact Nat.pos_of_ne_zero this
  have : 1 * 10 ^ l.length ≤ c * 10 ^ l.length := Nat.mul_le_mul_right _ hc
  omega
theorem val_le {ds : List Nat} {dp : Int} {D : Nat} {z E : Int} (hg : Good ds) (hten : ∀ i, ds.getD i 0 < 10) (hv : Val ds dp D z E) : numL ds ≤ D * 2 ^ z.toNat * 5 ^ (-z).toNat := by
 obtain ⟨a, b, l, n, _, h2, h3⟩ := hv
 have hm := last_mod hg hten
 -- without the common power of 2
 have h4 : numL ds * 10 ^ a * 2 ^ (-z).toNat = D * 2 ^ z.toNat * 10 ^ b := by
  rcases Nat.le_total l n with h | h
  ·obtain ⟨t, rfl⟩ := Nat.le.dest h
   rw [show (-z).toNat = t by omega, show z.toNat = 0 by omega, Nat.pow_zero, Nat.mul_one]
   apply Nat.eq_of_mul_eq_mul_right (Nat.pow_pos (n := l) (show 0 < 2 by omega))
   calc numL ds * 10 ^ a * 2 ^ t * 2 ^ l = numL ds * 10 ^ a * 2 ^ (l + t) := by rw [Nat.pow_add]; ac_rfl
    _ = D * 10 ^ b * 2 ^ l := by rw [h3]; ac_rfl
  ·obtain ⟨t, rfl⟩ := Nat.le.dest h
   rw [show (-z).toNat = 0 by omega, show z.toNat = t by omega, Nat.pow_zero, Nat.mul_one]
   apply Nat.eq_of_mul_eq_mul_right (Nat.pow_pos (n := n) (show 0 < 2 by omega))
   rw [h3, Nat.pow_add]; ac_rfl
 generalize (-z).toNat = n' at *
 generalize D * 2 ^ z.toNat = Y at *
 have h5 : numL ds * 10 ^ (a + n') = Y * 5 ^ n' * 10 ^ b := by
  calc numL ds * 10 ^ (a + n') = numL ds * 10 ^ a * 2 ^ n' * 5 ^ n' := by rw [Nat.pow_add, show (10 : Nat) ^ n' = 2 ^ n' * 5 ^ n' by rw [← Nat.mul_pow]]; ac_rfl
   _ = Y * 5 ^ n' * 10 ^ b := by rw [h4]; ac_rfl
 rcases Nat.lt_or_ge (a + n') b with h | h
 ·exfalso
  obtain ⟨t, rfl⟩ := Nat.le.dest h
  have h6 : numL ds = Y * 5 ^ n' * 10 ^ (t + 1) := by
   apply Nat.eq_of_mul_eq_mul_right (Nat.pow_pos (n := a + n') (show 0 < 10 by omega))
   rw [h5, show (a + n').succ + t = (t + 1) + (a + n') by omega, Nat.pow_add]; ac_rfl
  rw [h6, Nat.pow_succ, ← Nat.mul_assoc] at hm
  exact hm (Nat.mul_mod_left _ _)
 ·obtain ⟨t, ht⟩ := Nat.le.dest h
  rw [← ht] at h5
  have h6 : numL ds * 10 ^ t = Y * 5 ^ n' := by
   apply Nat.eq_of_mul_eq_mul_right (Nat.pow_pos (n := b) (show 0 < 10 by omega))
   rw [← h5, Nat.pow_add]; ac_rfl
  rw [← h6]
  exact Nat.le_mul_of_pos_right _ (Nat.pow_pos (by omega))
theorem len_lt {ds : List Nat} {X M : Nat} (hg : Good ds) (h : numL ds ≤ X) (hX : X < 10 ^ M) : ds.length ≤ M := by
 have h1 := top_le hg
 have h2 : 10 ^ (ds.length - 1) < 10 ^ M := by omega
 have := (Nat.pow_lt_pow_iff_right (show 1 < 10 by omega)).1 h2
 omega
theorem all_ten {ds : List Nat} (h : ∀ i, ds.getD i 0 < 10) : ∀ d ∈ ds, d < 10 := by
 intro d hd
 obtain ⟨i, hi, rfl⟩ := List.mem_iff_getElem.1 hd
 have := h i
 simpa [List.getD, List.getElem?_eq_getElem hi] using this
theorem ten_all {ds : List Nat} (h : ∀ d ∈ ds, d < 10) : ∀ i, ds.getD i 0 < 10 := by
 intro i
 by_cases hi : i < ds.length
 ·simp only [List.getD, List.getElem?_eq_getElem hi, Option.getD_some]; exact h _ (List.getElem_mem hi)
 ·rw [getD_out _ (by omega)]; omega
def endB : List Nat → Bool
 | [] => true
 | [d] => d != 0
 | _ :: l => endB l
theorem endB_tail (c : Nat) (l : List Nat) (h : endB (c :: l) = true) : endB l = true := by
 cases l with
 | nil => rfl
 | cons d l => exact h
theorem endB_pos (c : Nat) (l : List Nat) (h : endB (c :: l) = true) : 0 < numL (c :: l) := by
 induction l generalizing c with
 | nil =>
  have : c ≠ 0 := by simpa [endB] using h
  rw [numL_cons]; simp; omega
 | cons d l ih => rw [numL_cons]; have := ih d h; omega
theorem pless_iff (cs ds : List Nat) (hd : ∀ d ∈ ds, d < 10) (hc : ∀ d ∈ cs, d < 10) (he : endB cs = true) : pless ds cs = decide (numL ds * 10 ^ cs.length < numL cs * 10 ^ ds.length) := by
 induction cs generalizing ds with
 | nil =>
  rw [decide_eq_false (by show ¬ _ < 0 * _; rw [Nat.zero_mul]; omega)]
  cases ds <;> rfl
 | cons c cs ih =>
  cases ds with
  | nil =>
   have := endB_pos c cs he
   rw [decide_eq_true (by show 0 * _ < _ * 10 ^ 0; rw [Nat.zero_mul, Nat.pow_zero, Nat.mul_one]; exact this)]; rfl
  | cons b bs =>
   have hx := numL_lt bs (ten_all (fun d h => hd d (List.mem_cons_of_mem _ h)))
   have hy := numL_lt cs (ten_all (fun d h => hc d (List.mem_cons_of_mem _ h)))
   have ihh := ih bs (fun d h => hd d (List.mem_cons_of_mem _ h)) (fun d h => hc d (List.mem_cons_of_mem _ h)) (endB_tail c cs he)
   have e0 : pless (b :: bs) (c :: cs) = if b = c then pless bs cs else decide (b < c) := rfl
   rw [e0, ihh, numL_cons, numL_cons, List.length_cons, List.length_cons, Nat.pow_succ, Nat.pow_succ]
   generalize numL bs = x at *
   generalize numL cs = y at *
   have hm : 0 < 10 ^ bs.length := Nat.pow_pos (by omega)
   have hn : 0 < 10 ^ cs.length := Nat.pow_pos (by omega)
   generalize 10 ^ bs.length = M at *
   generalize 10 ^ cs.length = N at *
   have p1 : x * N < M * N := Nat.mul_lt_mul_of_pos_right hx hn
   have p2 : y * M < N * M := Nat.mul_lt_mul_of_pos_right hy hm
   have q1 : (b * M + x) * (N * 10) = 10 * (b * (M * N)) + 10 * (x * N) := by rw [Nat.add_mul]; congr 1 <;> ac_rfl
   have q2 : (c * N + y) * (M * 10) = 10 * (c * (M * N)) + 10 * (y * M) := by rw [Nat.add_mul]; congr 1 <;> ac_rfl
   rw [q1, q2]
   rw [Nat.mul_comm N M] at p2
   by_cases hbc : b = c
   ·subst hbc
    rw [if_pos rfl]
    exact decide_eq_decide.2 (by omega)
   ·rw [if_neg hbc]
    apply decide_eq_decide.2
    rcases Nat.lt_or_gt_of_ne hbc with h | h
    ·have : (b + 1) * (M * N) ≤ c * (M * N) := Nat.mul_le_mul_right _ h
     rw [Nat.add_mul, Nat.one_mul] at this
     generalize b * (M * N) = u at *
     generalize c * (M * N) = v at *
     constructor
     ·intro _; omega
     ·intro _; exact h
    ·have : (c + 1) * (M * N) ≤ b * (M * N) := Nat.mul_le_mul_right _ h
     rw [Nat.add_mul, Nat.one_mul] at this
     generalize b * (M * N) = u at *
     generalize c * (M * N) = v at *
     constructor
     ·intro _; omega
     ·intro _; omega
structure Cheat (k d0 : Nat) (cs : List Nat) : Prop where
 five : numL cs = 5 ^ k
 ten : ∀ d ∈ cs, d < 10
 fin : endB cs = true
 big : 10 ^ cs.length ≤ 5 ^ k * 10
 d : d0 + cs.length = k + 1
theorem Cheat.range {k d0 : Nat} {cs ds : List Nat} (h : Cheat k d0 cs) (hk : 1 ≤ k) (hg : ds.getD 0 0 ≠ 0) (hten : ∀ i, ds.getD i 0 < 10) :
  ∃ dl : Nat, (dl : Int) = d0 - ((pless ds cs).toNat : Nat) ∧ dl ≤ k ∧ 10 ^ (ds.length + dl) ≤ numL ds * 2 ^ k * 10 ∧ numL ds * 2 ^ k < 10 ^ (ds.length + dl) := by
 have h5 := h.five
 have hlt := numL_lt cs (ten_all h.ten)
 rw [h5] at hlt
 have hbig := h.big
 have hx := numL_lt ds hten
 have hx1 : 10 ^ ds.length ≤ numL ds * 10 := by
  rcases ds with _ | ⟨c, l⟩
  ·exact absurd rfl hg
  ·rw [numL_cons, List.length_cons, Nat.pow_succ]
   have hc : 1 ≤ c := Nat.pos_of_ne_zero hg
   have : 1 * 10 ^ l.length ≤ c * 10 ^ l.length := Nat.mul_le_mul_right _ hc
   omega
 have hp := pless_iff cs ds (all_ten hten) h.ten h.fin
 rw [h5] at hp
 have h10 : (10 : Nat) ^ k = 2 ^ k * 5 ^ k := by rw [← Nat.mul_pow]
 have hm : cs.length ≤ k := by
  rcases Nat.lt_or_ge k cs.length with hh | hh
  ·exfalso
   have h1 : (10 : Nat) ^ (k + 1) ≤ 10 ^ cs.length := Nat.pow_le_pow_right (by omega) hh
   have h2 : 2 * 5 ^ k ≤ 2 ^ k * 5 ^ k := Nat.mul_le_mul_right _ (by
    obtain ⟨j, rfl⟩ : ∃ j, k = j + 1 := ⟨k - 1, by omega⟩
    rw [Nat.pow_succ]; have : 0 < 2 ^ j := Nat.pow_pos (by omega)
    omega)
   have : 0 < 5 ^ k := Nat.pow_pos (by omega)
   rw [Nat.pow_succ, h10] at h1
   omega
  ·exact hh
 have hm1 : 1 ≤ cs.length := by
  rcases Nat.eq_zero_or_pos cs.length with h0 | h0
  ·exfalso
   rw [h0, Nat.pow_zero] at hlt
   have : 0 < 5 ^ k := Nat.pow_pos (by omega)
   omega
  ·exact h0
 have hd := h.d
 obtain ⟨j, hj⟩ : ∃ j, k = cs.length + j := ⟨k - cs.length, by omega⟩
 have hpm : 0 < 10 ^ cs.length := Nat.pow_pos (by omega)
 have hj10 : (10 : Nat) ^ k = 10 ^ cs.length * 10 ^ j := by rw [← Nat.pow_add, ← hj]
 have hpn : 0 < 10 ^ ds.length := Nat.pow_pos (by omega)
 generalize numL ds = x at *
 generalize hM : 10 ^ cs.length = M at *
 generalize hNd : 10 ^ ds.length = Nd at *
 generalize hJ : 10 ^ j = J at *
 generalize hT : 2 ^ k = T at *
 generalize hF : 5 ^ k = F at *
 rw [hj10] at h10
 -- M * J = T * F
 have hJp : 0 < J := by rw [← hJ]; exact Nat.pow_pos (by omega)
 have hTp : 0 < T := by rw [← hT]; exact Nat.pow_pos (by omega)
 by_cases hl : x * M < F * Nd
 ·rw [decide_eq_true hl] at hp
  refine ⟨j, by rw [hp]; simp; omega, by omega, ?_, ?_⟩
  ·rw [Nat.pow_add, hNd, hJ]
   -- J ≤ T
   have h1 : M * J < M * T := by
    rw [h10, Nat.mul_comm M T]; exact Nat.mul_lt_mul_of_pos_left hlt hTp
   have h2 : J < T := Nat.lt_of_mul_lt_mul_left h1
   calc Nd * J ≤ Nd * T := Nat.mul_le_mul_left _ (Nat.le_of_lt h2)
    _ ≤ x * 10 * T := Nat.mul_le_mul_right _ hx1
    _ = x * T * 10 := by ac_rfl
  ·rw [Nat.pow_add, hNd, hJ]
   have h1 : x * T * M < Nd * J * M := by
    calc x * T * M = x * M * T := by ac_rfl
     _ < F * Nd * T := Nat.mul_lt_mul_of_pos_right hl hTp
     _ = Nd * (T * F) := by ac_rfl
     _ = Nd * J * M := by rw [← h10]; ac_rfl
   exact Nat.lt_of_mul_lt_mul_right h1
 ·rw [decide_eq_false hl] at hp
  refine ⟨j + 1, by rw [hp]; simp; omega, by omega, ?_, ?_⟩
  ·rw [Nat.pow_add, hNd, Nat.pow_succ, hJ, ← Nat.mul_assoc]
   apply Nat.mul_le_mul_right
   have h1 : Nd * J * M ≤ x * T * M := by
    calc Nd * J * M = Nd * (M * J) := by ac_rfl
     _ = F * Nd * T := by rw [h10]; ac_rfl
     _ ≤ x * M * T := Nat.mul_le_mul_right _ (by omega)
     _ = x * T * M := by ac_rfl
   exact Nat.le_of_mul_le_mul_right h1 hpm
  ·rw [Nat.pow_add, hNd, Nat.pow_succ, hJ]
   have h1 : x * T < Nd * T := Nat.mul_lt_mul_of_pos_right hx hTp
   have h2 : T * M ≤ J * 10 * M := by
    calc T * M ≤ T * (F * 10) := Nat.mul_le_mul_left _ hbig
     _ = M * J * 10 := by rw [h10]; ac_rfl
     _ = J * 10 * M := by ac_rfl
   have h3 : T ≤ J * 10 := Nat.le_of_mul_le_mul_right h2 hpm
   exact Nat.lt_of_lt_of_le h1 (Nat.mul_le_mul_left _ h3)
structure Cheats (w : World) (B : Nat) : Prop where mk ::
 out : ∃ lb lo lc : Nat, lb < B ∧ 14 < B ∧ w.cell? ⟨14, 0, none⟩ = some (.slice (some ⟨lb, lo, none⟩) 61 lc) ∧
  ∀ k, 1 ≤ k → k ≤ 60 → ∃ (d0 : Nat) (s : ByteArray) (cs : List Nat), w.cell? ⟨lb, lo + k * 2, none⟩ = some (.int .i64 d0) ∧ w.cell? ⟨lb, lo + k * 2 + 1, none⟩ = some (.string s) ∧ Cheat k d0 cs ∧ cs.length = s.size ∧ s.size ≤ 100 ∧ (∀ i (h : i < s.size), s[i].toNat = 48 + cs.getD i 0) ∧ d0 ≤ 19
theorem Cheats.below {w w' : World} {B : Nat} (h : Cheats w B) (hb : Below B w w') : Cheats w' B := by
 obtain ⟨lb, lo, lc, h1, h2, h3, h4⟩ := h
 refine ⟨lb, lo, lc, h1, h2, (hb.cell (p := ⟨_, 0, none⟩) h2).trans h3, fun k k1 k2 => ?_⟩
 obtain ⟨d0, s, cs, a1, a2, a3⟩ := h4 k k1 k2
 exact ⟨d0, s, cs, (hb.cell (p := ⟨lb, _, none⟩) h1).trans a1, (hb.cell (p := ⟨lb, _, none⟩) h1).trans a2, a3⟩
theorem Good.of_halved {k : Nat} {ds es : List Nat} {dp q : Int} (h : Halved k ds dp es q) : Good es := ⟨h.ne, h.top, h.last⟩
theorem Good.of_doubled {k : Nat} {ds es : List Nat} {dp q : Int} (h : Doubled k ds dp es q) : Good es := ⟨h.ne, h.top, h.last⟩
structure ShiftAt (B : Nat) (w w' : World) (D : Nat) (z E : Int) (neg tr : Bool) (lo hi : Int) : Prop where mk ::
 out : ∃ es q, Made B w w' es q neg tr ∧ Good es ∧ Val es q D z E ∧ lo ≤ q ∧ q ≤ hi
theorem DoubledAt.shift {B : Nat} {w wm w' : World} {k : Nat} {ds : List Nat} {dp : Int} {neg tr : Bool} (h : DoubledAt B wm w' k ds dp neg tr) (hb : Below B w wm) {D : Nat} {z E : Int} (hv : Val ds dp D z E) : ShiftAt B w w' D (z + k) E neg tr dp (dp + 1000) := by
 obtain ⟨es, q, h1, h2⟩ := h
 exact ⟨es, q, h1.after hb, Good.of_doubled h2, h2.val' hv, h2.bnd⟩
theorem HalvedAt.shift {B : Nat} {w wm w' : World} {k : Nat} {ds : List Nat} {dp : Int} {neg tr : Bool} (h : HalvedAt B wm w' k ds dp neg tr) (hb : Below B w wm) {D : Nat} {z E : Int} (hv : Val ds dp D z E) : ShiftAt B w w' D (z - k) E neg tr (dp - 1000) dp := by
 obtain ⟨es, q, h1, h2⟩ := h
 exact ⟨es, q, h1.after hb, Good.of_halved h2, h2.val' hv, h2.bnd⟩


def rup (ds : List Nat) (n : Nat) : Bool := if ds.length ≤ n then false else if ds.getD n 0 = 5 ∧ n + 1 = ds.length then decide (0 < n ∧ ds.getD (n - 1) 0 % 2 = 1) else decide (5 ≤ ds.getD n 0)
theorem round_past (B n : Nat) (f : Nat → Value) (ds : List Nat) (dp : Int) (neg : Bool) (w : World) (ha : Arr w B f) (hd : Dec f ds dp neg false) (hn : ds.length ≤ n) :
  Calls Tryz.prog 235 #[.pointer (some ⟨B, 0, none⟩), .int .i64 n] w fun e w' => e = .returned (.bool false) ∧ w = w' := by
 have c0 : w.cell? ⟨B, 800, none⟩ = some (.int .i64 ds.length) := (ha.cell 800 (by omega)).trans (congrArg some hd.nd)
 clear ha hd
 generalize ds.length = nd at *
 go_enter Tryz.func235, Tryz.ntmps235
 go_wp2
 go_ret
 exact ⟨rfl, rfl⟩
theorem round_neg (B : Nat) (n : Int) (w : World) (hn : n < 0) :
  Calls Tryz.prog 235 #[.pointer (some ⟨B, 0, none⟩), .int .i64 n] w fun e w' => e = .returned (.bool false) ∧ w = w' := by
 go_enter Tryz.func235, Tryz.ntmps235
 go_wp2
 go_ret
 exact ⟨rfl, rfl⟩
theorem round_in (B n : Nat) (f : Nat → Value) (ds : List Nat) (dp : Int) (neg : Bool) (w : World) (ha : Arr w B f) (hd : Dec f ds dp neg false) (hn : n < ds.length) :
  Calls Tryz.prog 235 #[.pointer (some ⟨B, 0, none⟩), .int .i64 n] w fun e w' => e = .returned (.bool (rup ds n)) ∧ w = w' := by
 have hl := hd.len
 have c0 : w.cell? ⟨B, 800, none⟩ = some (.int .i64 ds.length) := (ha.cell 800 (by omega)).trans (congrArg some hd.nd)
 have c1 : w.cell? ⟨B, n, none⟩ = some (.int .u8 ((48 + ds.getD n 0 : Nat) : Int)) := (ha.cell n (by omega)).trans (congrArg some (hd.dig n hn))
 have c3 : w.cell? ⟨B, 803, none⟩ = some (.bool false) := (ha.cell 803 (by omega)).trans (congrArg some hd.trn)
 have hd10 := hd.ten n
 generalize hr : rup ds n = r
 unfold rup at hr
 rw [if_neg (by omega)] at hr
 by_cases h5 : ds.getD n 0 = 5
 ·by_cases hlast : n + 1 = ds.length
  ·rw [if_pos ⟨h5, hlast⟩] at hr
   have c4 : ((n : Int) + 1 == (ds.length : Int)) = true := by rw [beq_iff_eq]; omega
   rcases Nat.eq_zero_or_pos n with h0 | h0
   ·subst h0
    have hr' : r = false := by rw [← hr]; exact decide_eq_false (by omega)
    subst hr'
    have HR := Lib.hid hr
    rw [h5] at c1
    clear ha hd hr h5 hd10
    have h1 : ds.length = 1 := by omega
    rw [h1] at c0 c4
    go_enter Tryz.func235, Tryz.ntmps235
    go_wp2
    go_ret
    exact ⟨rfl, rfl⟩
   ·obtain ⟨m, rfl⟩ : ∃ m, n = m + 1 := ⟨n - 1, by omega⟩
    have c2 : w.cell? ⟨B, m, none⟩ = some (.int .u8 ((48 + ds.getD m 0 : Nat) : Int)) := (ha.cell m (by omega)).trans (congrArg some (hd.dig m (by omega)))
    have hm10 := hd.ten m
    rw [Nat.add_sub_cancel] at hr
    rw [h5] at c1
    have hpar : ((48 + (ds.getD m 0 : Int) - 48) % 2 != 0) = r := by
     rw [← hr, Bool.eq_iff_iff, bne_iff_ne, decide_eq_true_iff]; omega
    have HR := Lib.hid hr
    clear ha hd hr h5 hd10
    generalize ds.getD m 0 = e at *
    generalize ds.length = nd at *
    go_enter Tryz.func235, Tryz.ntmps235
    go_wp2
    go_ret
    exact ⟨rfl, rfl⟩
  ·rw [if_neg (by omega)] at hr
   have hr' : r = true := by rw [← hr]; exact decide_eq_true (by omega)
   subst hr'
   have HR := Lib.hid hr
   rw [h5] at c1
   have c4 : ((n : Int) + 1 == (ds.length : Int)) = false := by rw [beq_eq_false_iff_ne]; omega
   clear ha hd hr h5 hd10
   generalize ds.length = nd at *
   go_enter Tryz.func235, Tryz.ntmps235
   go_wp2
   go_ret
   exact ⟨rfl, rfl⟩
 ·rw [if_neg (by omega)] at hr
  have c4 : (((48 + ds.getD n 0 : Nat) : Int) == 53) = false := by rw [beq_eq_false_iff_ne]; omega
  have c5 : decide ((53 : Int) ≤ 48 + ((ds.getD n 0 : Nat) : Int)) = r := by rw [← hr]; exact decide_eq_decide.2 (by omega)
  have HR := Lib.hid hr
  have H5 := Lib.hid h5
  clear ha hd hr h5
  generalize ds.getD n 0 = e at *
  generalize ds.length = nd at *
  go_enter Tryz.func235, Tryz.ntmps235
  go_wp2
  go_ret
  exact ⟨rfl, rfl⟩
theorem round_any (B n : Nat) (f : Nat → Value) (ds : List Nat) (dp : Int) (neg : Bool) (w : World) (ha : Arr w B f) (hd : Dec f ds dp neg false) :
  Calls Tryz.prog 235 #[.pointer (some ⟨B, 0, none⟩), .int .i64 n] w fun e w' => e = .returned (.bool (rup ds n)) ∧ w = w' := by
 by_cases h : ds.length ≤ n
 ·have e : rup ds n = false := if_pos h
  rw [e]; exact round_past B n f ds dp neg w ha hd h
 ·exact round_in B n f ds dp neg w ha hd (by omega)
theorem pre_lt (ds : List Nat) (h : ∀ i, ds.getD i 0 < 10) (r : Nat) : pre ds r < 10 ^ r := by
 induction r with
 | zero => exact Nat.one_pos
 | succ r ih => rw [pre, Nat.pow_succ]; have := h r; omega
theorem rounded_neg (B : Nat) (f : Nat → Value) (ds : List Nat) (dp : Int) (neg : Bool) (w : World) (ha : Arr w B f) (hd : Dec f ds dp neg false) (hdp : dp < 0) :
  Calls Tryz.prog 221 #[.pointer (some ⟨B, 0, none⟩)] w fun e w' => e = .returned (.int .u64 0) ∧ w = w' := by
 have c0 : w.cell? ⟨B, 800, none⟩ = some (.int .i64 ds.length) := (ha.cell 800 (by omega)).trans (congrArg some hd.nd)
 have c1 : w.cell? ⟨B, 801, none⟩ = some (.int .i64 dp) := (ha.cell 801 (by omega)).trans (congrArg some hd.dpt)
 clear ha hd
 generalize ds.length = nd at *
 go_enter Tryz.func221, Tryz.ntmps221
 go_wp2
 go_loop [3, 4] (fun i n => i = .int .i64 0 ∧ n = .int .u64 0) (fun _ _ => 0)
 case atStart => exact ⟨rfl, rfl⟩
 case round =>
  obtain ⟨rfl, rfl⟩ := hrel
  go_wp2
  go_loop [3, 4] (fun i n => i = .int .i64 0 ∧ n = .int .u64 0) (fun _ _ => 0)
  case atStart => exact ⟨rfl, rfl⟩
  case round =>
   obtain ⟨rfl, rfl⟩ := hrel
   go_wp2_with (go_at_call 235; refine (round_neg B dp _ hdp).mono ?_; rintro e w' ⟨rfl, rfl⟩)
   go_ret
   exact ⟨rfl, rfl⟩
set_option maxHeartbeats 1000000 in
theorem rounded_calls (B p : Nat) (f : Nat → Value) (ds : List Nat) (neg : Bool) (w : World) (ha : Arr w B f) (hd : Dec f ds p neg false) (hp : p ≤ 18) :
  Calls Tryz.prog 221 #[.pointer (some ⟨B, 0, none⟩)] w fun e w' => e = .returned (.int .u64 (pre ds p + (rup ds p).toNat : Nat)) ∧ w = w' := by
 have c0 : w.cell? ⟨B, 800, none⟩ = some (.int .i64 ds.length) := (ha.cell 800 (by omega)).trans (congrArg some hd.nd)
 have c1 : w.cell? ⟨B, 801, none⟩ = some (.int .i64 p) := (ha.cell 801 (by omega)).trans (congrArg some hd.dpt)
 have hlen := hd.len
 have HA := Lib.hid ha
 have HD := Lib.hid hd
 have hup := fun W (hW : W = w) => round_any B p f ds p neg W (hW ▸ ha) hd
 have hmax : ∀ k, k ≤ p → pre ds k < 1000000000000000000 := fun k hk => Nat.lt_of_lt_of_le (pre_lt ds hd.ten k) (Nat.le_trans (Nat.pow_le_pow_right (by omega) (show k ≤ 18 by omega)) (by decide))
 have HMX := Lib.hid hmax
 have HUP := Lib.hid hup
 clear ha hd hup hmax
 generalize hn : ds.length = nd at *
 have HN := Lib.hid hn
 clear hn
 go_enter Tryz.func221, Tryz.ntmps221
 go_wp2
 go_loop [3, 4] (fun i n => ∃ k m : Nat, i = .int .i64 k ∧ n = .int .u64 m ∧ Hid (m = pre ds k ∧ k ≤ p ∧ k ≤ nd)) (fun i _ => 20 - (intOf i).toNat)
 case atStart => exact ⟨0, 0, rfl, rfl, Lib.hid ⟨rfl, by omega, by omega⟩⟩
 case round =>
  obtain ⟨k, m, rfl, rfl, HR⟩ := hrel
  have hk1 : k ≤ p := HR.out.2.1
  have hk2 : k ≤ nd := HR.out.2.2
  have hm : m < 1000000000000000000 := by rw [HR.out.1]; exact HMX.out k hk1
  by_cases hlt : k < p ∧ k < nd
  ·obtain ⟨h1, h2⟩ := hlt
   have c2 : w.cell? ⟨B, k, none⟩ = some (.int .u8 ((48 + ds.getD k 0 : Nat) : Int)) := (HA.out.cell k (by omega)).trans (congrArg some (HD.out.dig k (by rw [HN.out]; exact h2)))
   have hd10 := HD.out.ten k
   have HV : Hid (m * 10 + ds.getD k 0 = pre ds (k + 1)) := Lib.hid (by rw [pre, HR.out.1])
   generalize ds.getD k 0 = d at *
   go_wp2
   go_round
   case rel => exact ⟨k + 1, m * 10 + d, by go_num, congrArg (Value.int .u64) (by omega), Lib.hid ⟨HV.out, h1, h2⟩⟩
   case measure => simp [intOf]; omega
  ·have HM0 : Hid (m = pre ds k) := Lib.hid HR.out.1
   clear HR
   have hcase : k = p ∨ (k < p ∧ nd = k) := by omega
   rcases hcase with h1 | ⟨h1, h2⟩
   ·obtain rfl : p = k := h1.symm
    go_wp2
    go_loop [3, 4] (fun i n => ∃ k m : Nat, i = .int .i64 k ∧ n = .int .u64 m ∧ Hid (m = pre ds k ∧ k ≤ p ∧ (k = p ∨ nd ≤ k))) (fun i _ => 20 - (intOf i).toNat)
    case atStart => exact ⟨_, _, rfl, rfl, Lib.hid ⟨HM0.out, by omega, by first | exact .inl rfl | exact .inr (Nat.le_refl _)⟩⟩
    case round =>
     obtain ⟨k', m', rfl, rfl, HT⟩ := hrel
     have hk1' : k' ≤ p := HT.out.2.1
     have hm' : m' < 1000000000000000000 := by rw [HT.out.1]; exact HMX.out k' hk1'
     by_cases hlt' : k' < p
     ·have HV : Hid (m' * 10 = pre ds (k' + 1)) := Lib.hid (by rw [pre, HT.out.1, getD_out ds (by have := HT.out.2.2; have := HN.out; omega), Nat.add_zero])
      have HV2 : Hid (k' + 1 = p ∨ nd ≤ k' + 1) := Lib.hid (by have := HT.out.2.2; omega)
      go_wp2
      go_round
      case rel => exact ⟨k' + 1, m' * 10, by go_num, by go_num, Lib.hid ⟨HV.out, hlt', HV2.out⟩⟩
      case measure => simp [intOf]; omega
     ·obtain rfl : p = k' := by omega
      have HRES : Hid (m' = pre ds p) := Lib.hid HT.out.1
      have hcl := HUP.out w rfl
      cases hb : rup ds p
      all_goals
       rw [hb] at hcl
       have HCL := Lib.hid hcl
       have HB := Lib.hid hb
       clear hcl hb
       go_wp2_with (go_at_call 235; ((with_reducible refine HCL.out.mono ?_); rintro e w' ⟨rfl, rfl⟩))
       go_ret
       exact ⟨congrArg (fun z : Int => Ending.returned (Value.int .u64 z)) (by have := HRES.out; rw [HB.out]; simp; omega), rfl⟩
   ·obtain rfl : nd = k := h2
    go_wp2
    go_loop [3, 4] (fun i n => ∃ k m : Nat, i = .int .i64 k ∧ n = .int .u64 m ∧ Hid (m = pre ds k ∧ k ≤ p ∧ (k = p ∨ nd ≤ k))) (fun i _ => 20 - (intOf i).toNat)
    case atStart => exact ⟨_, _, rfl, rfl, Lib.hid ⟨HM0.out, by omega, by first | exact .inl rfl | exact .inr (Nat.le_refl _)⟩⟩
    case round =>
     obtain ⟨k', m', rfl, rfl, HT⟩ := hrel
     have hk1' : k' ≤ p := HT.out.2.1
     have hm' : m' < 1000000000000000000 := by rw [HT.out.1]; exact HMX.out k' hk1'
     by_cases hlt' : k' < p
     ·have HV : Hid (m' * 10 = pre ds (k' + 1)) := Lib.hid (by rw [pre, HT.out.1, getD_out ds (by have := HT.out.2.2; have := HN.out; omega), Nat.add_zero])
      have HV2 : Hid (k' + 1 = p ∨ nd ≤ k' + 1) := Lib.hid (by have := HT.out.2.2; omega)
      go_wp2
      go_round
      case rel => exact ⟨k' + 1, m' * 10, by go_num, by go_num, Lib.hid ⟨HV.out, hlt', HV2.out⟩⟩
      case measure => simp [intOf]; omega
     ·obtain rfl : p = k' := by omega
      have HRES : Hid (m' = pre ds p) := Lib.hid HT.out.1
      have hcl := HUP.out w rfl
      cases hb : rup ds p
      all_goals
       rw [hb] at hcl
       have HCL := Lib.hid hcl
       have HB := Lib.hid hb
       clear hcl hb
       go_wp2_with (go_at_call 235; ((with_reducible refine HCL.out.mono ?_); rintro e w' ⟨rfl, rfl⟩))
       go_ret
       exact ⟨congrArg (fun z : Int => Ending.returned (Value.int .u64 z)) (by have := HRES.out; rw [HB.out]; simp; omega), rfl⟩

def digs (s : ByteArray) (k : Nat) : List Nat := (s.data.toList.take k).map fun c => c.toNat - 48
theorem Dec.push {f : Nat → Value} {ds : List Nat} {dp : Int} {neg tr : Bool} (h : Dec f ds dp neg tr) (hl : ds.length < 800) (c d : Nat) (hc : c = 48 + d) (hd : d < 10) (n : Int) (hn : n = ds.length + 1) : Dec (upd (upd f ds.length (.int .u8 (c : Int))) 800 (.int .i64 n)) (ds ++ [d]) dp neg tr := by
 refine ⟨fun i hi => ?_, fun i => ?_, by simp; omega, ?_, ?_, ?_, ?_⟩
 ·rw [List.length_append, List.length_singleton] at hi
  rw [upd_ne _ _ (by omega)]
  rcases Nat.lt_or_eq_of_le (Nat.le_of_lt_succ hi) with h1 | h1
  ·rw [upd_ne _ _ (by omega), h.dig i h1, getD_left _ _ h1]
  ·subst h1; rw [upd_at, getD_end, hc]
 ·rcases Nat.lt_trichotomy i ds.length with hi | hi | hi
  ·rw [getD_left _ _ hi]; exact h.ten i
  ·subst hi; rw [getD_end]; exact hd
  ·rw [getD_out _ (by simp; omega)]; omega
 ·rw [upd_at, hn]; simp
 ·rw [upd_ne _ _ (by omega), upd_ne _ _ (by omega)]; exact h.dpt
 ·rw [upd_ne _ _ (by omega), upd_ne _ _ (by omega)]; exact h.ngt
 ·rw [upd_ne _ _ (by omega), upd_ne _ _ (by omega)]; exact h.trn

end Go.Proofs.YtkjpelgdppmbjaaGreatDoor.SF
