/- Walks of the library's decimal numbers: Assign. -/
import Derived.Test.YtkjpelgdppmbjaaGreatDoorSTZip
import Derived.Test.YtkjpelgdppmbjaaGreatDoorSTK3
import Derived.Test.YtkjpelgdppmbjaaGreatDoorSTK7
import Derived.Lib.Atoi
import Derived.Lib.IndexMore
import Derived.Lib.TrimByte
import Derived.Test.YtkjpelgdppmbjaaGreatDoorProg
import Derived.Below
import Derived.Deep.Draws
import Derived.Deep.AppendLies
import Derived.Maps.AppendAt
import Derived.OwnWalk
import Derived.Laws.BytesArg
import Derived.Laws.MakeOwn
import Derived.Laws.OwnMore
import Derived.Deep.OwnRows
import Derived.Tactics
import Derived.Lib.ConvBytes
import Derived.Laws.Slices
import Derived.WalkKit
import Derived.KernelRfl
import Derived.RowKit3
import Derived.Deep.LoopGhost
import Derived.Deep.QuietTactic
import Derived.BigQuiet
import Derived.WideLaws
import Derived.Deep.DeepCutAuto
import Derived.Deep.CutBlock
import Derived.Deep.RegionHeld3
import Derived.Laws.Rows
import Derived.Lib.AppendStr
import Derived.ArgAppend
import Derived.Laws.IdiomCopy
import Derived.OrdersHeld
import Derived.Laws.BitsLemmas
import Derived.RowKit
import Derived.Test.YtkjpelgdppmbjaaGreatDoorVTWords
import Derived.Test.YtkjpelgdppmbjaaGreatDoorVTLast
import Derived.Test.YtkjpelgdppmbjaaGreatDoorVTTab
import Derived.Test.YtkjpelgdppmbjaaGreatDoorVTFour
import Derived.Test.YtkjpelgdppmbjaaGreatDoorVTQPut
import Derived.Test.YtkjpelgdppmbjaaGreatDoorVTApart
import Derived.Test.YtkjpelgdppmbjaaGreatDoorVTArr
import Derived.Test.YtkjpelgdppmbjaaGreatDoorVTZeros
import Derived.Test.YtkjpelgdppmbjaaGreatDoorVTFoot
import Derived.Test.YtkjpelgdppmbjaaGreatDoorVTKept
import Derived.Test.YtkjpelgdppmbjaaGreatDoorVTShare
import Derived.Test.YtkjpelgdppmbjaaGreatDoorVTN
import Derived.Test.YtkjpelgdppmbjaaGreatDoorVTFootNe
import Derived.Test.YtkjpelgdppmbjaaGreatDoorVTAt
import Derived.Test.YtkjpelgdppmbjaaGreatDoorVTEqStruct
import Derived.Test.YtkjpelgdppmbjaaGreatDoorVTRepsOne
import Derived.Test.YtkjpelgdppmbjaaGreatDoorVTInv
import Derived.Test.YtkjpelgdppmbjaaGreatDoorVTInvWords
import Derived.Test.YtkjpelgdppmbjaaGreatDoorVTGuard
import Derived.Test.YtkjpelgdppmbjaaGreatDoorVTNEv
import Derived.Test.YtkjpelgdppmbjaaGreatDoorVTMore
import Derived.Test.YtkjpelgdppmbjaaGreatDoorSTK5
import Derived.Lib.AtoiErrMem
namespace Go.Proofs.YtkjpelgdppmbjaaGreatDoor.SF
open Go.RowKit YtkjpelgdppmbjaaGreatDoorW.PrintWords CB

structure Buf (w : World) (N : Nat) (h : Nat → Value) : Prop where mk ::
 cell : ∀ i, i < 24 → w.cell? ⟨N, i, none⟩ = some (h i)
 free : ∀ i, i < 24 → w.frozen? ⟨N, i, none⟩ = false
structure Tops (V K r : Nat) (os : List Nat) : Prop where mk ::
 len : os.length = K - r
 num : numL os = V / 10 ^ r
 top : r < K → os.getD 0 0 = V / 10 ^ (K - 1)
structure AS1 (B N V : Nat) (f : Nat → Value) (w wr : World) (m k : Nat) : Prop where mk ::
 m : m = V / 10 ^ k
 le : k = 0 ∨ 10 ^ (k - 1) ≤ V
 buf : ∃ h, Buf wr N h ∧ ∀ i, i < k → h i = .int .u8 ((48 + V / 10 ^ i % 10 : Nat) : Int)
 arr : Arr wr B f
 bel : Below w.heap.size w wr
structure AS2 (B N V K : Nat) (w wr : World) (r : Nat) (neg tr : Bool) : Prop where mk ::
 buf : ∃ h, Buf wr N h ∧ ∀ i, i < K → h i = .int .u8 ((48 + V / 10 ^ i % 10 : Nat) : Int)
 out : ∃ os g dp, Arr wr B g ∧ Dec g os dp neg tr ∧ Tops V K r os
 bel : Below B w wr
structure Assigned (B : Nat) (w w' : World) (V : Nat) (neg tr : Bool) : Prop where mk ::
 out : ∃ es q, Made B w w' es q neg tr ∧ Good es ∧ Val es q V 0 0 ∧ es.length ≤ 20 ∧ 1 ≤ q ∧ q ≤ 20
theorem tops_end {V K : Nat} {os : List Nat} (h : Tops V K 0 os) (hV : V ≠ 0) (hK : V < 10 ^ K) (hK2 : K = 0 ∨ 10 ^ (K - 1) ≤ V) (hK3 : K ≤ 20) : strip os ≠ [] ∧ Good (strip os) ∧ Val (strip os) K V 0 0 ∧ (strip os).length ≤ 20 ∧ 1 ≤ K := by
 have hn : numL os = V := by rw [h.num, Nat.pow_zero, Nat.div_one]
 have hne := strip_ne os (by rw [hn]; exact hV)
 have hK0 : K ≠ 0 := by
  intro h0; subst h0; rw [Nat.pow_zero] at hK; omega
 obtain ⟨t, t1, t2⟩ := strip_numL os
 have hl := h.len
 have htop : os.getD 0 0 ≠ 0 := by
  rw [h.top (by omega)]
  have hp : 10 ^ (K - 1) ≤ V := hK2.resolve_left hK0
  have : 1 ≤ V / 10 ^ (K - 1) := (Nat.le_div_iff_mul_le (Nat.pow_pos (by omega))).2 (by rw [Nat.one_mul]; exact hp)
  omega
 refine ⟨hne, ⟨hne, by rw [strip_top os hne]; exact htop, ?_⟩, ⟨t, 0, 0, 0, by omega, by omega, ?_⟩, by omega, by omega⟩
 ·rcases strip_last os with h0 | h0
  ·exact absurd h0 hne
  ·exact h0
 ·rw [← t1, hn]; simp

end Go.Proofs.YtkjpelgdppmbjaaGreatDoor.SF
namespace Go.Proofs.YtkjpelgdppmbjaaGreatDoor.FT
open YtkjpelgdppmbjaaGreatDoorW.PrintWords Go.Proofs.YtkjpelgdppmbjaaGreatDoor.Pure SF Go.Lib

def figB (ds : List Nat) : List UInt8 := ds.map fun d => UInt8.ofNat (48 + d)
theorem figB_toNat {d : Nat} (h : d < 10) : (UInt8.ofNat (48 + d)).toNat = 48 + d := by simp; omega
theorem figB_mem {ds : List Nat} (h : ∀ d ∈ ds, d < 10) : ∀ b ∈ figB ds, 48 ≤ b.toNat ∧ b.toNat ≤ 57 := by
 intro b hb
 obtain ⟨d, hd, rfl⟩ := List.mem_map.1 hb
 have := h d hd
 rw [figB_toNat this]; omega
theorem digitVal_fig {d : Nat} (h : d < 10) : digitVal (UInt8.ofNat (48 + d)) = some d := by
 unfold digitVal
 rw [figB_toNat h, if_pos ⟨by omega, by omega⟩]
 congr 1
 omega
def expFigs (e : Nat) : List Nat := if e < 10 then [0, e] else if e < 100 then [e / 10, e % 10] else [e / 100, e / 10 % 10, e % 10]
def expB (e : Int) : List UInt8 := (if e < 0 then 45 else 43) :: figB (expFigs e.natAbs)
theorem expFigs_ten {e : Nat} (h : e < 1000) : ∀ d ∈ expFigs e, d < 10 := by
 unfold expFigs
 split
 ·simp; omega
 ·split
  ·simp; omega
  ·simp; omega
theorem expFigs_nat {e : Nat} (h : e < 1000) : decNat (figB (expFigs e)) = some e := by
 unfold expFigs
 split
 ·rename_i h1
  show decNat [UInt8.ofNat (48 + 0), UInt8.ofNat (48 + e)] = _
  simp only [decNat, decFrom, List.isEmpty_cons, digitVal_fig (show 0 < 10 by omega), digitVal_fig h1]
  simp
 ·split
  ·rename_i h1 h2
   show decNat [UInt8.ofNat (48 + e / 10), UInt8.ofNat (48 + e % 10)] = _
   simp only [decNat, decFrom, List.isEmpty_cons, digitVal_fig (show e / 10 < 10 by omega), digitVal_fig (show e % 10 < 10 by omega)]
   simp; omega
  ·rename_i h1 h2
   show decNat [UInt8.ofNat (48 + e / 100), UInt8.ofNat (48 + e / 10 % 10), UInt8.ofNat (48 + e % 10)] = _
   simp only [decNat, decFrom, List.isEmpty_cons, digitVal_fig (show e / 100 < 10 by omega), digitVal_fig (show e / 10 % 10 < 10 by omega), digitVal_fig (show e % 10 < 10 by omega)]
   simp; omega
theorem atoi_minus (l : List UInt8) : atoi (45 :: l) = (decNat l).map fun (m : Nat) => -(m : Int) := rfl
theorem atoi_plus (l : List UInt8) : atoi (43 :: l) = (decNat l).map fun (m : Nat) => (m : Int) := rfl
theorem expB_atoi {e : Int} (h : e.natAbs < 1000) : atoi (expB e) = some e := by
 have h1 := expFigs_nat h
 unfold expB
 split
 ·rw [atoi_minus, h1]
  simp; omega
 ·rw [atoi_plus, h1]
  simp; omega
theorem expFigs_len (e : Nat) : (expFigs e).length ≤ 3 := by
 unfold expFigs
 split
 ·simp
 ·split <;> simp
theorem expB_len (e : Int) : (expB e).length ≤ 4 := by
 have := expFigs_len e.natAbs
 unfold expB figB
 simp; omega
theorem indexByte_at (c : UInt8) (b : List UInt8) : ∀ a : List UInt8, (∀ x ∈ a, x ≠ c) → indexByte (a ++ c :: b) c = a.length := by
 intro a
 induction a with
 | nil => intro _; unfold indexByte; simp
 | cons x a ih =>
  intro h
  have hx := h x (List.mem_cons_self ..)
  have hi := ih fun y hy => h y (List.mem_cons_of_mem _ hy)
  show indexByte (x :: (a ++ c :: b)) c = _
  unfold indexByte
  rw [hi, if_neg (by simpa using hx), if_neg (by simp)]
  simp
def mantB : List Nat → Nat → List UInt8
 | [], _ => []
 | d :: r, z => UInt8.ofNat (48 + d) :: (if r.length + z = 0 then [] else 46 :: (figB r ++ List.replicate z 48))
def floatB (ds : List Nat) (z : Nat) (e : Int) : List UInt8 := mantB ds z ++ 101 :: expB e
theorem mantB_mem {ds : List Nat} {z : Nat} (h : ∀ d ∈ ds, d < 10) : ∀ b ∈ mantB ds z, b ≠ 101 := by
 cases ds with
 | nil => intro b hb; simp [mantB] at hb
 | cons d r =>
  intro b hb
  have hd := h d (List.mem_cons_self ..)
  have hr : ∀ x ∈ figB r, 48 ≤ x.toNat ∧ x.toNat ≤ 57 := figB_mem fun x hx => h x (List.mem_cons_of_mem _ hx)
  unfold mantB at hb
  rcases List.mem_cons.1 hb with rfl | hb
  ·intro hc
   have := congrArg UInt8.toNat hc
   rw [figB_toNat hd] at this
   have h2 : (101 : UInt8).toNat = 101 := rfl
   omega
  ·split at hb
   ·simp at hb
   ·rcases List.mem_cons.1 hb with rfl | hb
    ·decide
    ·rcases List.mem_append.1 hb with hb | hb
     ·have := hr b hb
      intro hc
      subst hc
      have h2 : (101 : UInt8).toNat = 101 := rfl
      omega
     ·rw [List.eq_of_mem_replicate hb]; decide
theorem floatB_index {ds : List Nat} {z : Nat} {e : Int} (h : ∀ d ∈ ds, d < 10) : indexByte (floatB ds z e) 101 = (mantB ds z).length :=
 indexByte_at 101 _ _ (mantB_mem h)
theorem mantB_len {ds : List Nat} {z : Nat} (h : ds ≠ []) : (mantB ds z).length = ds.length + z + (if ds.length - 1 + z = 0 then 0 else 1) := by
 cases ds with
 | nil => exact absurd rfl h
 | cons d r =>
  unfold mantB
  simp only [List.length_cons, Nat.add_sub_cancel]
  split
  ·simp; omega
  ·simp [figB]; omega
theorem mant_rest {d : Nat} {r : List Nat} {z : Nat} (h : ∀ x ∈ r, x < 10) : trimPrefix ((mantB (d :: r) z).drop 1) [46] = figB r ++ List.replicate z 48 := by
 unfold mantB
 simp only [List.drop_succ_cons, List.drop_zero]
 split
 ·rename_i h1
  have hr : r = [] := List.length_eq_zero_iff.1 (by omega)
  have hz : z = 0 := by omega
  subst hr; subst hz
  rfl
 ·unfold trimPrefix
  rw [if_pos (by simp [hasPrefix])]
  rfl
theorem dropZeros (z : Nat) (l : List UInt8) (h : l.head? ≠ some 48) : (List.replicate z 48 ++ l).dropWhile (· == (48 : UInt8)) = l := by
 induction z with
 | zero =>
  cases l with
  | nil => rfl
  | cons b t =>
   have hb : ¬ b = 48 := fun e => h (by rw [e]; rfl)
   simp [hb]
 | succ z ih => rw [List.replicate_succ, List.cons_append, List.dropWhile_cons]; simpa using ih
theorem trim_figs {ds : List Nat} {z : Nat} (h : ∀ d ∈ ds, d < 10) (hl : ds.getLast? ≠ some 0) : trimRightB (figB ds ++ List.replicate z 48) 48 = figB ds := by
 unfold trimRightB
 rw [List.reverse_append, List.reverse_replicate, dropZeros, List.reverse_reverse]
 rw [List.head?_reverse]
 unfold figB
 rw [List.getLast?_map]
 cases hc : ds.getLast? with
 | none => simp
 | some d =>
  have hd : d < 10 := h d (List.mem_of_getLast? hc)
  have h0 : d ≠ 0 := fun e => hl (by rw [hc, e])
  intro he
  have := congrArg UInt8.toNat (Option.some.inj he)
  rw [figB_toNat hd] at this
  have h2 : (48 : UInt8).toNat = 48 := rfl
  omega
theorem figB_valD {ds : List Nat} (h : ∀ d ∈ ds, d < 10) : valD (figB ds) = numL ds := by
 obtain ⟨n, hn⟩ : ∃ n, ds.length = n := ⟨_, rfl⟩
 induction n generalizing ds with
 | zero => rw [List.length_eq_zero_iff.1 hn]; rfl
 | succ n ih =>
  obtain ⟨l, d, rfl⟩ : ∃ l d, ds = l ++ [d] := by
   rcases List.eq_nil_or_concat ds with h1 | ⟨l, d, h1⟩
   ·subst h1; simp at hn
   ·exact ⟨l, d, by rw [h1, List.concat_eq_append]⟩
  have hd : d < 10 := h d (by simp)
  have hl := ih (ds := l) (fun x hx => h x (List.mem_append_left _ hx)) (by simp at hn; exact hn)
  unfold figB at hl ⊢
  rw [List.map_append, List.map_cons, List.map_nil, valD_snoc, hl, numL_snoc, figB_toNat hd]
  omega
theorem figs_decN {ds : List Nat} (h : ∀ d ∈ ds, d < 10) (h0 : ds.getD 0 0 ≠ 0) : (⟨(figB ds).toArray⟩ : ByteArray) = decN (numL ds) := by
 have hne : ds ≠ [] := fun e => by subst e; simp at h0
 obtain ⟨d, r, rfl⟩ := List.exists_cons_of_ne_nil hne
 have hd : d < 10 := h d (List.mem_cons_self ..)
 have h1 : d ≠ 0 := h0
 have e := decN_of ⟨(figB (d :: r)).toArray⟩ (fun b hb => by
  have := figB_mem h b (by simpa using hb)
  exact this) (by show 1 ≤ (figB (d :: r)).toArray.size; simp [figB]) (by
  rintro ⟨hb, _⟩
  have : bt (⟨(figB (d :: r)).toArray⟩ : ByteArray) 0 = ((UInt8.ofNat (48 + d)).toNat : Int) := rfl
  rw [this, figB_toNat hd] at hb
  omega)
 rw [← e]
 congr 1
 rw [← figB_valD h]
theorem ba_ext {a b : ByteArray} (h : a.data.toList = b.data.toList) : a = b := by
 cases a; cases b
 congr 1
 exact Array.toList_inj.1 h
theorem cut_left {s : ByteArray} {a b : List UInt8} (h : s.data.toList = a ++ b) : s.extract 0 a.length = ⟨a.toArray⟩ := by
 apply ba_ext
 rw [ByteArray.data_extract, Array.toList_extract, List.extract_eq_take_drop, List.drop_zero, Nat.sub_zero, h, List.take_left' rfl]
theorem cut_right {s : ByteArray} {a b : List UInt8} {n : Nat} (h : s.data.toList = a ++ b) (hn : n = a.length) : s.extract n s.size = ⟨b.toArray⟩ := by
 subst hn
 have hs : s.size = a.length + b.length := by
  have := congrArg List.length h
  rw [List.length_append] at this
  exact this
 apply ba_ext
 rw [ByteArray.data_extract, Array.toList_extract, List.extract_eq_take_drop, h, List.drop_left' rfl, hs, Nat.add_sub_cancel_left, List.take_length]
def floatT (ds : List Nat) (z : Nat) (e : Int) : ByteArray := ⟨(floatB ds z e).toArray⟩
theorem floatT_size (ds : List Nat) (z : Nat) (e : Int) : (floatT ds z e).size = (mantB ds z).length + 1 + (expB e).length := by
 show (floatB ds z e).toArray.size = _
 unfold floatB
 simp; omega
theorem floatT_mant (ds : List Nat) (z : Nat) (e : Int) : (floatT ds z e).extract 0 (mantB ds z).length = ⟨(mantB ds z).toArray⟩ :=
 cut_left (b := 101 :: expB e) rfl
theorem floatT_exp (ds : List Nat) (z : Nat) (e : Int) : (floatT ds z e).extract ((mantB ds z).length + 1) (floatT ds z e).size = ⟨(expB e).toArray⟩ :=
 cut_right (a := mantB ds z ++ [101]) (by show mantB ds z ++ 101 :: expB e = _; rw [List.append_assoc]; rfl) (by simp)
theorem mant_first (d : Nat) (r : List Nat) (z : Nat) : (⟨(mantB (d :: r) z).toArray⟩ : ByteArray).extract 0 1 = ⟨#[UInt8.ofNat (48 + d)]⟩ :=
 cut_left (a := [UInt8.ofNat (48 + d)]) (b := (mantB (d :: r) z).drop 1) rfl
theorem mant_behind (d : Nat) (r : List Nat) (z : Nat) : (⟨(mantB (d :: r) z).toArray⟩ : ByteArray).extract 1 (⟨(mantB (d :: r) z).toArray⟩ : ByteArray).size = ⟨((mantB (d :: r) z).drop 1).toArray⟩ :=
 cut_right (a := [UInt8.ofNat (48 + d)]) (b := (mantB (d :: r) z).drop 1) rfl rfl
theorem sci_figs {d : Nat} {r : List Nat} {z : Nat} (h : ∀ x ∈ d :: r, x < 10) (h0 : d ≠ 0) (hl : (d :: r).getLast? ≠ some 0) :
  (⟨(trimRightB ((⟨#[UInt8.ofNat (48 + d)]⟩ : ByteArray) ++ (⟨(trimPrefix ((mantB (d :: r) z).drop 1) [46]).toArray⟩ : ByteArray)).data.toList 48).toArray⟩ : ByteArray) = decN (numL (d :: r)) := by
 have e : ((⟨#[UInt8.ofNat (48 + d)]⟩ : ByteArray) ++ (⟨(trimPrefix ((mantB (d :: r) z).drop 1) [46]).toArray⟩ : ByteArray)).data.toList = figB (d :: r) ++ List.replicate z 48 := by
  rw [mant_rest fun x hx => h x (List.mem_cons_of_mem _ hx)]
  simp [figB]
 rw [e, trim_figs h hl]
 exact figs_decN h h0
end Go.Proofs.YtkjpelgdppmbjaaGreatDoor.FT
namespace Go.Proofs.YtkjpelgdppmbjaaGreatDoor.FE
open Go.RowKit YtkjpelgdppmbjaaGreatDoorW.PrintWords YtkjpelgdppmbjaaGreatDoorW.PrintLast YtkjpelgdppmbjaaGreatDoorW.PrintMore
set_option linter.unusedVariables false
set_option linter.unusedSimpArgs false
def errW : Option Int → Value
 | none => .nilIface
 | some c => .iface 0 (.int .i64 c)
theorem errW_none : errW none = .nilIface := rfl
theorem errW_some (c : Int) : errW (some c) = .iface 0 (.int .i64 c) := rfl

theorem info5 : (Tryz.prog.info? 5).map (fun i => (i.zero, i.size, i.bytes)) = some (some (.int .u8 0), 1, 1) := by kernel_rfl
mutual
def strconv_fmtEFG.j0 : Nat → List Int → Bool → List Int → Int → Int → Int → Int → Bool → Bool → Option (List Int)
 | 0, _, _, _, _, _, _, _, _, _ => none
 | k + 1, x0, x1, x2, x3, x4, x5, x6, x7, x36 => if x36 = true then none else (strconv_fmtEFG.j5 k x0 x1 x2 x3 x4 x5 x6)
def strconv_fmtEFG.j5 : Nat → List Int → Bool → List Int → Int → Int → Int → Int → Option (List Int)
 | 0, _, _, _, _, _, _, _ => none
 | k + 1, x0, x1, x2, x3, x4, x5, x6 => if x6 = 101 then (strconv_fmtEFG.j6 k x0 x1 x2 x3 x4 x5 x6 x6 (x6 == 101)) else none
def strconv_fmtEFG.j6 : Nat → List Int → Bool → List Int → Int → Int → Int → Int → Int → Bool → Option (List Int)
 | 0, _, _, _, _, _, _, _, _, _ => none
 | k + 1, x0, x1, x2, x3, x4, x5, x6, x74, x75 => if x75 = true then (if x1 = true then none else (strconv_fmtEFG.j7 k x0 x2 x3 x4 x5 x6)) else none
def strconv_fmtEFG.j7 : Nat → List Int → List Int → Int → Int → Int → Int → Option (List Int)
 | 0, _, _, _, _, _, _ => none
 | k + 1, x0, x2, x3, x4, x5, x6 => if x4 = 0 then none else (if 0 < (x2.length : Int) then (strconv_fmtEFG.j8 k x0 x2 x3 x4 x5 x6 (rd x2 0)) else (none))
def strconv_fmtEFG.j8 : Nat → List Int → List Int → Int → Int → Int → Int → Int → Option (List Int)
 | 0, _, _, _, _, _, _, _ => none
 | k + 1, x0, x2, x3, x4, x5, x6, x19 => if x0.length < 140737488355328 then ((some (x0 ++ [x19] : List Int)).bind fun y107 => (if x5 > 0 then (if y107.length < 140737488355328 then ((some (y107 ++ [46] : List Int)).bind fun y110 => (if 1 < (mn x4 (wrap64 (x5 + 1))) then (if 1 ≤ (mn x4 (wrap64 (x5 + 1))) then (if (mn x4 (wrap64 (x5 + 1))) ≤ (x2.length : Int) then ((some ((x2.take ((mn x4 (wrap64 (x5 + 1))) : Int).toNat).drop 1 : List Int)).bind fun y113 => (if y110.length + y113.length < 140737488355328 then (strconv_fmtEFG.j9 k (y110 ++ y113) x3 x4 x5 x6 (mn x4 (wrap64 (x5 + 1)))) else (none))) else (none)) else (none)) else (strconv_fmtEFG.j9 k y110 x3 x4 x5 x6 1))) else (none)) else (strconv_fmtEFG.j11 k y107 x3 x4 x6))) else (none)
def strconv_fmtEFG.j11 : Nat → List Int → Int → Int → Int → Option (List Int)
 | 0, _, _, _, _ => none
 | k + 1, x0, x3, x4, x6 => if x0.length < 140737488355328 then ((some (x0 ++ [x6] : List Int)).bind fun y123 => (if x4 = 0 then none else (strconv_fmtEFG.j12 k y123 (wrap64 (x3 - 1))))) else (none)
def strconv_fmtEFG.j12 : Nat → List Int → Int → Option (List Int)
 | 0, _, _ => none
 | k + 1, x0, x22 => if x22 < 0 then (strconv_fmtEFG.j13 k x0 45 (wrap64 (-x22))) else (strconv_fmtEFG.j13 k x0 43 x22)
def strconv_fmtEFG.j13 : Nat → List Int → Int → Int → Option (List Int)
 | 0, _, _, _ => none
 | k + 1, x0, x19, x22 => if x0.length < 140737488355328 then ((some (x0 ++ [x19] : List Int)).bind fun y126 => (if x22 < 10 then ((some (([48, (((x22) % 256) + 48) % 256] : List Int) : List Int)).bind fun y129 => (if y126.length + y129.length < 140737488355328 then (some (y126 ++ y129)) else (none))) else (if x22 < 100 then ((some (([(((wrap64 (Int.tdiv x22 10)) % 256) + 48) % 256, (((Int.tmod x22 10) % 256) + 48) % 256] : List Int) : List Int)).bind fun y135 => (if y126.length + y135.length < 140737488355328 then (some (y126 ++ y135)) else (none))) else ((some (([(((wrap64 (Int.tdiv x22 100)) % 256) + 48) % 256, (((wrap64 (Int.tdiv x22 10)) % 256) % 10) + 48, (((Int.tmod x22 10) % 256) + 48) % 256] : List Int) : List Int)).bind fun y141 => (if y126.length + y141.length < 140737488355328 then (some (y126 ++ y141)) else (none)))))) else (none)
def strconv_fmtEFG.j9 : Nat → List Int → Int → Int → Int → Int → Int → Option (List Int)
 | 0, _, _, _, _, _, _ => none
 | k + 1, x0, x3, x4, x5, x6, x20 => strconv_fmtEFG.l0 k x0 x3 x4 x6 (wrap64 ((wrap64 (x5 + 1)) - x20)) 0
def strconv_fmtEFG.l0 : Nat → List Int → Int → Int → Int → Int → Int → Option (List Int)
 | 0, _, _, _, _, _, _ => none
 | k + 1, x0, x3, x4, x6, x113, x114 => if x114 < x113 then (if x0.length < 140737488355328 then (strconv_fmtEFG.l0 k (x0 ++ [48]) x3 x4 x6 x113 (wrap64 (x114 + 1))) else (none)) else (strconv_fmtEFG.j11 k x0 x3 x4 x6)
end
theorem eq0_j0 (x0 : List Int) (x1 : Bool) (x2 : List Int) (x3 : Int) (x4 : Int) (x5 : Int) (x6 : Int) (x7 : Bool) (x36 : Bool) : strconv_fmtEFG.j0 0 x0 x1 x2 x3 x4 x5 x6 x7 x36 = none := rfl
theorem eq_j0 (k : Nat) (x0 : List Int) (x1 : Bool) (x2 : List Int) (x3 : Int) (x4 : Int) (x5 : Int) (x6 : Int) (x7 : Bool) (x36 : Bool) : strconv_fmtEFG.j0 (k + 1) x0 x1 x2 x3 x4 x5 x6 x7 x36 = if x36 = true then none else (strconv_fmtEFG.j5 k x0 x1 x2 x3 x4 x5 x6) := rfl
theorem eq0_j5 (x0 : List Int) (x1 : Bool) (x2 : List Int) (x3 : Int) (x4 : Int) (x5 : Int) (x6 : Int) : strconv_fmtEFG.j5 0 x0 x1 x2 x3 x4 x5 x6 = none := rfl
theorem eq_j5 (k : Nat) (x0 : List Int) (x1 : Bool) (x2 : List Int) (x3 : Int) (x4 : Int) (x5 : Int) (x6 : Int) : strconv_fmtEFG.j5 (k + 1) x0 x1 x2 x3 x4 x5 x6 = if x6 = 101 then (strconv_fmtEFG.j6 k x0 x1 x2 x3 x4 x5 x6 x6 (x6 == 101)) else none := rfl
theorem eq0_j6 (x0 : List Int) (x1 : Bool) (x2 : List Int) (x3 : Int) (x4 : Int) (x5 : Int) (x6 : Int) (x74 : Int) (x75 : Bool) : strconv_fmtEFG.j6 0 x0 x1 x2 x3 x4 x5 x6 x74 x75 = none := rfl
theorem eq_j6 (k : Nat) (x0 : List Int) (x1 : Bool) (x2 : List Int) (x3 : Int) (x4 : Int) (x5 : Int) (x6 : Int) (x74 : Int) (x75 : Bool) : strconv_fmtEFG.j6 (k + 1) x0 x1 x2 x3 x4 x5 x6 x74 x75 = if x75 = true then (if x1 = true then none else (strconv_fmtEFG.j7 k x0 x2 x3 x4 x5 x6)) else none := rfl
theorem eq0_j7 (x0 : List Int) (x2 : List Int) (x3 : Int) (x4 : Int) (x5 : Int) (x6 : Int) : strconv_fmtEFG.j7 0 x0 x2 x3 x4 x5 x6 = none := rfl
theorem eq_j7 (k : Nat) (x0 : List Int) (x2 : List Int) (x3 : Int) (x4 : Int) (x5 : Int) (x6 : Int) : strconv_fmtEFG.j7 (k + 1) x0 x2 x3 x4 x5 x6 = if x4 = 0 then none else (if 0 < (x2.length : Int) then (strconv_fmtEFG.j8 k x0 x2 x3 x4 x5 x6 (rd x2 0)) else (none)) := rfl
theorem eq0_j8 (x0 : List Int) (x2 : List Int) (x3 : Int) (x4 : Int) (x5 : Int) (x6 : Int) (x19 : Int) : strconv_fmtEFG.j8 0 x0 x2 x3 x4 x5 x6 x19 = none := rfl
theorem eq_j8 (k : Nat) (x0 : List Int) (x2 : List Int) (x3 : Int) (x4 : Int) (x5 : Int) (x6 : Int) (x19 : Int) : strconv_fmtEFG.j8 (k + 1) x0 x2 x3 x4 x5 x6 x19 = if x0.length < 140737488355328 then ((some (x0 ++ [x19] : List Int)).bind fun y107 => (if x5 > 0 then (if y107.length < 140737488355328 then ((some (y107 ++ [46] : List Int)).bind fun y110 => (if 1 < (mn x4 (wrap64 (x5 + 1))) then (if 1 ≤ (mn x4 (wrap64 (x5 + 1))) then (if (mn x4 (wrap64 (x5 + 1))) ≤ (x2.length : Int) then ((some ((x2.take ((mn x4 (wrap64 (x5 + 1))) : Int).toNat).drop 1 : List Int)).bind fun y113 => (if y110.length + y113.length < 140737488355328 then (strconv_fmtEFG.j9 k (y110 ++ y113) x3 x4 x5 x6 (mn x4 (wrap64 (x5 + 1)))) else (none))) else (none)) else (none)) else (strconv_fmtEFG.j9 k y110 x3 x4 x5 x6 1))) else (none)) else (strconv_fmtEFG.j11 k y107 x3 x4 x6))) else (none) := rfl
theorem eq0_j11 (x0 : List Int) (x3 : Int) (x4 : Int) (x6 : Int) : strconv_fmtEFG.j11 0 x0 x3 x4 x6 = none := rfl
theorem eq_j11 (k : Nat) (x0 : List Int) (x3 : Int) (x4 : Int) (x6 : Int) : strconv_fmtEFG.j11 (k + 1) x0 x3 x4 x6 = if x0.length < 140737488355328 then ((some (x0 ++ [x6] : List Int)).bind fun y123 => (if x4 = 0 then none else (strconv_fmtEFG.j12 k y123 (wrap64 (x3 - 1))))) else (none) := rfl
theorem eq0_j12 (x0 : List Int) (x22 : Int) : strconv_fmtEFG.j12 0 x0 x22 = none := rfl
theorem eq_j12 (k : Nat) (x0 : List Int) (x22 : Int) : strconv_fmtEFG.j12 (k + 1) x0 x22 = if x22 < 0 then (strconv_fmtEFG.j13 k x0 45 (wrap64 (-x22))) else (strconv_fmtEFG.j13 k x0 43 x22) := rfl
theorem eq0_j13 (x0 : List Int) (x19 : Int) (x22 : Int) : strconv_fmtEFG.j13 0 x0 x19 x22 = none := rfl
theorem eq_j13 (k : Nat) (x0 : List Int) (x19 : Int) (x22 : Int) : strconv_fmtEFG.j13 (k + 1) x0 x19 x22 = if x0.length < 140737488355328 then ((some (x0 ++ [x19] : List Int)).bind fun y126 => (if x22 < 10 then ((some (([48, (((x22) % 256) + 48) % 256] : List Int) : List Int)).bind fun y129 => (if y126.length + y129.length < 140737488355328 then (some (y126 ++ y129)) else (none))) else (if x22 < 100 then ((some (([(((wrap64 (Int.tdiv x22 10)) % 256) + 48) % 256, (((Int.tmod x22 10) % 256) + 48) % 256] : List Int) : List Int)).bind fun y135 => (if y126.length + y135.length < 140737488355328 then (some (y126 ++ y135)) else (none))) else ((some (([(((wrap64 (Int.tdiv x22 100)) % 256) + 48) % 256, (((wrap64 (Int.tdiv x22 10)) % 256) % 10) + 48, (((Int.tmod x22 10) % 256) + 48) % 256] : List Int) : List Int)).bind fun y141 => (if y126.length + y141.length < 140737488355328 then (some (y126 ++ y141)) else (none)))))) else (none) := rfl
theorem eq0_j9 (x0 : List Int) (x3 : Int) (x4 : Int) (x5 : Int) (x6 : Int) (x20 : Int) : strconv_fmtEFG.j9 0 x0 x3 x4 x5 x6 x20 = none := rfl
theorem eq_j9 (k : Nat) (x0 : List Int) (x3 : Int) (x4 : Int) (x5 : Int) (x6 : Int) (x20 : Int) : strconv_fmtEFG.j9 (k + 1) x0 x3 x4 x5 x6 x20 = strconv_fmtEFG.l0 k x0 x3 x4 x6 (wrap64 ((wrap64 (x5 + 1)) - x20)) 0 := rfl
theorem eq0_l0 (x0 : List Int) (x3 : Int) (x4 : Int) (x6 : Int) (x113 : Int) (x114 : Int) : strconv_fmtEFG.l0 0 x0 x3 x4 x6 x113 x114 = none := rfl
theorem eq_l0 (k : Nat) (x0 : List Int) (x3 : Int) (x4 : Int) (x6 : Int) (x113 : Int) (x114 : Int) : strconv_fmtEFG.l0 (k + 1) x0 x3 x4 x6 x113 x114 = if x114 < x113 then (if x0.length < 140737488355328 then (strconv_fmtEFG.l0 k (x0 ++ [48]) x3 x4 x6 x113 (wrap64 (x114 + 1))) else (none)) else (strconv_fmtEFG.j11 k x0 x3 x4 x6) := rfl
def strconv_fmtEFG.f (k : Nat) (l0 : List Int) (a1 : Bool) (l2 : List Int) (a3 : Int) (a4 : Int) (a5 : Int) (a6 : Int) (a7 : Bool) : Option (List Int) := if a6 = 103 then none else (strconv_fmtEFG.j0 k l0 a1 l2 a3 a4 a5 a6 a7 (a6 == 71))
attribute [local go_sem] max2_int min2_int max_two min_two max_three min_three max_four min_four
set_option linter.unusedVariables false
set_option linter.unusedSimpArgs false
set_option maxHeartbeats 8000000 in
set_option maxRecDepth 100000 in
theorem strconv_fmtEFG.calls (k : Nat) (P0_ : Nat → Prop) (u9000_ : Value) (l0 : List Int) (a1 : Bool) (A2 : Option Addr) (L2 c2 : Nat) (l2 : List Int) (a3 : Int) (a4 : Int) (a5 : Int) (a6 : Int) (a7 : Bool) (r : List Int) (w0 w : World) (hB : Below w0.heap.size w0 w) (ho0 : Kd.R (Kd.int .u8) 5 w w0.heap.size P0_ u9000_ l0) (hr2 : ∀ W_, Kept w W_ (fun k_ => P0_ k_) → Kd.C (Kd.int .u8) W_ A2 l2.length l2) (hl2 : l2.length ≤ L2) (hc2 : L2 ≤ c2) (h : strconv_fmtEFG.f k l0 a1 l2 a3 a4 a5 a6 a7 = some r) :
  Calls Tryz.prog 192 #[u9000_, .bool a1, .slice A2 L2 c2, .int .i64 a3, .int .i64 a4, .int .i64 a5, .int .u8 a6, .bool a7] w fun e w' => ∃ v0_ : Value, e = .returned (v0_) ∧ Kd.R (Kd.int .u8) 5 w' w0.heap.size (fun k_ => (P0_ k_ ∨ w.heap.size ≤ k_)) v0_ r ∧ Below w0.heap.size w0 w' ∧ Kept w w' (fun k_ => P0_ k_) := by
 have HO0 := Aside0.mk (show Kd.R (Kd.int .u8) 5 w w0.heap.size (fun k_ => (P0_ k_ ∨ w.heap.size ≤ k_)) u9000_ l0 from Kd.R_mono ho0 (fun k_ hk => (.inl hk)))
 have HR2 := Aside0.mk hr2
 have HC2 := Aside0.mk hc2
 have HL2 := Aside0.mk hl2
 clear hr2 hc2 hl2
 have HK := Aside0.mk (Kept.refl w (fun k_ => P0_ k_))
 have HW0 := Aside0.mk hB.size
 have HB := Aside0.mk hB
 clear hB
 have H : (if a6 = 103 then none else (strconv_fmtEFG.j0 k l0 a1 l2 a3 a4 a5 a6 a7 (a6 == 71))) = some r := h
 clear h
 have HC9 := Aside0.mk H
 clear H
 go_enter Tryz.func192, Tryz.ntmps192
 go_upto_region 1 with (fail)
 go_cut [36] from 31 to 35 (fun v36 wc => ∃ (kq : Nat) (x36_8 : Bool), v36 = .bool x36_8 ∧ Aside0 (strconv_fmtEFG.j0 kq l0 a1 l2 a3 a4 a5 a6 a7 x36_8 = some r) ∧ Aside0 (kq ≤ k) ∧ Aside0 (Kd.R (Kd.int .u8) 5 wc w0.heap.size (fun k_ => (P0_ k_ ∨ w.heap.size ≤ k_)) u9000_ l0) ∧ Aside0 (Kept w wc (fun k_ => P0_ k_)) ∧ Aside0 (Below w0.heap.size w0 wc))
 case first =>
  have H := HC9.out
  clear HC9
  by_cases c10 : a6 = 103
  ·rw [if_pos c10] at H
   cases H
  ·rw [if_neg c10] at H
   have c10b0 : (a6 == 103) = false := beq_eq_false_iff_ne.mpr c10
   have c10b1 : (a6 != 103) = true := bne_iff_ne.mpr c10
   (first | rw [c10b0] | (simp only [i64_w, i32_w]; rw [c10b0]) | skip)
   have H' := Aside0.mk H
   clear H
   go_wp2
   go_meet
   case rel => exact ⟨_, ((a6 == 71)), (by first | rfl | (refine congrArg Ending.returned (congrArg (Value.int .i64) (?_ : (0 : Int) = _)); decide +kernel) | (simp; done) | (simp [*]; done)), H', ⟨by first | omega | exact Nat.le_refl _⟩, ⟨zR HO0.out⟩, ⟨by repeat (first | (with_reducible first | exact HK.out | apply Kept.alloc | apply Kept.drewN | apply Kept.drew) | exact HK.out)⟩, ⟨zB⟩⟩
 case rest =>
  clear HC9
  obtain ⟨kq, x36_8, rfl, HA, HJ8, HO_0, HK, HB⟩ := hcut
  cases kq with
  | zero => exact absurd HA.out (by rw [eq0_j0]; exact fun h => nomatch h)
  | succ kj8 =>
   have H := HA.out
   clear HA
   rw [eq_j0] at H
   have HC11 := Aside0.mk H
   clear H
   go_upto_if 36 with (fail)
   go_cut [5, 6] from 37 to 37 (fun v5 v6 wc => ∃ (kq : Nat) (x5_10 : Int) (x6_10 : Int), v5 = .int .i64 x5_10 ∧ v6 = .int .u8 x6_10 ∧ Aside0 (strconv_fmtEFG.j5 kq l0 a1 l2 a3 a4 x5_10 x6_10 = some r) ∧ Aside0 (kq ≤ kj8) ∧ Aside0 (Kd.R (Kd.int .u8) 5 wc w0.heap.size (fun k_ => (P0_ k_ ∨ w.heap.size ≤ k_)) u9000_ l0) ∧ Aside0 (Kept w wc (fun k_ => P0_ k_)) ∧ Aside0 (Below w0.heap.size w0 wc))
   case first =>
    have H := HC11.out
    clear HC11
    by_cases c12 : x36_8 = true
    ·rw [if_pos c12] at H
     cases H
    ·replace c12 := Bool.eq_false_iff.mpr c12
     subst c12
     have H1 := H
     rw [if_neg (show ¬ (false = true) by decide)] at H1
     clear H
     have H := H1
     clear H1
     have H' := Aside0.mk H
     clear H
     go_wp2
     go_meet
     case rel => exact ⟨_, (a5), (a6), (by first | rfl | (refine congrArg Ending.returned (congrArg (Value.int .i64) (?_ : (0 : Int) = _)); decide +kernel) | (simp; done) | (simp [*]; done)), (by first | rfl | (refine congrArg Ending.returned (congrArg (Value.int .i64) (?_ : (0 : Int) = _)); decide +kernel) | (simp; done) | (simp [*]; done)), H', ⟨by have := HJ8.out; first | omega | exact Nat.le_refl _⟩, ⟨zR HO_0.out⟩, ⟨by repeat (first | (with_reducible first | exact HK.out | apply Kept.alloc | apply Kept.drewN | apply Kept.drew) | exact HK.out)⟩, ⟨zB⟩⟩
   case rest =>
    clear HC11
    obtain ⟨kq, x5_10, x6_10, rfl, rfl, HA, HJ10, HO_0, HK, HB⟩ := hcut
    cases kq with
    | zero => exact absurd HA.out (by rw [eq0_j5]; exact fun h => nomatch h)
    | succ kj10 =>
     have H := HA.out
     clear HA
     rw [eq_j5] at H
     have HC26 := Aside0.mk H
     clear H
     go_upto_if 75 with (fail)
     go_cut [75] from 76 to 77 (fun v75 wc => ∃ (kq : Nat) (x75_25 : Bool), v75 = .bool x75_25 ∧ Aside0 (strconv_fmtEFG.j6 kq l0 a1 l2 a3 a4 x5_10 x6_10 x6_10 x75_25 = some r) ∧ Aside0 (kq ≤ kj10) ∧ Aside0 (Kd.R (Kd.int .u8) 5 wc w0.heap.size (fun k_ => (P0_ k_ ∨ w.heap.size ≤ k_)) u9000_ l0) ∧ Aside0 (Kept w wc (fun k_ => P0_ k_)) ∧ Aside0 (Below w0.heap.size w0 wc))
     case first =>
      have H := HC26.out
      clear HC26
      by_cases c27 : x6_10 = 101
      ·rw [if_pos c27] at H
       have c27b0 : (x6_10 == 101) = true := beq_iff_eq.mpr c27
       have c27b1 : (x6_10 != 101) = false := bne_eq_false_iff_eq.mpr c27
       clear c27
       (first | rw [c27b0] | (simp only [i64_w, i32_w]; rw [c27b0]) | skip)
       have H' := Aside0.mk H
       clear H
       go_wp2
       go_meet
       case rel => exact ⟨_, ((x6_10 == 101)), (by first | rfl | (refine congrArg Ending.returned (congrArg (Value.int .i64) (?_ : (0 : Int) = _)); decide +kernel) | (simp; done) | (simp [*]; done)), H', ⟨by have := HJ8.out; have := HJ10.out; first | omega | exact Nat.le_refl _⟩, ⟨zR HO_0.out⟩, ⟨by repeat (first | (with_reducible first | exact HK.out | apply Kept.alloc | apply Kept.drewN | apply Kept.drew) | exact HK.out)⟩, ⟨zB⟩⟩
      ·rw [if_neg c27] at H
       cases H
     case rest =>
      clear HC26
      obtain ⟨kq, x75_25, rfl, HA, HJ25, HO_0, HK, HB⟩ := hcut
      cases kq with
      | zero => exact absurd HA.out (by rw [eq0_j6]; exact fun h => nomatch h)
      | succ kj25 =>
       have H := HA.out
       clear HA
       rw [eq_j6] at H
       by_cases c28 : x75_25 = true
       ·subst c28
        have H1 := H
        rw [if_pos rfl] at H1
        clear H
        have H := H1
        clear H1
        have HC29 := Aside0.mk H
        clear H
        go_upto_if 78 with (fail)
        go_cut [0] from 78 to 81 (fun v0 wc => ∃ (kq : Nat) (x0_28 : List Int), Aside0 (strconv_fmtEFG.j7 kq x0_28 l2 a3 a4 x5_10 x6_10 = some r) ∧ Aside0 (kq ≤ kj25) ∧ Aside0 (Kd.R (Kd.int .u8) 5 wc w0.heap.size (fun k_ => (P0_ k_ ∨ w.heap.size ≤ k_)) v0 x0_28) ∧ Aside0 (Kept w wc (fun k_ => P0_ k_)) ∧ Aside0 (Below w0.heap.size w0 wc))
        case first =>
         have H := HC29.out
         clear HC29
         by_cases c30 : a1 = true
         ·rw [if_pos c30] at H
          cases H
         ·replace c30 := Bool.eq_false_iff.mpr c30
          subst c30
          have H1 := H
          rw [if_neg (show ¬ (false = true) by decide)] at H1
          clear H
          have H := H1
          clear H1
          have H' := Aside0.mk H
          clear H
          go_wp2
          go_meet
          case rel => exact ⟨_, (l0), H', ⟨by have := HJ8.out; have := HJ10.out; have := HJ25.out; first | omega | exact Nat.le_refl _⟩, ⟨zR HO_0.out⟩, ⟨by repeat (first | (with_reducible first | exact HK.out | apply Kept.alloc | apply Kept.drewN | apply Kept.drew) | exact HK.out)⟩, ⟨zB⟩⟩
        case rest =>
         clear HC29
         obtain ⟨kq, x0_28, HA, HJ28, HO_0, HK, HB⟩ := hcut
         cases kq with
         | zero => exact absurd HA.out (by rw [eq0_j7]; exact fun h => nomatch h)
         | succ kj28 =>
          have H := HA.out
          clear HA
          rw [eq_j7] at H
          have HC33 := Aside0.mk H
          clear H
          go_upto_if 83 with (fail)
          go_cut [19] from 82 to 86 (fun v19 wc => ∃ (kq : Nat) (x19_32 : Int), v19 = .int .u8 x19_32 ∧ Aside0 (strconv_fmtEFG.j8 kq x0_28 l2 a3 a4 x5_10 x6_10 x19_32 = some r) ∧ Aside0 (kq ≤ kj28) ∧ Aside0 (Kd.R (Kd.int .u8) 5 wc w0.heap.size (fun k_ => (P0_ k_ ∨ w.heap.size ≤ k_)) u0 x0_28) ∧ Aside0 (Kept w wc (fun k_ => P0_ k_)) ∧ Aside0 (Below w0.heap.size w0 wc))
          case first =>
           have H := HC33.out
           clear HC33
           by_cases c34 : a4 = 0
           ·rw [if_pos c34] at H
            cases H
           ·rw [if_neg c34] at H
            have c34b0 : (a4 == 0) = false := beq_eq_false_iff_ne.mpr c34
            have c34b1 : (a4 != 0) = true := bne_iff_ne.mpr c34
            (first | rw [c34b0] | (simp only [i64_w, i32_w]; rw [c34b0]) | skip)
            by_cases c35 : 0 < (l2.length : Int)
            ·rw [if_pos c35] at H
             have c35b0 := decide_eq_true c35
             have c35b1 : decide (0 < l2.length) = true := decide_eq_true (by omega)
             clear c35
             have H' := Aside0.mk H
             clear H
             have p106 : 0 ≤ (0 : Int) := (by omega)
             have q106 : 0 < (l2.length : Int) := of_decide_eq_true zA
             obtain ⟨ad106, e106, hx106_0⟩ := Kd.at_int (Kd.C_kept_now HR2.out HK.out) 0 p106 q106
             cases e106
             have qi106 : (0 < l2.length) = True := eq_true (by omega)
             have qL106 : (0 < L2) = True := eq_true (by have := HL2.out; omega)
             (try rw [show ((0 : Int)).toNat = 0 from rfl] at hx106_0)
             (try rw [Addr.add_zero'] at hx106_0)
             replace p106 := eq_true p106
             replace q106 := eq_true q106
             go_wp2
             go_meet
             case rel => exact ⟨_, (rd l2 0), (by first | rfl | (refine congrArg Ending.returned (congrArg (Value.int .i64) (?_ : (0 : Int) = _)); decide +kernel) | (simp; done) | (simp [*]; done)), H', ⟨by have := HJ8.out; have := HJ10.out; have := HJ25.out; have := HJ28.out; first | omega | exact Nat.le_refl _⟩, ⟨zR HO_0.out⟩, ⟨by repeat (first | (with_reducible first | exact HK.out | apply Kept.alloc | apply Kept.drewN | apply Kept.drew) | exact HK.out)⟩, ⟨zB⟩⟩
            ·rw [if_neg c35] at H
             exact absurd H (by simp)
          case rest =>
           clear HC33
           try clear hx1
           try clear qi1
           try clear hx10
           try clear qi10
           try clear hx106_0
           obtain ⟨kq, x19_32, rfl, HA, HJ32, HO_0, HK, HB⟩ := hcut
           cases kq with
           | zero => exact absurd HA.out (by rw [eq0_j8]; exact fun h => nomatch h)
           | succ kj32 =>
            have H := HA.out
            clear HA
            rw [eq_j8] at H
            by_cases c36 : x0_28.length < 140737488355328
            ·rw [if_pos c36] at H
             have LMc36 := Aside0.mk c36
             clear c36
             obtain ⟨y107, hy107⟩ : ∃ y_ : List Int, y_ = (x0_28 ++ [x19_32]) := ⟨_, rfl⟩
             replace H : (if x5_10 > 0 then (if y107.length < 140737488355328 then ((some (y107 ++ [46] : List Int)).bind fun y110 => (if 1 < (mn a4 (wrap64 (x5_10 + 1))) then (if 1 ≤ (mn a4 (wrap64 (x5_10 + 1))) then (if (mn a4 (wrap64 (x5_10 + 1))) ≤ (l2.length : Int) then ((some ((l2.take ((mn a4 (wrap64 (x5_10 + 1))) : Int).toNat).drop 1 : List Int)).bind fun y113 => (if y110.length + y113.length < 140737488355328 then (strconv_fmtEFG.j9 kj32 (y110 ++ y113) a3 a4 x5_10 x6_10 (mn a4 (wrap64 (x5_10 + 1)))) else (none))) else (none)) else (none)) else (strconv_fmtEFG.j9 kj32 y110 a3 a4 x5_10 x6_10 1))) else (none)) else (strconv_fmtEFG.j11 kj32 y107 a3 a4 x6_10)) = some r := zT hy107 H
             have Ny107 := Aside0.mk hy107
             clear hy107
             have HC37 := Aside0.mk H
             clear H
             go_upto_if 92 with (first | ((with_reducible refine gate_builtin (b := .append) (xs := #[.tmp 87, .tmp 89]) rfl ?_); at_builtin; refine Kd.R_append (Kd.int .u8) (w0 := w0) w0.heap.size rfl (.tmp 87) (.tmp 89) 22 5 (.int .u8 0) 1 rfl Tryz.underlying22 info5 rfl (by decide) (by omega) u0 x0_28 x19_32 [.int .u8 x19_32] (fun k_ => (P0_ k_ ∨ w.heap.size ≤ k_)) (fun _ => False) rfl rfl ?aP (fun _ hk => hk.elim) ?aF ?aO ?aB ?aS ?aL ?_; (case aP => exact rfl); (case aB => exact zB); (case aF => exact (fun k_ hk => (.inr (Nat.le_trans (by first | exact HK.out.1 | exact (show Kept w _ (fun k_ => P0_ k_) from by repeat (first | (with_reducible first | exact HK.out | apply Kept.alloc | apply Kept.drewN | apply Kept.drew) | exact HK.out)).1) hk)))); (case aO => exact (zR HO_0.out)); (case aS => exact (below_size zB)); (case aL => have := LMc36.out; omega); intro v108 w38 ho hb hg hat; rw [← Ny107.out] at ho; have n0_ := Aside0.mk (hb); have n1_ := Aside0.mk (Kept.of_grown (S := (fun k_ => P0_ k_)) hg (by repeat (first | (with_reducible first | exact HK.out | apply Kept.alloc | apply Kept.drewN | apply Kept.drew) | exact HK.out)) (fun k_ e_ => (HO_0.out.1 k_ e_))); have n2_ := Aside0.mk (ho); clear HB; clear HK; clear HO_0; have HB := n0_; have HK := n1_; have HO109 := n2_; clear n0_ n1_ n2_; clear ho hb hg hat))
             (try simp only [Act.put, List.setIfInBounds_toArray, List.set_cons_zero, List.set_cons_succ])
             go_cut [0] from 91 to 119 (fun v0 wc => ∃ (kq : Nat) (x0_36 : List Int), Aside0 (strconv_fmtEFG.j11 kq x0_36 a3 a4 x6_10 = some r) ∧ Aside0 (kq ≤ kj32) ∧ Aside0 (Kd.R (Kd.int .u8) 5 wc w0.heap.size (fun k_ => (P0_ k_ ∨ w.heap.size ≤ k_)) v0 x0_36) ∧ Aside0 (Kept w wc (fun k_ => P0_ k_)) ∧ Aside0 (Below w0.heap.size w0 wc))
             case first =>
              have H := HC37.out
              clear HC37
              by_cases c39 : x5_10 > 0
              ·rw [if_pos c39] at H
               have c39b0 : decide (0 < x5_10) = true := decide_eq_true c39
               clear c39
               (first | rw [c39b0] | (simp only [i64_w, i32_w]; rw [c39b0]) | skip)
               by_cases c40 : y107.length < 140737488355328
               ·rw [if_pos c40] at H
                have LMc40 := Aside0.mk c40
                clear c40
                obtain ⟨y110, hy110⟩ : ∃ y_ : List Int, y_ = (y107 ++ [46]) := ⟨_, rfl⟩
                replace H : (if 1 < (mn a4 (wrap64 (x5_10 + 1))) then (if 1 ≤ (mn a4 (wrap64 (x5_10 + 1))) then (if (mn a4 (wrap64 (x5_10 + 1))) ≤ (l2.length : Int) then ((some ((l2.take ((mn a4 (wrap64 (x5_10 + 1))) : Int).toNat).drop 1 : List Int)).bind fun y113 => (if y110.length + y113.length < 140737488355328 then (strconv_fmtEFG.j9 kj32 (y110 ++ y113) a3 a4 x5_10 x6_10 (mn a4 (wrap64 (x5_10 + 1)))) else (none))) else (none)) else (none)) else (strconv_fmtEFG.j9 kj32 y110 a3 a4 x5_10 x6_10 1)) = some r := zT hy110 H
                have Ny110 := Aside0.mk hy110
                clear hy110
                obtain ⟨ji41, hji41⟩ : ∃ j_ : Int, (mn a4 (wrap64 (x5_10 + 1))) = j_ := ⟨_, rfl⟩
                first | rw [hji41] at H | simp only [hji41] at H
                have hji41_ : (if (wrap64 (x5_10 + 1)) < a4 then (wrap64 (x5_10 + 1)) else a4) = ji41 := hji41
                have HC42 := Aside0.mk H
                clear H
                go_upto_if 102 with (first | ((with_reducible refine gate_builtin (b := .append) (xs := #[.tmp 93, .tmp 94]) rfl ?_); at_builtin; refine Kd.R_append (Kd.int .u8) (w0 := w0) w0.heap.size rfl (.tmp 93) (.tmp 94) 22 5 (.int .u8 0) 1 rfl Tryz.underlying22 info5 rfl (by decide) (by omega) v108 y107 46 [.int .u8 46] (fun k_ => (P0_ k_ ∨ w.heap.size ≤ k_)) (fun _ => False) rfl rfl ?aP (fun _ hk => hk.elim) ?aF ?aO ?aB ?aS ?aL ?_; (case aP => exact rfl); (case aB => exact zB); (case aF => exact (fun k_ hk => (.inr (Nat.le_trans (by first | exact HK.out.1 | exact (show Kept w _ (fun k_ => P0_ k_) from by repeat (first | (with_reducible first | exact HK.out | apply Kept.alloc | apply Kept.drewN | apply Kept.drew) | exact HK.out)).1) hk)))); (case aO => exact (zR HO109.out)); (case aS => exact (below_size zB)); (case aL => have := LMc40.out; omega); intro v111 w43 ho hb hg hat; rw [← Ny110.out] at ho; have n0_ := Aside0.mk (hb); have n1_ := Aside0.mk (Kept.of_grown (S := (fun k_ => P0_ k_)) hg (by repeat (first | (with_reducible first | exact HK.out | apply Kept.alloc | apply Kept.drewN | apply Kept.drew) | exact HK.out)) (fun k_ e_ => (HO109.out.1 k_ e_))); have n2_ := Aside0.mk (ho); clear HB; clear HK; clear HO109; have HB := n0_; have HK := n1_; have HO112 := n2_; clear n0_ n1_ n2_; clear ho hb hg hat))
                (try simp only [Act.put, List.setIfInBounds_toArray, List.set_cons_zero, List.set_cons_succ])
                go_cut [0, 20] from 100 to 109 (fun v0 v20 wc => ∃ (kq : Nat) (x0_41 : List Int) (x20_41 : Int), v20 = .int .i64 x20_41 ∧ Aside0 (strconv_fmtEFG.j9 kq x0_41 a3 a4 x5_10 x6_10 x20_41 = some r) ∧ Aside0 (kq ≤ kj32) ∧ Aside0 (Kd.R (Kd.int .u8) 5 wc w0.heap.size (fun k_ => (P0_ k_ ∨ w.heap.size ≤ k_)) v0 x0_41) ∧ Aside0 (Kept w wc (fun k_ => P0_ k_)) ∧ Aside0 (Below w0.heap.size w0 wc))
                case first =>
                 have H := HC42.out
                 clear HC42
                 by_cases c44 : 1 < (ji41)
                 ·rw [if_pos c44] at H
                  have c44b0 := decide_eq_true c44
                  clear c44
                  (first | rw [c44b0] | (simp only [i64_w, i32_w]; rw [c44b0]) | skip)
                  by_cases c45 : 1 ≤ (ji41)
                  ·rw [if_pos c45] at H
                   have c45b0 := eq_true c45
                   have c45b1 := decide_eq_true c45
                   clear c45
                   by_cases c46 : (ji41) ≤ (l2.length : Int)
                   ·rw [if_pos c46] at H
                    have c46b0 := eq_true c46
                    have c46b1 := decide_eq_true c46
                    clear c46
                    obtain ⟨y113, hy113⟩ : ∃ y_ : List Int, y_ = ((l2.take ((ji41) : Int).toNat).drop 1) := ⟨_, rfl⟩
                    replace H : (if y110.length + y113.length < 140737488355328 then (strconv_fmtEFG.j9 kj32 (y110 ++ y113) a3 a4 x5_10 x6_10 ji41) else (none)) = some r := zT hy113 H
                    have Ny113 := Aside0.mk hy113
                    clear hy113
                    by_cases c47 : y110.length + y113.length < 140737488355328
                    ·rw [if_pos c47] at H
                     have LMc47 := Aside0.mk c47
                     clear c47
                     obtain ⟨y117, hy117⟩ : ∃ y_ : List Int, y_ = (y110 ++ y113) := ⟨_, rfl⟩
                     replace H : (strconv_fmtEFG.j9 kj32 y117 a3 a4 x5_10 x6_10 ji41) = some r := zT hy117 H
                     have Ny117 := Aside0.mk hy117
                     clear hy117
                     have H' := Aside0.mk H
                     clear H
                     have q48 : ((ji41) : Int) ≤ ((l2.length : Int) : Int) := of_decide_eq_true zA
                     obtain ⟨i048, hi048, _, hsz48, _⟩ := info_parts info5
                     have hroom48 : l2.length ≤ c2 := Nat.le_trans HL2.out HC2.out
                     have hC48 : Kd.C (Kd.int .u8) _ A2 l2.length l2 := (Kd.C_kept_now HR2.out HK.out)
                     have ql48 : (1 : Int) ≤ ((ji41) : Int) := of_decide_eq_true zA
                     have hcut48 := cut_mid (P := Tryz.prog) 22 5 .i64 .i64 Tryz.underlying22 hi048 1 hsz48 A2 L2 c2 1 (ji41) (by omega) ql48 (Int.le_trans q48 (by have := HL2.out; omega)) HC2.out
                     have hr48 := Kd.C_mid (lo := (1 : Int).toNat) (hi := ((ji41) : Int).toNat) (c := c2) hC48 (by omega) (by omega) hroom48
                     obtain ⟨A48, hA48⟩ : ∃ A1, A1 = (if c2 = (1 : Int).toNat then A2 else (A2 : Option Addr).map (·.add ((1 : Int).toNat * 1))) := ⟨_, rfl⟩
                     obtain ⟨c48, hc48⟩ : ∃ c1, c1 = c2 - (1 : Int).toNat := ⟨_, rfl⟩
                     have hy48 : y113.length = ((ji41) : Int).toNat - (1 : Int).toNat := (by rw [Ny113.out, List.length_drop, List.length_take] <;> omega)
                     rw [show ((l2).take ((ji41) : Int).toNat).drop (1 : Int).toNat = y113 from Ny113.out.symm] at hr48
                     replace hr48 : Kd.C (Kd.int .u8) _ A48 y113.length y113 := (by rw [hA48]; exact hr48)
                     rw [← hy48, ← hA48, ← hc48] at hcut48
                     have HR116 := Aside0.mk hr48
                     have HC116 := Aside0.mk (show y113.length ≤ c48 from by rw [hy48, hc48]; exact Nat.sub_le_sub_right (Nat.le_trans (by omega) hroom48) _)
                     clear hr48 hC48 hroom48 hi048 hsz48 hc48
                     have KY48 := Aside0.mk hy48
                     have KA48 := Aside0.mk hA48
                     clear hy48 hA48
                     have KL48 := Aside0.mk (show ((ji41) : Int).toNat ≤ l2.length from by omega)
                     have KM48 := Aside0.mk (show 1 ≤ ((ji41) : Int).toNat from by omega)
                     replace q48 := eq_true q48
                     go_wp2_with (first | ((with_reducible refine gate_builtin (b := .append) (xs := #[.tmp 103, .tmp 107]) rfl ?_); at_builtin; refine Kd.R_append_rows (Kd.int .u8) (w0 := w0) w0.heap.size rfl (.tmp 103) (.tmp 107) 22 5 (.int .u8 0) 1 rfl Tryz.underlying22 info5 rfl (by decide) (by omega) v111 y110 y113 _ _ _ (fun k_ => (P0_ k_ ∨ w.heap.size ≤ k_)) (fun _ => False) rfl rfl ?aO ?aR (fun _ _ h => h) (fun _ h => h.elim) ?aF ?aB ?aS ?aL ?_; (case aR => repeat (first | exact (by repeat (first | (with_reducible exact HR116.out) | (with_reducible refine Kd.C_alloc ?_ _) | (with_reducible refine Kd.C_drewN ?_ _) | (with_reducible refine Kd.C_drew ?_) | exact HR116.out)) | (with_reducible refine Kd.C_alloc ?_ _) | (with_reducible refine Kd.C_drewN ?_ _) | (with_reducible refine Kd.C_drew ?_))); (case aB => exact zB); (case aF => exact (fun k_ hk => (.inr (Nat.le_trans (by first | exact HK.out.1 | exact (show Kept w _ (fun k_ => P0_ k_) from by repeat (first | (with_reducible first | exact HK.out | apply Kept.alloc | apply Kept.drewN | apply Kept.drew) | exact HK.out)).1) hk)))); (case aO => exact (zR HO112.out)); (case aS => exact (below_size zB)); (case aL => have := LMc47.out; omega); intro v118 w49 ho hb hg hat; rw [← Ny117.out] at ho; have n0_ := Aside0.mk (hb); have n1_ := Aside0.mk (Kept.of_grown (S := (fun k_ => P0_ k_)) hg (by repeat (first | (with_reducible first | exact HK.out | apply Kept.alloc | apply Kept.drewN | apply Kept.drew) | exact HK.out)) (fun k_ e_ => (HO112.out.1 k_ e_))); have n2_ := Aside0.mk ((show Kd.C (Kd.int .u8) w49 A48 y113.length y113 from by rw [Ny113.out, KA48.out]; exact Kd.C_mid (lo := 1) (hi := ((ji41) : Int).toNat) (c := c2) (Kd.C_kept_now HR2.out (show Kept w w49 (fun k_ => P0_ k_) from (Kept.of_grown (S := (fun k_ => P0_ k_)) hg (by repeat (first | (with_reducible first | exact HK.out | apply Kept.alloc | apply Kept.drewN | apply Kept.drew) | exact HK.out)) (fun k_ e_ => (HO112.out.1 k_ e_))))) KM48.out KL48.out (Nat.le_trans HL2.out HC2.out))); have n3_ := Aside0.mk (ho); clear HB; clear HK; clear HR116; clear HO112; have HB := n0_; have HK := n1_; have HR116 := n2_; have HO119 := n3_; clear n0_ n1_ n2_ n3_; clear ho hb hg hat))
                     go_meet
                     case rel => exact ⟨_, (y117), (ji41), (by first | rfl | (refine congrArg Ending.returned (congrArg (Value.int .i64) (?_ : (0 : Int) = _)); decide +kernel) | (simp; done) | (simp only [← hji41] <;> (first | rfl | simp)) | (simp [*]; done)), H', ⟨by have := HJ8.out; have := HJ10.out; have := HJ25.out; have := HJ28.out; have := HJ32.out; first | omega | exact Nat.le_refl _⟩, ⟨zR HO119.out⟩, ⟨by repeat (first | (with_reducible first | exact HK.out | apply Kept.alloc | apply Kept.drewN | apply Kept.drew) | exact HK.out)⟩, ⟨zB⟩⟩
                    ·rw [if_neg c47] at H
                     exact absurd H (by simp)
                   ·rw [if_neg c46] at H
                    exact absurd H (by simp)
                  ·rw [if_neg c45] at H
                   exact absurd H (by simp)
                 ·rw [if_neg c44] at H
                  have c44b0 := decide_eq_false c44
                  clear c44
                  (first | rw [c44b0] | (simp only [i64_w, i32_w]; rw [c44b0]) | skip)
                  have H' := Aside0.mk H
                  clear H
                  go_wp2
                  go_meet
                  case rel => exact ⟨_, (y110), (1), (by first | rfl | (refine congrArg Ending.returned (congrArg (Value.int .i64) (?_ : (0 : Int) = _)); decide +kernel) | (simp; done) | (simp [*]; done)), H', ⟨by have := HJ8.out; have := HJ10.out; have := HJ25.out; have := HJ28.out; have := HJ32.out; first | omega | exact Nat.le_refl _⟩, ⟨zR HO112.out⟩, ⟨by repeat (first | (with_reducible first | exact HK.out | apply Kept.alloc | apply Kept.drewN | apply Kept.drew) | exact HK.out)⟩, ⟨zB⟩⟩
                case rest =>
                 clear HC42
                 try clear hx1
                 try clear qi1
                 try clear hx10
                 try clear qi10
                 try clear hx106_0
                 obtain ⟨kq, x0_41, x20_41, rfl, HA, HJ41, HO_0, HK, HB⟩ := hcut
                 cases kq with
                 | zero => exact absurd HA.out (by rw [eq0_j9]; exact fun h => nomatch h)
                 | succ kj41 =>
                  have H := HA.out
                  clear HA
                  rw [eq_j9] at H
                  have H' := Aside0.mk H
                  clear H
                  go_wp2
                  go_loopg [0, 114] kj41 (fun kq v0 v114 w' => ∃ (x0_7 : List Int) (x114_7 : Int), v114 = .int .i64 x114_7 ∧ Aside0 (strconv_fmtEFG.l0 kq x0_7 a3 a4 x6_10 (wrap64 ((wrap64 (x5_10 + 1)) - x20_41)) x114_7 = some r) ∧ Aside0 (kq ≤ kj41) ∧ Aside0 (Kd.R (Kd.int .u8) 5 w' w0.heap.size (fun k_ => (P0_ k_ ∨ w.heap.size ≤ k_)) v0 x0_7) ∧ Aside0 (Kept w w' (fun k_ => P0_ k_)) ∧ Aside0 (Below w0.heap.size w0 w'))
                  case atStart => exact ⟨(x0_41), (0), (by first | rfl | (refine congrArg Ending.returned (congrArg (Value.int .i64) (?_ : (0 : Int) = _)); decide +kernel) | (simp; done) | (simp [*]; done)), H', ⟨Nat.le_refl _⟩, ⟨zR HO_0.out⟩, ⟨by repeat (first | (with_reducible first | exact HK.out | apply Kept.alloc | apply Kept.drewN | apply Kept.drew) | exact HK.out)⟩, ⟨zB⟩⟩
                  case round =>
                   clear H'
                   try clear hx1
                   try clear qi1
                   try clear hx10
                   try clear qi10
                   try clear hx106_0
                   obtain ⟨x0_7, x114_7, rfl, HA, HK7, HO_0, HK, HB⟩ := hrel
                   cases gk with
                   | zero => exact absurd HA.out (by rw [eq0_l0]; exact fun h => nomatch h)
                   | succ k7 =>
                    have H := HA.out
                    clear HA
                    rw [eq_l0] at H
                    by_cases c50 : x114_7 < (wrap64 ((wrap64 (x5_10 + 1)) - x20_41))
                    ·rw [if_pos c50] at H
                     have c50b0 := decide_eq_true c50
                     clear c50
                     by_cases c51 : x0_7.length < 140737488355328
                     ·rw [if_pos c51] at H
                      have LMc51 := Aside0.mk c51
                      clear c51
                      obtain ⟨y120, hy120⟩ : ∃ y_ : List Int, y_ = (x0_7 ++ [48]) := ⟨_, rfl⟩
                      replace H : (strconv_fmtEFG.l0 k7 y120 a3 a4 x6_10 (wrap64 ((wrap64 (x5_10 + 1)) - x20_41)) (wrap64 (x114_7 + 1))) = some r := zT hy120 H
                      have Ny120 := Aside0.mk hy120
                      clear hy120
                      have H' := Aside0.mk H
                      clear H
                      go_wp2_with (first | ((with_reducible refine gate_builtin (b := .append) (xs := #[.tmp 116, .tmp 117]) rfl ?_); at_builtin; refine Kd.R_append (Kd.int .u8) (w0 := w0) w0.heap.size rfl (.tmp 116) (.tmp 117) 22 5 (.int .u8 0) 1 rfl Tryz.underlying22 info5 rfl (by decide) (by omega) u0 x0_7 48 [.int .u8 48] (fun k_ => (P0_ k_ ∨ w.heap.size ≤ k_)) (fun _ => False) rfl rfl ?aP (fun _ hk => hk.elim) ?aF ?aO ?aB ?aS ?aL ?_; (case aP => exact rfl); (case aB => exact zB); (case aF => exact (fun k_ hk => (.inr (Nat.le_trans (by first | exact HK.out.1 | exact (show Kept w _ (fun k_ => P0_ k_) from by repeat (first | (with_reducible first | exact HK.out | apply Kept.alloc | apply Kept.drewN | apply Kept.drew) | exact HK.out)).1) hk)))); (case aO => exact (zR HO_0.out)); (case aS => exact (below_size zB)); (case aL => have := LMc51.out; omega); intro v121 w52 ho hb hg hat; rw [← Ny120.out] at ho; have n0_ := Aside0.mk (hb); have n1_ := Aside0.mk (Kept.of_grown (S := (fun k_ => P0_ k_)) hg (by repeat (first | (with_reducible first | exact HK.out | apply Kept.alloc | apply Kept.drewN | apply Kept.drew) | exact HK.out)) (fun k_ e_ => (HO_0.out.1 k_ e_))); have n2_ := Aside0.mk (ho); clear HB; clear HK; clear HO_0; have HB := n0_; have HK := n1_; have HO122 := n2_; clear n0_ n1_ n2_; clear ho hb hg hat))
                      go_roundg k7
                      case measure => have := HJ8.out; have := HJ10.out; have := HJ25.out; have := HJ28.out; have := HJ32.out; have := HJ41.out; have := HK7.out; omega
                      case rel => exact ⟨(y120), (wrap64 (x114_7 + 1)), (by first | rfl | (refine congrArg Ending.returned (congrArg (Value.int .i64) (?_ : (0 : Int) = _)); decide +kernel) | (simp; done) | (simp [*]; done)), H', ⟨by have := HJ8.out; have := HJ10.out; have := HJ25.out; have := HJ28.out; have := HJ32.out; have := HJ41.out; have := HK7.out; omega⟩, ⟨zR HO122.out⟩, ⟨by repeat (first | (with_reducible first | exact HK.out | apply Kept.alloc | apply Kept.drewN | apply Kept.drew) | exact HK.out)⟩, ⟨zB⟩⟩
                     ·rw [if_neg c51] at H
                      exact absurd H (by simp)
                    ·rw [if_neg c50] at H
                     have c50b0 := decide_eq_false c50
                     clear c50
                     have H' := Aside0.mk H
                     clear H
                     go_wp2
                     go_meet
                     case rel => exact ⟨_, (x0_7), H', ⟨by have := HJ8.out; have := HJ10.out; have := HJ25.out; have := HJ28.out; have := HJ32.out; have := HJ41.out; have := HK7.out; first | omega | exact Nat.le_refl _⟩, ⟨zR HO_0.out⟩, ⟨by repeat (first | (with_reducible first | exact HK.out | apply Kept.alloc | apply Kept.drewN | apply Kept.drew) | exact HK.out)⟩, ⟨zB⟩⟩
               ·rw [if_neg c40] at H
                exact absurd H (by simp)
              ·rw [if_neg c39] at H
               have c39b0 : decide (0 < x5_10) = false := decide_eq_false c39
               clear c39
               (first | rw [c39b0] | (simp only [i64_w, i32_w]; rw [c39b0]) | skip)
               have H' := Aside0.mk H
               clear H
               go_wp2
               go_meet
               case rel => exact ⟨_, (y107), H', ⟨by have := HJ8.out; have := HJ10.out; have := HJ25.out; have := HJ28.out; have := HJ32.out; first | omega | exact Nat.le_refl _⟩, ⟨zR HO109.out⟩, ⟨by repeat (first | (with_reducible first | exact HK.out | apply Kept.alloc | apply Kept.drewN | apply Kept.drew) | exact HK.out)⟩, ⟨zB⟩⟩
             case rest =>
              clear HC37
              try clear hx1
              try clear qi1
              try clear hx10
              try clear qi10
              try clear hx106_0
              obtain ⟨kq, x0_36, HA, HJ36, HO_0, HK, HB⟩ := hcut
              cases kq with
              | zero => exact absurd HA.out (by rw [eq0_j11]; exact fun h => nomatch h)
              | succ kj36 =>
               have H := HA.out
               clear HA
               rw [eq_j11] at H
               by_cases c53 : x0_36.length < 140737488355328
               ·rw [if_pos c53] at H
                have LMc53 := Aside0.mk c53
                clear c53
                obtain ⟨y123, hy123⟩ : ∃ y_ : List Int, y_ = (x0_36 ++ [x6_10]) := ⟨_, rfl⟩
                replace H : (if a4 = 0 then none else (strconv_fmtEFG.j12 kj36 y123 (wrap64 (a3 - 1)))) = some r := zT hy123 H
                have Ny123 := Aside0.mk hy123
                clear hy123
                have HC54 := Aside0.mk H
                clear H
                go_upto_if 127 with (first | ((with_reducible refine gate_builtin (b := .append) (xs := #[.tmp 120, .tmp 122]) rfl ?_); at_builtin; refine Kd.R_append (Kd.int .u8) (w0 := w0) w0.heap.size rfl (.tmp 120) (.tmp 122) 22 5 (.int .u8 0) 1 rfl Tryz.underlying22 info5 rfl (by decide) (by omega) u0 x0_36 x6_10 [.int .u8 x6_10] (fun k_ => (P0_ k_ ∨ w.heap.size ≤ k_)) (fun _ => False) rfl rfl ?aP (fun _ hk => hk.elim) ?aF ?aO ?aB ?aS ?aL ?_; (case aP => exact rfl); (case aB => exact zB); (case aF => exact (fun k_ hk => (.inr (Nat.le_trans (by first | exact HK.out.1 | exact (show Kept w _ (fun k_ => P0_ k_) from by repeat (first | (with_reducible first | exact HK.out | apply Kept.alloc | apply Kept.drewN | apply Kept.drew) | exact HK.out)).1) hk)))); (case aO => exact (zR HO_0.out)); (case aS => exact (below_size zB)); (case aL => have := LMc53.out; omega); intro v124 w55 ho hb hg hat; rw [← Ny123.out] at ho; have n0_ := Aside0.mk (hb); have n1_ := Aside0.mk (Kept.of_grown (S := (fun k_ => P0_ k_)) hg (by repeat (first | (with_reducible first | exact HK.out | apply Kept.alloc | apply Kept.drewN | apply Kept.drew) | exact HK.out)) (fun k_ e_ => (HO_0.out.1 k_ e_))); have n2_ := Aside0.mk (ho); clear HB; clear HK; clear HO_0; have HB := n0_; have HK := n1_; have HO125 := n2_; clear n0_ n1_ n2_; clear ho hb hg hat))
                (try simp only [Act.put, List.setIfInBounds_toArray, List.set_cons_zero, List.set_cons_succ])
                go_cut [22] from 124 to 127 (fun v22 wc => ∃ (kq : Nat) (x22_53 : Int), v22 = .int .i64 x22_53 ∧ Aside0 (strconv_fmtEFG.j12 kq y123 x22_53 = some r) ∧ Aside0 (kq ≤ kj36) ∧ Aside0 (Kd.R (Kd.int .u8) 5 wc w0.heap.size (fun k_ => (P0_ k_ ∨ w.heap.size ≤ k_)) v124 y123) ∧ Aside0 (Kept w wc (fun k_ => P0_ k_)) ∧ Aside0 (Below w0.heap.size w0 wc))
                case first =>
                 have H := HC54.out
                 clear HC54
                 by_cases c56 : a4 = 0
                 ·rw [if_pos c56] at H
                  cases H
                 ·rw [if_neg c56] at H
                  have c56b0 : (a4 == 0) = false := beq_eq_false_iff_ne.mpr c56
                  have c56b1 : (a4 != 0) = true := bne_iff_ne.mpr c56
                  (first | rw [c56b0] | (simp only [i64_w, i32_w]; rw [c56b0]) | skip)
                  have H' := Aside0.mk H
                  clear H
                  go_wp2
                  go_meet
                  case rel => exact ⟨_, (wrap64 (a3 - 1)), (by first | rfl | (refine congrArg Ending.returned (congrArg (Value.int .i64) (?_ : (0 : Int) = _)); decide +kernel) | (simp; done) | (simp [*]; done)), H', ⟨by have := HJ8.out; have := HJ10.out; have := HJ25.out; have := HJ28.out; have := HJ32.out; have := HJ36.out; first | omega | exact Nat.le_refl _⟩, ⟨zR HO125.out⟩, ⟨by repeat (first | (with_reducible first | exact HK.out | apply Kept.alloc | apply Kept.drewN | apply Kept.drew) | exact HK.out)⟩, ⟨zB⟩⟩
                case rest =>
                 clear HC54
                 try clear hx1
                 try clear qi1
                 try clear hx10
                 try clear qi10
                 try clear hx106_0
                 obtain ⟨kq, x22_53, rfl, HA, HJ53, HO_0, HK, HB⟩ := hcut
                 cases kq with
                 | zero => exact absurd HA.out (by rw [eq0_j12]; exact fun h => nomatch h)
                 | succ kj53 =>
                  have H := HA.out
                  clear HA
                  rw [eq_j12] at H
                  have HC57 := Aside0.mk H
                  clear H
                  go_upto_if 129 with (fail)
                  go_cut [19, 22] from 128 to 131 (fun v19 v22 wc => ∃ (kq : Nat) (x19_56 : Int) (x22_56 : Int), v19 = .int .u8 x19_56 ∧ v22 = .int .i64 x22_56 ∧ Aside0 (strconv_fmtEFG.j13 kq y123 x19_56 x22_56 = some r) ∧ Aside0 (kq ≤ kj53) ∧ Aside0 (Kd.R (Kd.int .u8) 5 wc w0.heap.size (fun k_ => (P0_ k_ ∨ w.heap.size ≤ k_)) v124 y123) ∧ Aside0 (Kept w wc (fun k_ => P0_ k_)) ∧ Aside0 (Below w0.heap.size w0 wc))
                  case first =>
                   have H := HC57.out
                   clear HC57
                   by_cases c58 : x22_53 < 0
                   ·rw [if_pos c58] at H
                    have c58b0 := decide_eq_true c58
                    clear c58
                    (first | rw [c58b0] | (simp only [i64_w, i32_w]; rw [c58b0]) | skip)
                    have H' := Aside0.mk H
                    clear H
                    go_wp2
                    go_meet
                    case rel => exact ⟨_, (45), (wrap64 (-x22_53)), (by first | rfl | (refine congrArg Ending.returned (congrArg (Value.int .i64) (?_ : (0 : Int) = _)); decide +kernel) | (simp; done) | (simp [*]; done)), (by first | rfl | (refine congrArg Ending.returned (congrArg (Value.int .i64) (?_ : (0 : Int) = _)); decide +kernel) | (simp; done) | (simp [*]; done)), H', ⟨by have := HJ8.out; have := HJ10.out; have := HJ25.out; have := HJ28.out; have := HJ32.out; have := HJ36.out; have := HJ53.out; first | omega | exact Nat.le_refl _⟩, ⟨zR HO_0.out⟩, ⟨by repeat (first | (with_reducible first | exact HK.out | apply Kept.alloc | apply Kept.drewN | apply Kept.drew) | exact HK.out)⟩, ⟨zB⟩⟩
                   ·rw [if_neg c58] at H
                    have c58b0 := decide_eq_false c58
                    clear c58
                    (first | rw [c58b0] | (simp only [i64_w, i32_w]; rw [c58b0]) | skip)
                    have H' := Aside0.mk H
                    clear H
                    go_wp2
                    go_meet
                    case rel => exact ⟨_, (43), (x22_53), (by first | rfl | (refine congrArg Ending.returned (congrArg (Value.int .i64) (?_ : (0 : Int) = _)); decide +kernel) | (simp; done) | (simp [*]; done)), (by first | rfl | (refine congrArg Ending.returned (congrArg (Value.int .i64) (?_ : (0 : Int) = _)); decide +kernel) | (simp; done) | (simp [*]; done)), H', ⟨by have := HJ8.out; have := HJ10.out; have := HJ25.out; have := HJ28.out; have := HJ32.out; have := HJ36.out; have := HJ53.out; first | omega | exact Nat.le_refl _⟩, ⟨zR HO_0.out⟩, ⟨by repeat (first | (with_reducible first | exact HK.out | apply Kept.alloc | apply Kept.drewN | apply Kept.drew) | exact HK.out)⟩, ⟨zB⟩⟩
                  case rest =>
                   clear HC57
                   try clear hx1
                   try clear qi1
                   try clear hx10
                   try clear qi10
                   try clear hx106_0
                   obtain ⟨kq, x19_56, x22_56, rfl, rfl, HA, HJ56, HO_0, HK, HB⟩ := hcut
                   cases kq with
                   | zero => exact absurd HA.out (by rw [eq0_j13]; exact fun h => nomatch h)
                   | succ kj56 =>
                    have H := HA.out
                    clear HA
                    rw [eq_j13] at H
                    by_cases c59 : y123.length < 140737488355328
                    ·rw [if_pos c59] at H
                     have LMc59 := Aside0.mk c59
                     clear c59
                     obtain ⟨y126, hy126⟩ : ∃ y_ : List Int, y_ = (y123 ++ [x19_56]) := ⟨_, rfl⟩
                     replace H : (if x22_56 < 10 then ((some (([48, (((x22_56) % 256) + 48) % 256] : List Int) : List Int)).bind fun y129 => (if y126.length + y129.length < 140737488355328 then (some (y126 ++ y129)) else (none))) else (if x22_56 < 100 then ((some (([(((wrap64 (Int.tdiv x22_56 10)) % 256) + 48) % 256, (((Int.tmod x22_56 10) % 256) + 48) % 256] : List Int) : List Int)).bind fun y135 => (if y126.length + y135.length < 140737488355328 then (some (y126 ++ y135)) else (none))) else ((some (([(((wrap64 (Int.tdiv x22_56 100)) % 256) + 48) % 256, (((wrap64 (Int.tdiv x22_56 10)) % 256) % 10) + 48, (((Int.tmod x22_56 10) % 256) + 48) % 256] : List Int) : List Int)).bind fun y141 => (if y126.length + y141.length < 140737488355328 then (some (y126 ++ y141)) else (none))))) = some r := zT hy126 H
                     have Ny126 := Aside0.mk hy126
                     clear hy126
                     by_cases c60 : x22_56 < 10
                     ·rw [if_pos c60] at H
                      have c60b0 := decide_eq_true c60
                      clear c60
                      obtain ⟨y129, hy129⟩ : ∃ y_ : List Int, y_ = (([48, (((x22_56) % 256) + 48) % 256] : List Int)) := ⟨_, rfl⟩
                      replace H : (if y126.length + y129.length < 140737488355328 then (some (y126 ++ y129)) else (none)) = some r := zT hy129 H
                      have Ny129 := Aside0.mk hy129
                      clear hy129
                      by_cases c61 : y126.length + y129.length < 140737488355328
                      ·rw [if_pos c61] at H
                       have LMc61 := Aside0.mk c61
                       clear c61
                       obtain ⟨y132, hy132⟩ : ∃ y_ : List Int, y_ = (y126 ++ y129) := ⟨_, rfl⟩
                       replace H : (some y132) = some r := zT hy132 H
                       have Ny132 := Aside0.mk hy132
                       clear hy132
                       obtain rfl := Option.some.inj H
                       go_wp2_with (first | ((with_reducible refine gate_builtin (b := .append) (xs := #[.tmp 132, .tmp 134]) rfl ?_); at_builtin; refine Kd.R_append (Kd.int .u8) (w0 := w0) w0.heap.size rfl (.tmp 132) (.tmp 134) 22 5 (.int .u8 0) 1 rfl Tryz.underlying22 info5 rfl (by decide) (by omega) v124 y123 x19_56 [.int .u8 x19_56] (fun k_ => (P0_ k_ ∨ w.heap.size ≤ k_)) (fun _ => False) rfl rfl ?aP (fun _ hk => hk.elim) ?aF ?aO ?aB ?aS ?aL ?_; (case aP => exact rfl); (case aB => exact zB); (case aF => exact (fun k_ hk => (.inr (Nat.le_trans (by first | exact HK.out.1 | exact (show Kept w _ (fun k_ => P0_ k_) from by repeat (first | (with_reducible first | exact HK.out | apply Kept.alloc | apply Kept.drewN | apply Kept.drew) | exact HK.out)).1) hk)))); (case aO => exact (zR HO_0.out)); (case aS => exact (below_size zB)); (case aL => have := LMc59.out; omega); intro v127 w62 ho hb hg hat; rw [← Ny126.out] at ho; have n0_ := Aside0.mk (hb); have n1_ := Aside0.mk (Kept.of_grown (S := (fun k_ => P0_ k_)) hg (by repeat (first | (with_reducible first | exact HK.out | apply Kept.alloc | apply Kept.drewN | apply Kept.drew) | exact HK.out)) (fun k_ e_ => (HO_0.out.1 k_ e_))); have n2_ := Aside0.mk (ho); clear HB; clear HK; clear HO_0; have HB := n0_; have HK := n1_; have HO128 := n2_; clear n0_ n1_ n2_; clear ho hb hg hat) | ((with_reducible refine gate_dst (N := 159) rfl ?_); refine Kd.R_lit (Kd.int .u8) _ 5 ?hg (N := 159) ?hd (xs := ([48, (((x22_56) % 256) + 48) % 256] : List Int)) (inner := [.int .u8 48, .int .u8 ((((x22_56) % 256) + 48) % 256)]) (ok := fun _ => True) (okp := fun _ => True) ?hr ?hp (fun _ hk => hk) trivial (Below.refl _ _) (Nat.le_refl _) (by simp) ?_; (case hd => rfl); (case hg => rfl); (case hr => first | (go_simp; done) | (go_simp; rfl)); (case hp => exact (Reps.one (show Kd.M (Kd.int .u8) _ _ _ 48 [.int .u8 48] from rfl) (Reps.one (show Kd.M (Kd.int .u8) _ _ _ ((((x22_56) % 256) + 48) % 256) [.int .u8 ((((x22_56) % 256) + 48) % 256)] from rfl) (Reps.none _ _)))); intro v130 w63 ho64 hb hg_ hnew_; clear hg_ hnew_; (first | rw [← Ny129.out] at ho64 | (simp only [Int.reduceToNat] at ho64; rw [← Ny129.out] at ho64)); have n0_ := Aside0.mk (Kd.R_elder' (zR HO128.out) (Kd.R_base ho64) hb); have n1_ := Aside0.mk (Kd.R_lower (Kd.R_new' (Kd.R_newM (M := fun k_ => (P0_ k_ ∨ w.heap.size ≤ k_)) ho64 (by first | exact HK.out.1 | exact (show Kept w _ (fun k_ => P0_ k_) from by repeat (first | (with_reducible first | exact HK.out | apply Kept.alloc | apply Kept.drewN | apply Kept.drew) | exact HK.out)).1) (fun k_ h_ => .inr h_)) (Kd.R_lt (zR HO128.out))) (below_size zB)); have n2_ := Aside0.mk (Kept.below (S := (fun k_ => P0_ k_)) (by repeat (first | (with_reducible first | exact HK.out | apply Kept.alloc | apply Kept.drewN | apply Kept.drew) | exact HK.out)) hb); have n3_ := Aside0.mk (below_step zB hb); clear HO128; clear HK; clear HB; have HO128 := n0_; have HO131 := n1_; have HK := n2_; have HB := n3_; clear n0_ n1_ n2_ n3_; clear hb ho64; obtain ⟨Ao66, co66, eo66⟩ := Kd.R_slice HO131.out; subst eo66) | ((with_reducible refine gate_builtin (b := .append) (xs := #[.tmp 155, .tmp 159]) rfl ?_); at_builtin; refine Kd.R_append_rows (Kd.int .u8) (w0 := w0) w0.heap.size rfl (.tmp 155) (.tmp 159) 22 5 (.int .u8 0) 1 rfl Tryz.underlying22 info5 rfl (by decide) (by omega) v127 y126 y129 _ _ _ (fun k_ => (P0_ k_ ∨ w.heap.size ≤ k_) ∧ some k_ ≠ (.slice Ao66 y129.length co66 : Value).ownBlock) (fun _ => False) rfl rfl ?aO ?aR (fun _ _ h => h) (fun _ h => h.elim) ?aF ?aB ?aS ?aL ?_; (case aR => exact zP (Kd.R_reads' HO131.out).2.2); (case aB => exact zB); (case aF => exact (fun k_ hk => ⟨(.inr (Nat.le_trans (by first | exact HK.out.1 | exact (show Kept w _ (fun k_ => P0_ k_) from by repeat (first | (with_reducible first | exact HK.out | apply Kept.alloc | apply Kept.drewN | apply Kept.drew) | exact HK.out)).1) hk)), Kd.fresh' (Kd.R_lt (zR HO131.out)) k_ hk⟩)); (case aO => exact (zR HO128.out)); (case aS => exact (below_size zB)); (case aL => have := LMc61.out; omega); intro v133 w65 ho hb hg hat; rw [← Ny132.out] at ho; have n0_ := Aside0.mk (Kd.R_after (ok := (fun k_ => (P0_ k_ ∨ w.heap.size ≤ k_))) (by (with_reducible repeat (first | apply Kd.R_alloc | apply Kd.R_drewN | apply Kd.R_drew)); exact Kd.R_mono HO131.out (fun _ hk => ⟨hk.1.1, hk.2⟩)) hg hat); have n1_ := Aside0.mk (hb); have n2_ := Aside0.mk (Kept.of_grown (S := (fun k_ => P0_ k_)) hg (by repeat (first | (with_reducible first | exact HK.out | apply Kept.alloc | apply Kept.drewN | apply Kept.drew) | exact HK.out)) (fun k_ e_ => (HO128.out.1 k_ e_).1)); have n3_ := Aside0.mk (ho); clear HO131; clear HB; clear HK; clear HO128; have HO131 := n0_; have HB := n1_; have HK := n2_; have HO134 := n3_; clear n0_ n1_ n2_ n3_; clear ho hb hg hat))
                       go_ret
                       exact ⟨_, by first | rfl | (refine congrArg Ending.returned (congrArg (Value.int .i64) (?_ : (0 : Int) = _)); decide +kernel) | (simp [errW_none, errW_some] <;> rfl) | (simp [*, errW_none, errW_some] <;> rfl), by (with_reducible repeat (first | apply Kd.R_alloc | apply Kd.R_drewN | apply Kd.R_drew)); exact Kd.R_mono HO134.out (fun _ hk => hk.1), by repeat (first | (with_reducible first | exact HB.out | apply below_alloc | apply pw_below_drewN | apply below_drew1) | exact HB.out), by repeat (first | (with_reducible first | exact HK.out | apply Kept.alloc | apply Kept.drewN | apply Kept.drew) | exact HK.out)⟩
                      ·rw [if_neg c61] at H
                       exact absurd H (by simp)
                     ·rw [if_neg c60] at H
                      have c60b0 := decide_eq_false c60
                      clear c60
                      by_cases c67 : x22_56 < 100
                      ·rw [if_pos c67] at H
                       have c67b0 := decide_eq_true c67
                       clear c67
                       obtain ⟨y135, hy135⟩ : ∃ y_ : List Int, y_ = (([(((wrap64 (Int.tdiv x22_56 10)) % 256) + 48) % 256, (((Int.tmod x22_56 10) % 256) + 48) % 256] : List Int)) := ⟨_, rfl⟩
                       replace H : (if y126.length + y135.length < 140737488355328 then (some (y126 ++ y135)) else (none)) = some r := zT hy135 H
                       have Ny135 := Aside0.mk hy135
                       clear hy135
                       by_cases c68 : y126.length + y135.length < 140737488355328
                       ·rw [if_pos c68] at H
                        have LMc68 := Aside0.mk c68
                        clear c68
                        obtain ⟨y138, hy138⟩ : ∃ y_ : List Int, y_ = (y126 ++ y135) := ⟨_, rfl⟩
                        replace H : (some y138) = some r := zT hy138 H
                        have Ny138 := Aside0.mk hy138
                        clear hy138
                        obtain rfl := Option.some.inj H
                        go_wp2_with (first | ((with_reducible refine gate_builtin (b := .append) (xs := #[.tmp 132, .tmp 134]) rfl ?_); at_builtin; refine Kd.R_append (Kd.int .u8) (w0 := w0) w0.heap.size rfl (.tmp 132) (.tmp 134) 22 5 (.int .u8 0) 1 rfl Tryz.underlying22 info5 rfl (by decide) (by omega) v124 y123 x19_56 [.int .u8 x19_56] (fun k_ => (P0_ k_ ∨ w.heap.size ≤ k_)) (fun _ => False) rfl rfl ?aP (fun _ hk => hk.elim) ?aF ?aO ?aB ?aS ?aL ?_; (case aP => exact rfl); (case aB => exact zB); (case aF => exact (fun k_ hk => (.inr (Nat.le_trans (by first | exact HK.out.1 | exact (show Kept w _ (fun k_ => P0_ k_) from by repeat (first | (with_reducible first | exact HK.out | apply Kept.alloc | apply Kept.drewN | apply Kept.drew) | exact HK.out)).1) hk)))); (case aO => exact (zR HO_0.out)); (case aS => exact (below_size zB)); (case aL => have := LMc59.out; omega); intro v127 w69 ho hb hg hat; rw [← Ny126.out] at ho; have n0_ := Aside0.mk (hb); have n1_ := Aside0.mk (Kept.of_grown (S := (fun k_ => P0_ k_)) hg (by repeat (first | (with_reducible first | exact HK.out | apply Kept.alloc | apply Kept.drewN | apply Kept.drew) | exact HK.out)) (fun k_ e_ => (HO_0.out.1 k_ e_))); have n2_ := Aside0.mk (ho); clear HB; clear HK; clear HO_0; have HB := n0_; have HK := n1_; have HO128 := n2_; clear n0_ n1_ n2_; clear ho hb hg hat) | ((with_reducible refine gate_dst (N := 173) rfl ?_); refine Kd.R_lit (Kd.int .u8) _ 5 ?hg (N := 173) ?hd (xs := ([(((wrap64 (Int.tdiv x22_56 10)) % 256) + 48) % 256, (((Int.tmod x22_56 10) % 256) + 48) % 256] : List Int)) (inner := [.int .u8 ((((wrap64 (Int.tdiv x22_56 10)) % 256) + 48) % 256), .int .u8 ((((Int.tmod x22_56 10) % 256) + 48) % 256)]) (ok := fun _ => True) (okp := fun _ => True) ?hr ?hp (fun _ hk => hk) trivial (Below.refl _ _) (Nat.le_refl _) (by simp) ?_; (case hd => rfl); (case hg => rfl); (case hr => first | (go_simp; done) | (go_simp; rfl)); (case hp => exact (Reps.one (show Kd.M (Kd.int .u8) _ _ _ ((((wrap64 (Int.tdiv x22_56 10)) % 256) + 48) % 256) [.int .u8 ((((wrap64 (Int.tdiv x22_56 10)) % 256) + 48) % 256)] from rfl) (Reps.one (show Kd.M (Kd.int .u8) _ _ _ ((((Int.tmod x22_56 10) % 256) + 48) % 256) [.int .u8 ((((Int.tmod x22_56 10) % 256) + 48) % 256)] from rfl) (Reps.none _ _)))); intro v136 w70 ho71 hb hg_ hnew_; clear hg_ hnew_; (first | rw [← Ny135.out] at ho71 | (simp only [Int.reduceToNat] at ho71; rw [← Ny135.out] at ho71)); have n0_ := Aside0.mk (Kd.R_elder' (zR HO128.out) (Kd.R_base ho71) hb); have n1_ := Aside0.mk (Kd.R_lower (Kd.R_new' (Kd.R_newM (M := fun k_ => (P0_ k_ ∨ w.heap.size ≤ k_)) ho71 (by first | exact HK.out.1 | exact (show Kept w _ (fun k_ => P0_ k_) from by repeat (first | (with_reducible first | exact HK.out | apply Kept.alloc | apply Kept.drewN | apply Kept.drew) | exact HK.out)).1) (fun k_ h_ => .inr h_)) (Kd.R_lt (zR HO128.out))) (below_size zB)); have n2_ := Aside0.mk (Kept.below (S := (fun k_ => P0_ k_)) (by repeat (first | (with_reducible first | exact HK.out | apply Kept.alloc | apply Kept.drewN | apply Kept.drew) | exact HK.out)) hb); have n3_ := Aside0.mk (below_step zB hb); clear HO128; clear HK; clear HB; have HO128 := n0_; have HO137 := n1_; have HK := n2_; have HB := n3_; clear n0_ n1_ n2_ n3_; clear hb ho71; obtain ⟨Ao73, co73, eo73⟩ := Kd.R_slice HO137.out; subst eo73) | ((with_reducible refine gate_builtin (b := .append) (xs := #[.tmp 164, .tmp 173]) rfl ?_); at_builtin; refine Kd.R_append_rows (Kd.int .u8) (w0 := w0) w0.heap.size rfl (.tmp 164) (.tmp 173) 22 5 (.int .u8 0) 1 rfl Tryz.underlying22 info5 rfl (by decide) (by omega) v127 y126 y135 _ _ _ (fun k_ => (P0_ k_ ∨ w.heap.size ≤ k_) ∧ some k_ ≠ (.slice Ao73 y135.length co73 : Value).ownBlock) (fun _ => False) rfl rfl ?aO ?aR (fun _ _ h => h) (fun _ h => h.elim) ?aF ?aB ?aS ?aL ?_; (case aR => exact zP (Kd.R_reads' HO137.out).2.2); (case aB => exact zB); (case aF => exact (fun k_ hk => ⟨(.inr (Nat.le_trans (by first | exact HK.out.1 | exact (show Kept w _ (fun k_ => P0_ k_) from by repeat (first | (with_reducible first | exact HK.out | apply Kept.alloc | apply Kept.drewN | apply Kept.drew) | exact HK.out)).1) hk)), Kd.fresh' (Kd.R_lt (zR HO137.out)) k_ hk⟩)); (case aO => exact (zR HO128.out)); (case aS => exact (below_size zB)); (case aL => have := LMc68.out; omega); intro v139 w72 ho hb hg hat; rw [← Ny138.out] at ho; have n0_ := Aside0.mk (Kd.R_after (ok := (fun k_ => (P0_ k_ ∨ w.heap.size ≤ k_))) (by (with_reducible repeat (first | apply Kd.R_alloc | apply Kd.R_drewN | apply Kd.R_drew)); exact Kd.R_mono HO137.out (fun _ hk => ⟨hk.1.1, hk.2⟩)) hg hat); have n1_ := Aside0.mk (hb); have n2_ := Aside0.mk (Kept.of_grown (S := (fun k_ => P0_ k_)) hg (by repeat (first | (with_reducible first | exact HK.out | apply Kept.alloc | apply Kept.drewN | apply Kept.drew) | exact HK.out)) (fun k_ e_ => (HO128.out.1 k_ e_).1)); have n3_ := Aside0.mk (ho); clear HO137; clear HB; clear HK; clear HO128; have HO137 := n0_; have HB := n1_; have HK := n2_; have HO140 := n3_; clear n0_ n1_ n2_ n3_; clear ho hb hg hat))
                        go_ret
                        exact ⟨_, by first | rfl | (refine congrArg Ending.returned (congrArg (Value.int .i64) (?_ : (0 : Int) = _)); decide +kernel) | (simp [errW_none, errW_some] <;> rfl) | (simp [*, errW_none, errW_some] <;> rfl), by (with_reducible repeat (first | apply Kd.R_alloc | apply Kd.R_drewN | apply Kd.R_drew)); exact Kd.R_mono HO140.out (fun _ hk => hk.1), by repeat (first | (with_reducible first | exact HB.out | apply below_alloc | apply pw_below_drewN | apply below_drew1) | exact HB.out), by repeat (first | (with_reducible first | exact HK.out | apply Kept.alloc | apply Kept.drewN | apply Kept.drew) | exact HK.out)⟩
                       ·rw [if_neg c68] at H
                        exact absurd H (by simp)
                      ·rw [if_neg c67] at H
                       have c67b0 := decide_eq_false c67
                       clear c67
                       obtain ⟨y141, hy141⟩ : ∃ y_ : List Int, y_ = (([(((wrap64 (Int.tdiv x22_56 100)) % 256) + 48) % 256, (((wrap64 (Int.tdiv x22_56 10)) % 256) % 10) + 48, (((Int.tmod x22_56 10) % 256) + 48) % 256] : List Int)) := ⟨_, rfl⟩
                       replace H : (if y126.length + y141.length < 140737488355328 then (some (y126 ++ y141)) else (none)) = some r := zT hy141 H
                       have Ny141 := Aside0.mk hy141
                       clear hy141
                       by_cases c74 : y126.length + y141.length < 140737488355328
                       ·rw [if_pos c74] at H
                        have LMc74 := Aside0.mk c74
                        clear c74
                        obtain ⟨y144, hy144⟩ : ∃ y_ : List Int, y_ = (y126 ++ y141) := ⟨_, rfl⟩
                        replace H : (some y144) = some r := zT hy144 H
                        have Ny144 := Aside0.mk hy144
                        clear hy144
                        obtain rfl := Option.some.inj H
                        go_wp2_with (first | ((with_reducible refine gate_builtin (b := .append) (xs := #[.tmp 132, .tmp 134]) rfl ?_); at_builtin; refine Kd.R_append (Kd.int .u8) (w0 := w0) w0.heap.size rfl (.tmp 132) (.tmp 134) 22 5 (.int .u8 0) 1 rfl Tryz.underlying22 info5 rfl (by decide) (by omega) v124 y123 x19_56 [.int .u8 x19_56] (fun k_ => (P0_ k_ ∨ w.heap.size ≤ k_)) (fun _ => False) rfl rfl ?aP (fun _ hk => hk.elim) ?aF ?aO ?aB ?aS ?aL ?_; (case aP => exact rfl); (case aB => exact zB); (case aF => exact (fun k_ hk => (.inr (Nat.le_trans (by first | exact HK.out.1 | exact (show Kept w _ (fun k_ => P0_ k_) from by repeat (first | (with_reducible first | exact HK.out | apply Kept.alloc | apply Kept.drewN | apply Kept.drew) | exact HK.out)).1) hk)))); (case aO => exact (zR HO_0.out)); (case aS => exact (below_size zB)); (case aL => have := LMc59.out; omega); intro v127 w75 ho hb hg hat; rw [← Ny126.out] at ho; have n0_ := Aside0.mk (hb); have n1_ := Aside0.mk (Kept.of_grown (S := (fun k_ => P0_ k_)) hg (by repeat (first | (with_reducible first | exact HK.out | apply Kept.alloc | apply Kept.drewN | apply Kept.drew) | exact HK.out)) (fun k_ e_ => (HO_0.out.1 k_ e_))); have n2_ := Aside0.mk (ho); clear HB; clear HK; clear HO_0; have HB := n0_; have HK := n1_; have HO128 := n2_; clear n0_ n1_ n2_; clear ho hb hg hat) | ((with_reducible refine gate_dst (N := 150) rfl ?_); refine Kd.R_lit (Kd.int .u8) _ 5 ?hg (N := 150) ?hd (xs := ([(((wrap64 (Int.tdiv x22_56 100)) % 256) + 48) % 256, (((wrap64 (Int.tdiv x22_56 10)) % 256) % 10) + 48, (((Int.tmod x22_56 10) % 256) + 48) % 256] : List Int)) (inner := [.int .u8 ((((wrap64 (Int.tdiv x22_56 100)) % 256) + 48) % 256), .int .u8 ((((wrap64 (Int.tdiv x22_56 10)) % 256) % 10) + 48), .int .u8 ((((Int.tmod x22_56 10) % 256) + 48) % 256)]) (ok := fun _ => True) (okp := fun _ => True) ?hr ?hp (fun _ hk => hk) trivial (Below.refl _ _) (Nat.le_refl _) (by simp) ?_; (case hd => rfl); (case hg => rfl); (case hr => first | (go_simp; done) | (go_simp; rfl)); (case hp => exact (Reps.one (show Kd.M (Kd.int .u8) _ _ _ ((((wrap64 (Int.tdiv x22_56 100)) % 256) + 48) % 256) [.int .u8 ((((wrap64 (Int.tdiv x22_56 100)) % 256) + 48) % 256)] from rfl) (Reps.one (show Kd.M (Kd.int .u8) _ _ _ ((((wrap64 (Int.tdiv x22_56 10)) % 256) % 10) + 48) [.int .u8 ((((wrap64 (Int.tdiv x22_56 10)) % 256) % 10) + 48)] from rfl) (Reps.one (show Kd.M (Kd.int .u8) _ _ _ ((((Int.tmod x22_56 10) % 256) + 48) % 256) [.int .u8 ((((Int.tmod x22_56 10) % 256) + 48) % 256)] from rfl) (Reps.none _ _))))); intro v142 w76 ho77 hb hg_ hnew_; clear hg_ hnew_; (first | rw [← Ny141.out] at ho77 | (simp only [Int.reduceToNat] at ho77; rw [← Ny141.out] at ho77)); have n0_ := Aside0.mk (Kd.R_elder' (zR HO128.out) (Kd.R_base ho77) hb); have n1_ := Aside0.mk (Kd.R_lower (Kd.R_new' (Kd.R_newM (M := fun k_ => (P0_ k_ ∨ w.heap.size ≤ k_)) ho77 (by first | exact HK.out.1 | exact (show Kept w _ (fun k_ => P0_ k_) from by repeat (first | (with_reducible first | exact HK.out | apply Kept.alloc | apply Kept.drewN | apply Kept.drew) | exact HK.out)).1) (fun k_ h_ => .inr h_)) (Kd.R_lt (zR HO128.out))) (below_size zB)); have n2_ := Aside0.mk (Kept.below (S := (fun k_ => P0_ k_)) (by repeat (first | (with_reducible first | exact HK.out | apply Kept.alloc | apply Kept.drewN | apply Kept.drew) | exact HK.out)) hb); have n3_ := Aside0.mk (below_step zB hb); clear HO128; clear HK; clear HB; have HO128 := n0_; have HO143 := n1_; have HK := n2_; have HB := n3_; clear n0_ n1_ n2_ n3_; clear hb ho77; obtain ⟨Ao79, co79, eo79⟩ := Kd.R_slice HO143.out; subst eo79) | ((with_reducible refine gate_builtin (b := .append) (xs := #[.tmp 136, .tmp 150]) rfl ?_); at_builtin; refine Kd.R_append_rows (Kd.int .u8) (w0 := w0) w0.heap.size rfl (.tmp 136) (.tmp 150) 22 5 (.int .u8 0) 1 rfl Tryz.underlying22 info5 rfl (by decide) (by omega) v127 y126 y141 _ _ _ (fun k_ => (P0_ k_ ∨ w.heap.size ≤ k_) ∧ some k_ ≠ (.slice Ao79 y141.length co79 : Value).ownBlock) (fun _ => False) rfl rfl ?aO ?aR (fun _ _ h => h) (fun _ h => h.elim) ?aF ?aB ?aS ?aL ?_; (case aR => exact zP (Kd.R_reads' HO143.out).2.2); (case aB => exact zB); (case aF => exact (fun k_ hk => ⟨(.inr (Nat.le_trans (by first | exact HK.out.1 | exact (show Kept w _ (fun k_ => P0_ k_) from by repeat (first | (with_reducible first | exact HK.out | apply Kept.alloc | apply Kept.drewN | apply Kept.drew) | exact HK.out)).1) hk)), Kd.fresh' (Kd.R_lt (zR HO143.out)) k_ hk⟩)); (case aO => exact (zR HO128.out)); (case aS => exact (below_size zB)); (case aL => have := LMc74.out; omega); intro v145 w78 ho hb hg hat; rw [← Ny144.out] at ho; have n0_ := Aside0.mk (Kd.R_after (ok := (fun k_ => (P0_ k_ ∨ w.heap.size ≤ k_))) (by (with_reducible repeat (first | apply Kd.R_alloc | apply Kd.R_drewN | apply Kd.R_drew)); exact Kd.R_mono HO143.out (fun _ hk => ⟨hk.1.1, hk.2⟩)) hg hat); have n1_ := Aside0.mk (hb); have n2_ := Aside0.mk (Kept.of_grown (S := (fun k_ => P0_ k_)) hg (by repeat (first | (with_reducible first | exact HK.out | apply Kept.alloc | apply Kept.drewN | apply Kept.drew) | exact HK.out)) (fun k_ e_ => (HO128.out.1 k_ e_).1)); have n3_ := Aside0.mk (ho); clear HO143; clear HB; clear HK; clear HO128; have HO143 := n0_; have HB := n1_; have HK := n2_; have HO146 := n3_; clear n0_ n1_ n2_ n3_; clear ho hb hg hat))
                        go_ret
                        exact ⟨_, by first | rfl | (refine congrArg Ending.returned (congrArg (Value.int .i64) (?_ : (0 : Int) = _)); decide +kernel) | (simp [errW_none, errW_some] <;> rfl) | (simp [*, errW_none, errW_some] <;> rfl), by (with_reducible repeat (first | apply Kd.R_alloc | apply Kd.R_drewN | apply Kd.R_drew)); exact Kd.R_mono HO146.out (fun _ hk => hk.1), by repeat (first | (with_reducible first | exact HB.out | apply below_alloc | apply pw_below_drewN | apply below_drew1) | exact HB.out), by repeat (first | (with_reducible first | exact HK.out | apply Kept.alloc | apply Kept.drewN | apply Kept.drew) | exact HK.out)⟩
                       ·rw [if_neg c74] at H
                        exact absurd H (by simp)
                    ·rw [if_neg c59] at H
                     exact absurd H (by simp)
               ·rw [if_neg c53] at H
                exact absurd H (by simp)
            ·rw [if_neg c36] at H
             exact absurd H (by simp)
       ·rw [if_neg c28] at H
        cases H
end Go.Proofs.YtkjpelgdppmbjaaGreatDoor.FE
namespace Go.Proofs.YtkjpelgdppmbjaaGreatDoor.FE
open Go.RowKit YtkjpelgdppmbjaaGreatDoorW.PrintWords YtkjpelgdppmbjaaGreatDoorW.PrintLast YtkjpelgdppmbjaaGreatDoorW.PrintMore CB FT
theorem ev_const {α : Type} {x : Option α} {r : α} (h : x = some r) : Ev (fun _ => x) r := by rw [h]; exact Ev.now r
theorem ev_if {α : Type} {c : Prop} [Decidable c] {f g : Nat → Option α} {r : α} (h : c) (k : Ev f r) : Ev (fun n => if c then f n else g n) r := Ev.congr (fun _ => if_pos h) k
theorem ev_else {α : Type} {c : Prop} [Decidable c] {f g : Nat → Option α} {r : α} (h : ¬ c) (k : Ev g r) : Ev (fun n => if c then f n else g n) r := Ev.congr (fun _ => if_neg h) k

def ints (l : List UInt8) : List Int := l.map fun b => (b.toNat : Int)
theorem ints_append (a b : List UInt8) : ints (a ++ b) = ints a ++ ints b := List.map_append
theorem ints_figB {ds : List Nat} (h : ∀ d ∈ ds, d < 10) : ints (figB ds) = ds.map fun d => ((48 + d : Nat) : Int) := by
 unfold ints figB
 rw [List.map_map]
 apply List.map_congr_left
 intro d hd
 show ((UInt8.ofNat (48 + d)).toNat : Int) = _
 rw [figB_toNat (h d hd)]
theorem ints_zeros (z : Nat) : ints (List.replicate z 48) = List.replicate z (48 : Int) := by
 unfold ints
 rw [List.map_replicate]; rfl
theorem efg_exp (x0 : List Int) (m : Nat) (c : Int) (hx : x0.length ≤ 100000) (hm : m < 1000) : Ev (fun k => strconv_fmtEFG.j13 k x0 c (m : Int)) (x0 ++ c :: (expFigs m).map fun d => ((48 + d : Nat) : Int)) := by
 refine Ev.step (fun k => rfl) (ev_if (by omega) (Ev.bind (Ev.now _) ?_))
 unfold expFigs
 by_cases h1 : m < 10
 ·refine ev_if (by omega) (Ev.bind (Ev.now _) (ev_if (by simp; omega) ?_))
  rw [if_pos h1, List.append_assoc]
  have e : (((m : Int) % 256) + 48) % 256 = ((48 + m : Nat) : Int) := by omega
  rw [e]
  exact Ev.now _
 ·refine ev_else (by omega) ?_
  rw [if_neg h1]
  by_cases h2 : m < 100
  ·refine ev_if (by omega) (Ev.bind (Ev.now _) (ev_if (by simp; omega) ?_))
   rw [if_pos h2, List.append_assoc]
   have e1 : (((wrap64 (Int.tdiv (m : Int) 10)) % 256) + 48) % 256 = ((48 + m / 10 : Nat) : Int) := by rw [tdivN (by omega), w64 (by omega) (by omega)]; omega
   have e2 : (((Int.tmod (m : Int) 10) % 256) + 48) % 256 = ((48 + m % 10 : Nat) : Int) := by rw [tmodN (by omega)]; omega
   rw [e1, e2]
   exact Ev.now _
  ·refine ev_else (by omega) (Ev.bind (Ev.now _) (ev_if (by simp; omega) ?_))
   rw [if_neg h2, List.append_assoc]
   have e1 : (((wrap64 (Int.tdiv (m : Int) 100)) % 256) + 48) % 256 = ((48 + m / 100 : Nat) : Int) := by rw [tdivN (by omega), w64 (by omega) (by omega)]; omega
   have e3 : (((wrap64 (Int.tdiv (m : Int) 10)) % 256) % 10) + 48 = ((48 + m / 10 % 10 : Nat) : Int) := by rw [tdivN (by omega), w64 (by omega) (by omega)]; omega
   have e2 : (((Int.tmod (m : Int) 10) % 256) + 48) % 256 = ((48 + m % 10 : Nat) : Int) := by rw [tmodN (by omega)]; omega
   rw [e1, e2, e3]
   exact Ev.now _
theorem efg_j12 (x0 : List Int) (e : Int) (hx : x0.length ≤ 100000) (he : e.natAbs < 1000) : Ev (fun k => strconv_fmtEFG.j12 k x0 e) (x0 ++ ints (expB e)) := by
 unfold expB
 have hi : ∀ c : UInt8, ints (c :: figB (expFigs e.natAbs)) = (c.toNat : Int) :: (expFigs e.natAbs).map fun d => ((48 + d : Nat) : Int) := fun c => by rw [← ints_figB (expFigs_ten he)]; rfl
 rw [hi]
 by_cases h : e < 0
 ·rw [if_pos h]
  refine Ev.step (fun k => rfl) (ev_if h ?_)
  have h2 := efg_exp x0 e.natAbs 45 hx he
  rw [show wrap64 (-e) = ((e.natAbs : Nat) : Int) by rw [w64 (by omega) (by omega)]; omega]
  exact h2
 ·rw [if_neg h]
  refine Ev.step (fun k => rfl) (ev_else h ?_)
  have h2 := efg_exp x0 e.natAbs 43 hx he
  rw [show ((e.natAbs : Nat) : Int) = e by omega] at h2
  exact h2
theorem efg_j11 (x0 : List Int) (e : Int) (n : Nat) (hn : n ≠ 0) (hx : x0.length ≤ 90000) (he : e.natAbs < 1000) : Ev (fun k => strconv_fmtEFG.j11 k x0 (e + 1) (n : Int) 101) (x0 ++ 101 :: ints (expB e)) := by
 have h := efg_j12 (x0 ++ [101]) e (by simp; omega) he
 rw [List.append_assoc] at h
 refine Ev.step (fun k => eq_j11 k ..) (ev_if (by omega) (Ev.bind (Ev.now _) (ev_else (by omega) ?_)))
 rw [show wrap64 (e + 1 - 1) = e by rw [w64 (by omega) (by omega)]; omega]
 exact h
theorem efg_l0 (e : Int) (n : Nat) (hn : n ≠ 0) (he : e.natAbs < 1000) : ∀ (t i : Nat) (x0 : List Int), x0.length + t ≤ 80000 → i + t ≤ 80000 →
  Ev (fun k => strconv_fmtEFG.l0 k x0 (e + 1) (n : Int) 101 ((i + t : Nat) : Int) (i : Int)) (x0 ++ (List.replicate t 48 ++ 101 :: ints (expB e))) := by
 intro t
 induction t with
 | zero =>
  intro i x0 h1 h2
  refine Ev.step (fun k => rfl) (ev_else (by omega) ?_)
  exact efg_j11 x0 e n hn (by omega) he
 | succ t ih =>
  intro i x0 h1 h2
  refine Ev.step (fun k => rfl) (ev_if (by omega) (ev_if (by omega) ?_))
  have h3 := ih (i + 1) (x0 ++ [48]) (by simp; omega) (by omega)
  rw [List.append_assoc] at h3
  rw [show wrap64 ((i : Int) + 1) = ((i + 1 : Nat) : Int) by rw [w64 (by omega) (by omega)]; rfl, show i + (t + 1) = i + 1 + t by omega]
  exact h3
theorem efg_text {d : Nat} {r : List Nat} {z : Nat} {e : Int} {l2 : List Int} (sh : Bool) (h : ∀ x ∈ d :: r, x < 10) (hl : r.length + 1 ≤ l2.length) (hd : rd l2 0 = ((48 + d : Nat) : Int)) (hr : (l2.take (r.length + 1)).drop 1 = r.map fun x => ((48 + x : Nat) : Int)) (hz : r.length + z ≤ 70000) (h0 : ¬ r.length + z = 0) (he : e.natAbs < 1000) :
  Ev (fun k => strconv_fmtEFG.f k [] false l2 (e + 1) ((r.length + 1 : Nat) : Int) ((r.length + z : Nat) : Int) 101 sh) (ints (floatB (d :: r) z e)) := by
 have hr10 : ∀ x ∈ r, x < 10 := fun x hx => h x (List.mem_cons_of_mem _ hx)
 have hd10 : d < 10 := h d (List.mem_cons_self ..)
 have hfl : ints (floatB (d :: r) z e) = ((48 + d : Nat) : Int) :: ((if r.length + z = 0 then [] else 46 :: ((r.map fun x => ((48 + x : Nat) : Int)) ++ List.replicate z 48)) ++ 101 :: ints (expB e)) := by
  unfold floatB mantB
  rw [ints_append]
  have e1 : ints (101 :: expB e) = 101 :: ints (expB e) := rfl
  have e2 : ∀ l, ints (UInt8.ofNat (48 + d) :: l) = ((48 + d : Nat) : Int) :: ints l := fun l => by
   show ((UInt8.ofNat (48 + d)).toNat : Int) :: ints l = _
   rw [figB_toNat hd10]
  rw [e1, e2]
  split
  ·rfl
  ·have e3 : ∀ l, ints (46 :: l) = 46 :: ints l := fun l => rfl
   rw [e3, ints_append, ints_figB hr10, ints_zeros]; rfl
 rw [hfl]
 unfold strconv_fmtEFG.f
 have hn0 : ((r.length + 1 : Nat) : Int) ≠ 0 := by omega
 refine ev_else (by decide) ?_
 refine Ev.step (fun k => eq_j0 k ..) (ev_else (by decide) ?_)
 refine Ev.step (fun k => eq_j5 k ..) (ev_if rfl ?_)
 refine Ev.step (fun k => eq_j6 k ..) (ev_if rfl (ev_else (by decide) ?_))
 refine Ev.step (fun k => eq_j7 k ..) (ev_else hn0 (ev_if (by omega) ?_))
 refine Ev.step (fun k => eq_j8 k ..) (ev_if (by decide) (Ev.bind (Ev.now _) ?_))
 rw [hd]
 rw [if_neg h0]
 refine ev_if (by omega) (ev_if (by simp) (Ev.bind (Ev.now _) ?_))
 have hmn : mn ((r.length + 1 : Nat) : Int) (wrap64 (((r.length + z : Nat) : Int) + 1)) = ((r.length + 1 : Nat) : Int) := by
  rw [w64 (by omega) (by omega)]
  unfold mn
  exact if_neg (by omega)
 rw [hmn]
 by_cases h1 : r = []
 ·subst h1
  refine ev_else (by simp) (Ev.step (fun k => eq_j9 k ..) ?_)
  have h2 := efg_l0 e 1 (by omega) he z 0 [((48 + d : Nat) : Int), 46] (by simp at hz ⊢; omega) (by simp at hz; omega)
  have hw : wrap64 (wrap64 (((([] : List Nat).length + z : Nat) : Int) + 1) - 1) = ((0 + z : Nat) : Int) := by
   have hz2 : z ≤ 70000 := by simpa using hz
   rw [show (([] : List Nat).length + z) = z from Nat.zero_add z, w64 (x := ((z : Int) + 1)) (by omega) (by omega), w64 (by omega) (by omega)]; omega
  rw [hw]
  simpa using h2
 ·have hr1 : 1 ≤ r.length := List.length_pos_iff.2 h1
  refine ev_if (by omega) (ev_if (by omega) (ev_if (by omega) (Ev.bind (Ev.now _) ?_)))
  rw [Int.toNat_natCast, hr]
  refine ev_if (by simp; omega) (Ev.step (fun k => eq_j9 k ..) ?_)
  have h2 := efg_l0 e (r.length + 1) (by omega) he z 0 ([((48 + d : Nat) : Int), 46] ++ r.map fun x => ((48 + x : Nat) : Int)) (by simp; omega) (by omega)
  have hw : wrap64 (wrap64 (((r.length + z : Nat) : Int) + 1) - ((r.length + 1 : Nat) : Int)) = ((0 + z : Nat) : Int) := by
   rw [w64 (x := (((r.length + z : Nat) : Int) + 1)) (by omega) (by omega), w64 (by omega) (by omega)]; omega
  rw [hw]
  simpa using h2
theorem efg_one {d : Nat} {e : Int} {l2 : List Int} (sh : Bool) (hd10 : d < 10) (hl : 1 ≤ l2.length) (hd : rd l2 0 = ((48 + d : Nat) : Int)) (he : e.natAbs < 1000) :
  Ev (fun k => strconv_fmtEFG.f k [] false l2 (e + 1) ((1 : Nat) : Int) ((0 : Nat) : Int) 101 sh) (ints (floatB [d] 0 e)) := by
 have hfl : ints (floatB [d] 0 e) = ((48 + d : Nat) : Int) :: 101 :: ints (expB e) := by
  show ((UInt8.ofNat (48 + d)).toNat : Int) :: ints (101 :: expB e) = _
  rw [figB_toNat hd10]; rfl
 rw [hfl]
 unfold strconv_fmtEFG.f
 refine ev_else (by decide) ?_
 refine Ev.step (fun k => eq_j0 k ..) (ev_else (by decide) ?_)
 refine Ev.step (fun k => eq_j5 k ..) (ev_if rfl ?_)
 refine Ev.step (fun k => eq_j6 k ..) (ev_if rfl (ev_else (by decide) ?_))
 refine Ev.step (fun k => eq_j7 k ..) (ev_else (by decide) (ev_if (by omega) ?_))
 refine Ev.step (fun k => eq_j8 k ..) (ev_if (by decide) (Ev.bind (Ev.now _) ?_))
 rw [hd]
 refine ev_else (by decide) ?_
 exact efg_j11 [((48 + d : Nat) : Int)] e 1 (by omega) (by simp) he
end Go.Proofs.YtkjpelgdppmbjaaGreatDoor.FE
namespace Go.Proofs.YtkjpelgdppmbjaaGreatDoor.SF
open Go.RowKit YtkjpelgdppmbjaaGreatDoorW.PrintWords CB

theorem bits_in (x : Nat) (W : World) : (callFunc 189 #[.float .f64 x]).run Tryz.prog W = .ok (.value (.int .u64 x)) W := by
 rw [run_callFunc_extern Tryz.func189 (by kernel_rfl) (by kernel_rfl) (by kernel_rfl) (e := Extern.MathFloatBits.float64bits) (by kernel_rfl)]; rfl
theorem exp_field {x F : Nat} (hF : x / 4503599627370496 = F) (h : F < 2048) : Go.bits .and .i64 ((x : Int) / 4503599627370496) 2047 = (F : Int) := by
 have e : (x : Int) / 4503599627370496 = ((F : Nat) : Int) := by omega
 rw [e]; exact exp_and F h
theorem mant_top {m : Nat} (h : m < 4503599627370496) : Go.bits .or .u64 (m : Int) 4503599627370496 = ((m + 4503599627370496 : Nat) : Int) := by
 have h1 := or_u64 m 4503599627370496 (by omega) (by omega)
 have h2 : m ||| 4503599627370496 = m + 4503599627370496 := by
  have := Nat.two_pow_add_eq_or_of_lt (i := 52) (b := m) (by omega) 1
  rw [show 2 ^ 52 * 1 = 4503599627370496 from rfl] at this
  rw [Nat.or_comm, ← this, Nat.add_comm]
 rw [h2] at h1
 exact h1
structure Fmt (u : Value) (R : Value → World → Prop) (w : World) (mt : Nat) (e : Int) : Prop where mk ::
 out : ∀ w1 f ds q, Arr w1 w.heap.size f → Dec f ds q false false → Good ds → Val ds q mt e 0 → Below w.heap.size w w1 →
  Calls Tryz.prog 192 #[u, .bool false, .slice (some ⟨w.heap.size, 0, none⟩) 800 800, .int .i64 q, .int .i64 ds.length, .int .i64 800, .int .u8 101, .bool false] w1 fun e w' => ∃ v, e = .returned v ∧ R v w'
structure At1 (w w1 : World) (mt : Nat) : Prop where mk ::
 out : ∃ f ds q, Arr w1 w.heap.size f ∧ Dec f ds q false false ∧ Good ds ∧ Val ds q mt 0 0 ∧ ds.length ≤ 20 ∧ 1 ≤ q ∧ q ≤ 20
 bel : Below w.heap.size w w1
structure At2 (w w1 : World) (mt : Nat) (e : Int) : Prop where mk ::
 out : ∃ f ds q, Arr w1 w.heap.size f ∧ Dec f ds q false false ∧ Good ds ∧ Val ds q mt e 0
 bel : Below w.heap.size w w1
open YtkjpelgdppmbjaaGreatDoorW.PrintLast YtkjpelgdppmbjaaGreatDoorW.PrintMore FT FE
attribute [local go_sem] max2_int min2_int max_two min_two max_three min_three max_four min_four

theorem str_ints (l : List UInt8) : strOfNums (ints l) = ⟨l.toArray⟩ := by
 apply ba_ext
 unfold strOfNums ints
 simp only [List.map_map]
 have : ∀ l : List UInt8, l.map ((fun n : Int => UInt8.ofNat n.toNat) ∘ fun b : UInt8 => (b.toNat : Int)) = l := by
  intro l
  conv => rhs; rw [← List.map_id l]
  apply List.map_congr_left
  intro b _
  simp
 simpa using this l
structure Shown (w : World) (mt : Nat) (e : Int) (v : Value) (w' : World) : Prop where mk ::
 out : ∃ ds q ok, Kd.R (Kd.int .u8) 5 w' w.heap.size ok v (ints (floatB ds (801 - ds.length) (q - 1))) ∧ Good ds ∧ (∀ i, ds.getD i 0 < 10) ∧ ds.length ≤ 800 ∧ Val ds q mt e 0 ∧ (q - 1).natAbs < 1000
 bel : Below w.heap.size w w'
theorem row0 (w : World) (c : Nat) (hc : c ≤ maxLen) : Kd.R (Kd.int .u8) 5 (w.alloc (.cells (madeCells #[.int .u8 0] c) 5)) w.heap.size (fun k => k = w.heap.size) (.slice (some ⟨w.heap.size, 0, none⟩) 0 c) [] := by
 refine ⟨fun k hk => ?_, [], World.ownsRow_made w _ c (Nat.le_refl _) hc ?_, Reps.none _ _⟩
 ·have : w.heap.size = k := by simpa [Value.ownBlock] using hk
  exact this.symm
 ·rw [size_madeCells]; exact (Nat.mul_one _).symm
theorem cell_in {w : World} {b o : Nat} {s : Option Nat} {v : Value} (h : w.cell? ⟨b, o, s⟩ = some v) : b < w.heap.size := by
 rcases Nat.lt_or_ge b w.heap.size with h1 | h1
 ·exact h1
 ·exfalso
  have : w.heap[b]? = none := Array.getElem?_eq_none h1
  simp [World.cell?, this] at h
structure Told (w : World) (mt : Nat) (e : Int) (r : Ending) (w' : World) : Prop where mk ::
 out : ∃ ds q, r = .returned (.string (floatT ds (801 - ds.length) (q - 1))) ∧ Good ds ∧ (∀ i, ds.getD i 0 < 10) ∧ ds.length ≤ 800 ∧ Val ds q mt e 0 ∧ (q - 1).natAbs < 1000
 bel : Below w.heap.size w w'
theorem show_string {w w' : World} {ok : Nat → Prop} {v : Value} {l : List UInt8} (h : Kd.R (Kd.int .u8) 5 w' w.heap.size ok v (ints l)) : (convert 22 9 v).run Tryz.prog w' = .ok (.string ⟨l.toArray⟩) w' := by
 rw [← str_ints]
 exact own_string Tryz.underlying22 Tryz.underlying5 Tryz.underlying9 (Kd.own_of_R (enc := Value.int .u8) (h1 := fun _ => rfl) h)
end Go.Proofs.YtkjpelgdppmbjaaGreatDoor.SF
namespace Go.Proofs.YtkjpelgdppmbjaaGreatDoor.SF
open Go.RowKit YtkjpelgdppmbjaaGreatDoorW.PrintWords CB FT CG
open Go.Proofs.YtkjpelgdppmbjaaGreatDoor.Pure (decN)

structure Fome (w : World) (B : Nat) : Prop where mk ::
 cheats : Cheats w B
 oblk : 4 < B
 opt : w.cell? ⟨4, 0, none⟩ = some (.bool true)
structure Word (y m : Nat) (e : Int) : Prop where mk ::
 eq : y = (e + 1074).toNat * 4503599627370496 + m
 ne : m ≠ 0
 lt : m < 9007199254740992
 lo : -1074 ≤ e
 hi : e ≤ 971
 full : e ≠ -1074 → 4503599627370496 ≤ m
theorem real_calls (x : Nat) (w : World) : Calls Tryz.prog 93 #[.int .u64 x] w fun e w' => e = .returned (.float .f64 x) ∧ w = w' := by
 have hc : ∀ W, (callFunc 135 #[.int .u64 (x : Int)]).run Tryz.prog W = .ok (.value (.float .f64 x)) W := fun W => by
  rw [run_callFunc_extern Tryz.func135 (by kernel_rfl) (by kernel_rfl) (by kernel_rfl) (e := Extern.MathFloatBits.float64frombits) (by kernel_rfl)]; rfl
 go_enter Tryz.func93, Tryz.ntmps93
 go_wp2
 go_ret
 exact ⟨rfl, rfl⟩
theorem abs_bits (x : Nat) (hx : x < 18446744073709551616) : Go.bits .andNot .u64 (x : Int) 9223372036854775808 = ((x % 9223372036854775808 : Nat) : Int) := by
 have h := u64_andNot_nat x 9223372036854775808 hx (by omega)
 have e1 : ((9223372036854775808 : Nat) : Int) = 9223372036854775808 := rfl
 rw [e1, show 18446744073709551615 - 9223372036854775808 = 2 ^ 63 - 1 from rfl, mask, show (2 : Nat) ^ 63 = 9223372036854775808 from rfl] at h
 exact h
theorem abs_calls (x : Nat) (w : World) (hx : x < 18446744073709551616) : Calls Tryz.prog 92 #[.float .f64 x] w fun e w' => e = .returned (.float .f64 (x % 9223372036854775808)) ∧ w = w' := by
 have h1 : ∀ W, (callFunc 84 #[.float .f64 x]).run Tryz.prog W = .ok (.value (.int .u64 x)) W := fun W => by
  rw [run_callFunc_extern Tryz.func84 (by kernel_rfl) (by kernel_rfl) (by kernel_rfl) (e := Extern.MathFloatBits.float64bits) (by kernel_rfl)]; rfl
 have h2 : ∀ W, (callFunc 135 #[.int .u64 ((x : Int) % 9223372036854775808)]).run Tryz.prog W = .ok (.value (.float .f64 (x % 9223372036854775808))) W := fun W => by
  rw [run_callFunc_extern Tryz.func135 (by kernel_rfl) (by kernel_rfl) (by kernel_rfl) (e := Extern.MathFloatBits.float64frombits) (by kernel_rfl)]
  have : ((x : Int) % 9223372036854775808).toNat = x % 9223372036854775808 := by omega
  rw [← this]; rfl
 have h3 := abs_bits x hx
 go_enter Tryz.func92, Tryz.ntmps92
 go_wp2
 go_ret
 exact ⟨rfl, rfl⟩
theorem cut_in (T M X : ByteArray) (i : Nat) (w : World) (h : Lib.indexByte T.data.toList 101 = i) (hi : i < T.size) (hM : T.extract 0 i = M) (hX : T.extract (i + 1) T.size = X) (hs : T.size ≤ 9223372036854775807) :
  Calls Tryz.prog 136 #[.string T, .string ⟨#[101]⟩] w fun e w' => e = .returned (.tuple #[.string M, .string X, .bool true]) ∧ ∃ n, w' = w.drewN n := by
 have c1 : (0 : Int) ≤ (i : Int) := by omega
 have c2 : (i : Int) ≤ (T.size : Int) := by omega
 have c3 : (0 : Int) ≤ (i : Int) + 1 := by omega
 have c4 : (i : Int) + 1 ≤ (T.size : Int) := by omega
 have hIX := Lib.hid (fun W => by have := Tryz.stringslite_Index_one T 101 W; rw [h] at this; exact this)
 clear h
 go_enter Tryz.func136, Tryz.ntmps136
 go_wp2_with (go_at_call 166; refine (hIX.out _).mono ?_; rintro e w' ⟨rfl, rfl⟩)
 go_region
 go_wp2
 go_ret3
 exact ⟨by rw [← hM, ← hX]; rfl, 1, rfl⟩
theorem cut_calls (T M X : ByteArray) (i : Nat) (w : World) (h : Lib.indexByte T.data.toList 101 = i) (hi : i < T.size) (hM : T.extract 0 i = M) (hX : T.extract (i + 1) T.size = X) (hs : T.size ≤ 9223372036854775807) :
  Calls Tryz.prog 94 #[.string T, .string ⟨#[101]⟩] w fun e w' => e = .returned (.tuple #[.string M, .string X, .bool true]) ∧ ∃ n, w' = w.drewN n := by
 have hIN := Lib.hid (fun W => cut_in T M X i W h hi hM hX hs)
 clear h hM hX
 go_enter Tryz.func94, Tryz.ntmps94
 go_wp2_with (go_at_call 136; refine (hIN.out _).mono ?_; rintro e w' ⟨rfl, ⟨n, rfl⟩⟩)
 go_ret3
 exact ⟨rfl, n, rfl⟩
open CR CF
open Go.Proofs.YtkjpelgdppmbjaaGreatDoor.Pure (decN)

structure Sci (T : ByteArray) (u n : Nat) (ev : Int) : Prop where mk ::
 out : ∃ (M X A B C : ByteArray) (i : Nat), Lib.indexByte T.data.toList 101 = i ∧ i < T.size ∧ T.extract 0 i = M ∧ T.extract (i + 1) T.size = X ∧ X.size ≤ 18 ∧ Lib.atoi X.data.toList = some ev ∧ 1 ≤ M.size ∧ M.extract 0 1 = A ∧ M.extract 1 M.size = B ∧
  (⟨(Lib.trimPrefix B.data.toList (⟨#[46]⟩ : ByteArray).data.toList).toArray⟩ : ByteArray) = C ∧ (⟨(Lib.trimRightB (A ++ C).data.toList 48).toArray⟩ : ByteArray) = decN u ∧ (decN u).size = n ∧ (A ++ C).size ≤ 100000 ∧ T.size ≤ 100000
theorem sci_ok {ds : List Nat} {z : Nat} {e : Int} (h : ∀ x ∈ ds, x < 10) (h0 : ds.getD 0 0 ≠ 0) (hl : ds.getLast? ≠ some 0) (hn : ds.length ≤ 1000) (hz : z ≤ 1000) (he : e.natAbs < 1000) : Sci (floatT ds z e) (numL ds) ds.length e := by
 have hne : ds ≠ [] := fun e => by subst e; simp at h0
 obtain ⟨d, r, rfl⟩ := List.exists_cons_of_ne_nil hne
 have hml := mantB_len (z := z) hne
 have hm1 : 1 ≤ (mantB (d :: r) z).length := by rw [hml]; simp; omega
 have hm2 : (mantB (d :: r) z).length ≤ 3000 := by
  rw [hml]
  simp only [List.length_cons] at hn ⊢
  split <;> omega
 have hel := expB_len e
 have hts := floatT_size (d :: r) z e
 have hr10 : ∀ x ∈ r, x < 10 := fun x hx => h x (List.mem_cons_of_mem _ hx)
 have hfig := sci_figs (z := z) h h0 hl
 have hac : ((⟨#[UInt8.ofNat (48 + d)]⟩ : ByteArray) ++ (⟨(Lib.trimPrefix ((mantB (d :: r) z).drop 1) [46]).toArray⟩ : ByteArray)).size ≤ 100000 := by
  rw [mant_rest hr10]
  simp only [List.length_cons] at hn
  rw [ByteArray.size_append]
  show 1 + (figB r ++ List.replicate z 48).toArray.size ≤ 100000
  simp [figB]; omega
 refine ⟨⟨(mantB (d :: r) z).toArray⟩, ⟨(expB e).toArray⟩, ⟨#[UInt8.ofNat (48 + d)]⟩, ⟨((mantB (d :: r) z).drop 1).toArray⟩, _, (mantB (d :: r) z).length, floatB_index h, by omega, floatT_mant _ _ _, floatT_exp _ _ _, ?_, expB_atoi he, ?_, mant_first _ _ _, mant_behind _ _ _, rfl, hfig, ?_, hac, by omega⟩
 ·show (expB e).toArray.size ≤ 18
  simp; omega
 ·show 1 ≤ (mantB (d :: r) z).toArray.size
  simpa using hm1
 ·rw [← figs_decN h h0]
  show (figB (d :: r)).toArray.size = _
  simp [figB]
structure Just (x u : Nat) (f : Int) : Prop where mk ::
 last : u % 10 ≠ 0
 out : ∃ s M e, Ieee.double.read x = .number s M e ∧ M ≠ 0 ∧ u * 10 ^ f.toNat * 2 ^ (-e).toNat = M * 2 ^ e.toNat * 10 ^ (-f).toNat
theorem word_of {x m : Nat} {s : Bool} {e : Int} (hx : x < 18446744073709551616) (h : Ieee.double.read x = .number s m e) (hm : m ≠ 0) : Word (x % 9223372036854775808) m e := by
 obtain ⟨h1, h2, h3, h4, h5, h6, _⟩ := read_num hx h
 refine ⟨?_, hm, h2, h3, h4, h5⟩
 have hlt : (e + 1074).toNat * 4503599627370496 + m < 9223372036854775808 := by omega
 rw [h6]
 unfold enc
 split <;> omega
theorem good_last {ds : List Nat} (hg : Good ds) : ds.getLast? ≠ some 0 := by
 obtain ⟨l, d, rfl, h⟩ := hg.last
 rw [List.getLast?_append, List.getLast?_singleton]
 intro hc
 exact h (Option.some.inj hc)
end Go.Proofs.YtkjpelgdppmbjaaGreatDoor.SF
