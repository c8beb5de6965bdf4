/- The tokens of a drawn program stand in order. -/
import Derived.Test.YtfoekmfpcahmiabGreatDoorSQMFnTokensx16
namespace Go.Proofs.YtfoekmfpcahmiabGreatDoor.Pure
set_option linter.unusedVariables false
open Go.RowKit MFnTokens YtfoekmfpcahmiabGreatDoorW.PrintWords YtfoekmfpcahmiabGreatDoorW.PrintLast CB
open Go.Proofs.YtfoekmfpcahmiabGreatDoor
--drop repeat48 show_told
theorem Zaz {α : Type} {x : Option α} {r : α} (h : x = some r) : Ev (fun _ => x) r:=by rw [h];exact Ev.now r
theorem Zaj {α : Type} {c : Prop} [Decidable c] {f g : Nat → Option α} {r : α} (h : c) (k : Ev f r) : Ev (fun n => if c then f n else g n) r:=Ev.congr (fun _ => if_pos h) k
theorem Zai {α : Type} {c : Prop} [Decidable c] {f g : Nat → Option α} {r : α} (h : ¬ c) (k : Ev g r) : Ev (fun n => if c then f n else g n) r:=Ev.congr (fun _ => if_neg h) k
theorem wsum {a b : Nat} (h : a + b < 9223372036854775807) : wrap64 ((a : Int) + (b : Int)) = ((a + b : Nat) : Int):=by rw [w64 zo zo];omega
theorem Zbr {t : ByteArray} {X Y : List UInt8} {b : UInt8} (h : t.data.toList = X ++ b :: Y) : X.length < t.size ∧ bt t (X.length : Int) = (b.toNat : Int):=by
 (have hl : t.size = X.length + (Y.length + 1):=by rw [← size_data,h,List.length_append,List.length_cons]);(have h1 : X.length < t.size:=by omega);refine ⟨h1,?_⟩;rw [ZdN t X.length h1];(have h2 : t.data.toList[X.length]? = some b:=by rw [h,List.getElem?_append_right (Nat.le_refl _),Nat.sub_self];rfl);rw [List.getElem?_eq_getElem (by rw [size_data];exact h1)] at h2;rw [Option.some.inj h2]
def dgN : List UInt8 → Nat
 | [] => 0
 | b :: r => if 48 ≤ b.toNat ∧ b.toNat ≤ 57 then dgN r + 1 else 0
theorem ZcH : ∀ L : List UInt8,dgN L ≤ L.length
  | [] => Nat.le_refl _
  | b :: r => by
    have:=ZcH r
    unfold dgN
    rw [List.length_cons]
    split <;> omega
theorem Zg5 (k : Nat) (x0 : ByteArray) (x1 : Int) (x5 : Int) : Zan.l0 (k + 1) x0 x1 x5 = if (wrap64 (x1 + x5)) < (x0.size : Int) then (if 0 ≤ (wrap64 (x1 + x5)) then ((ZaR.f (bt x0 (wrap64 (x1 + x5)))).bind fun t259 => (if t259 = true then (Zan.l0 k x0 x1 (wrap64 (x5 + 1))) else (some x5))) else (none)) else (some x5):=rfl
theorem ZgQ (k : Nat) (x0 : ByteArray) (x1 : Int) (x5 : Int) : ZaD.l0 (k + 1) x0 x1 x5 = if (wrap64 (x1 + x5)) < (x0.size : Int) then (if 0 ≤ (wrap64 (x1 + x5)) then (if (bt x0 (wrap64 (x1 + x5))) ≥ 48 then (if (bt x0 (wrap64 (x1 + x5))) ≤ 57 then (ZaD.l0 k x0 x1 (wrap64 (x5 + 1))) else (some x5)) else (some x5)) else (none)) else (some x5):=rfl
theorem Zgm (a : Int) : ZaR.f a = some (decide (48 ≤ a ∧ a ≤ 57)):=by
 unfold ZaR.f;by_cases h : a ≥ 48
 ·rw [if_pos h];simp;omega
 ·rw [if_neg h];simp;omega
theorem ZeB (a : Int) : Za1.f a = some (decide (48 ≤ a ∧ a ≤ 57)):=by
 unfold Za1.f;by_cases h : a ≥ 48
 ·rw [if_pos h];simp;omega
 ·rw [if_neg h];simp;omega
theorem Zoy {t : ByteArray} {A : List UInt8} (hs : t.size ≤ 1000) : ∀ (L B : List UInt8),t.data.toList = A ++ (B ++ L) → Ev (fun k => Zan.l0 k t (A.length : Int) (B.length : Int)) ((B.length + dgN L : Nat) : Int):=by
 intro L
 induction L with
 | nil =>
  intro B h;(have hl : t.size = A.length + B.length:=by rw [← size_data,h];simp);refine Ev.step (fun k => Zg5 k ..) ?_;rw [wsum zo];exact Zai zo (Ev.now _)
 | cons b r ih =>
  intro B h;(have hl : t.size = A.length + (B.length + (r.length + 1)):=by rw [← size_data,h];simp);(have h2 : t.data.toList = (A ++ B) ++ b :: r:=by rw [h];simp);obtain ⟨h3,h4⟩:=Zbr h2;refine Ev.step (fun k => Zg5 k ..) ?_;rw [wsum zo,← List.length_append];refine Zaj zo (Zaj zo ?_);rw [h4];refine Ev.bind (Zaz (Zgm _)) ?_;unfold dgN;by_cases c : 48 ≤ b.toNat ∧ b.toNat ≤ 57
  ·have h5:=ih (B ++ [b]) (by rw [h];simp);rw [List.length_append,List.length_singleton] at h5;rw [if_pos c,w64s zo,show B.length + (dgN r + 1) = B.length + 1 + dgN r by omega];exact Zaj (decide_eq_true ⟨by omega,by omega⟩) h5
  ·rw [if_neg c];exact Zai (by rw [decide_eq_true_iff];omega) (Ev.now _)
theorem Zn1 {t : ByteArray} {A : List UInt8} (hs : t.size ≤ 1000) : ∀ (L B : List UInt8),t.data.toList = A ++ (B ++ L) → Ev (fun k => ZaD.l0 k t (A.length : Int) (B.length : Int)) ((B.length + dgN L : Nat) : Int):=by
 intro L
 induction L with
 | nil =>
  intro B h;(have hl : t.size = A.length + B.length:=by rw [← size_data,h];simp);refine Ev.step (fun k => ZgQ k ..) ?_;rw [wsum zo];exact Zai zo (Ev.now _)
 | cons b r ih =>
  intro B h;(have hl : t.size = A.length + (B.length + (r.length + 1)):=by rw [← size_data,h];simp);(have h2 : t.data.toList = (A ++ B) ++ b :: r:=by rw [h];simp);obtain ⟨h3,h4⟩:=Zbr h2;refine Ev.step (fun k => ZgQ k ..) ?_;rw [wsum zo,← List.length_append];refine Zaj zo (Zaj zo ?_);rw [h4];unfold dgN;by_cases c : 48 ≤ b.toNat ∧ b.toNat ≤ 57
  ·have h5:=ih (B ++ [b]) (by rw [h];simp);rw [List.length_append,List.length_singleton] at h5;rw [if_pos c,w64s zo,show B.length + (dgN r + 1) = B.length + 1 + dgN r by omega];exact Zaj zo (Zaj zo h5)
  ·rw [if_neg c];by_cases c1 : 48 ≤ b.toNat
   ·exact Zaj zo (Zai zo (Ev.now _))
   ·exact Zai zo (Ev.now _)
theorem Zfz {t : ByteArray} {A L : List UInt8} (hs : t.size ≤ 1000) (h : t.data.toList = A ++ L) : Ev (fun k => Zan.f k t (A.length : Int)) ((dgN L : Nat) : Int):=by
 have h1:=Zoy (A:=A) hs L [] (by rw [h,List.nil_append]);rw [List.length_nil,Nat.zero_add] at h1;unfold Zan.f;exact h1
theorem ZdU {t : ByteArray} {A L : List UInt8} (hs : t.size ≤ 1000) (h : t.data.toList = A ++ L) : Ev (fun k => ZaD.f k t (A.length : Int)) ((dgN L : Nat) : Int):=by
 have h1:=Zn1 (A:=A) hs L [] (by rw [h,List.nil_append]);rw [List.length_nil,Nat.zero_add] at h1;unfold ZaD.f;exact h1
def isLt (b : UInt8) : Prop:=(97 ≤ b.toNat ∧ b.toNat ≤ 122) ∨ (65 ≤ b.toNat ∧ b.toNat ≤ 90) ∨ b.toNat = 95
instance (b : UInt8) : Decidable (isLt b):=inferInstanceAs (Decidable (_ ∨ _))
def nmN : Bool → List UInt8 → Nat
 | _,[] => 0
 | i,b :: r => if isLt b ∨ (i = true ∧ 48 ≤ b.toNat ∧ b.toNat ≤ 57) then nmN true r + 1 else 0
theorem ZbP (b : UInt8) : ZbE.f (b.toNat : Int) = some (decide (isLt b)) ∧ Zbt.f (b.toNat : Int) = some (decide (isLt b)):=by
 have key : ∀ a : Nat,(if (a : Int) ≥ 97 then (if (a : Int) ≤ 122 then (some true) else (if (a : Int) ≥ 65 then (if (a : Int) ≤ 90 then (some true) else (some ((a : Int) == 95))) else (some ((a : Int) == 95)))) else (if (a : Int) ≥ 65 then (if (a : Int) ≤ 90 then (some true) else (some ((a : Int) == 95))) else (some ((a : Int) == 95)))) = some (decide ((97 ≤ a ∧ a ≤ 122) ∨ (65 ≤ a ∧ a ≤ 90) ∨ a = 95)):=by
  intro a;(have e : ((a : Int) == 95) = decide (a = 95):=by rw [Bool.eq_iff_iff,beq_iff_eq,decide_eq_true_iff];omega);rw [e]
  repeat' split
  all_goals
   congr 1
   simp only [eq_comm (a:=true),decide_eq_true_iff,decide_eq_decide]
   try omega
 exact ⟨key b.toNat,key b.toNat⟩
theorem Zgl (k : Nat) (x0 : ByteArray) (x1 : Int) (x5 : Int) : Zbi.l0 (k + 1) x0 x1 x5 = if (wrap64 (x1 + x5)) < (x0.size : Int) then (if 0 ≤ (wrap64 (x1 + x5)) then ((ZbE.f (bt x0 (wrap64 (x1 + x5)))).bind fun t271 => (if t271 = true then (Zbi.l0 k x0 x1 (wrap64 (x5 + 1))) else (if x5 > 0 then ((ZaR.f (bt x0 (wrap64 (x1 + x5)))).bind fun t272 => (if t272 = true then (Zbi.l0 k x0 x1 (wrap64 (x5 + 1))) else (some x5))) else (some x5)))) else (none)) else (some x5):=rfl
theorem ZfV (k : Nat) (x0 : ByteArray) (x1 : Int) (x5 : Int) : Zbg.l0 (k + 1) x0 x1 x5 = if (wrap64 (x1 + x5)) < (x0.size : Int) then (if 0 ≤ (wrap64 (x1 + x5)) then ((Zbt.f (bt x0 (wrap64 (x1 + x5)))).bind fun t101 => (if t101 = true then (Zbg.l0 k x0 x1 (wrap64 (x5 + 1))) else (if x5 > 0 then ((Za1.f (bt x0 (wrap64 (x1 + x5)))).bind fun t102 => (if t102 = true then (Zbg.l0 k x0 x1 (wrap64 (x5 + 1))) else (some x5))) else (some x5)))) else (none)) else (some x5):=rfl
theorem Zox {t : ByteArray} {A : List UInt8} (hs : t.size ≤ 1000) : ∀ (L B : List UInt8),t.data.toList = A ++ (B ++ L) → Ev (fun k => Zbi.l0 k t (A.length : Int) (B.length : Int)) ((B.length + nmN (decide (0 < B.length)) L : Nat) : Int):=by
 intro L
 induction L with
 | nil =>
  intro B h;(have hl : t.size = A.length + B.length:=by rw [← size_data,h];simp);refine Ev.step (fun k => Zgl k ..) ?_;rw [wsum zo];exact Zai zo (Ev.now _)
 | cons b r ih =>
  intro B h;(have hl : t.size = A.length + (B.length + (r.length + 1)):=by rw [← size_data,h];simp);(have h2 : t.data.toList = (A ++ B) ++ b :: r:=by rw [h];simp);obtain ⟨h3,h4⟩:=Zbr h2;have h5:=ih (B ++ [b]) (by rw [h];simp);rw [List.length_append,List.length_singleton,decide_eq_true (show 0 < B.length + 1 by omega)] at h5;refine Ev.step (fun k => Zgl k ..) ?_;rw [wsum zo,← List.length_append];refine Zaj zo (Zaj zo ?_);rw [h4];refine Ev.bind (Zaz (ZbP b).1) ?_;unfold nmN;by_cases c : isLt b
  ·rw [if_pos (.inl c),w64s zo,show B.length + (nmN true r + 1) = B.length + 1 + nmN true r by omega];exact Zaj (decide_eq_true c) h5
  ·refine Zai (by rw [decide_eq_true_iff];exact c) ?_;by_cases c0 : 0 < B.length
   ·refine Zaj zo (Ev.bind (Zaz (Zgm _)) ?_);by_cases c1 : 48 ≤ b.toNat ∧ b.toNat ≤ 57
    ·rw [if_pos (.inr ⟨decide_eq_true c0,c1⟩),w64s zo,show B.length + (nmN true r + 1) = B.length + 1 + nmN true r by omega];exact Zaj (decide_eq_true ⟨by omega,by omega⟩) h5
    ·rw [if_neg (fun h => by rcases h with h | h;exact c h;exact c1 h.2)];exact Zai (by rw [decide_eq_true_iff];omega) (Ev.now _)
   ·rw [if_neg (fun h => by rcases h with h | h;exact c h;exact c0 (of_decide_eq_true h.1))];exact Zai zo (Ev.now _)
theorem ZnY {t : ByteArray} {A : List UInt8} (hs : t.size ≤ 1000) : ∀ (L B : List UInt8),t.data.toList = A ++ (B ++ L) → Ev (fun k => Zbg.l0 k t (A.length : Int) (B.length : Int)) ((B.length + nmN (decide (0 < B.length)) L : Nat) : Int):=by
 intro L
 induction L with
 | nil =>
  intro B h;(have hl : t.size = A.length + B.length:=by rw [← size_data,h];simp);refine Ev.step (fun k => ZfV k ..) ?_;rw [wsum zo];exact Zai zo (Ev.now _)
 | cons b r ih =>
  intro B h;(have hl : t.size = A.length + (B.length + (r.length + 1)):=by rw [← size_data,h];simp);(have h2 : t.data.toList = (A ++ B) ++ b :: r:=by rw [h];simp);obtain ⟨h3,h4⟩:=Zbr h2;have h5:=ih (B ++ [b]) (by rw [h];simp);rw [List.length_append,List.length_singleton,decide_eq_true (show 0 < B.length + 1 by omega)] at h5;refine Ev.step (fun k => ZfV k ..) ?_;rw [wsum zo,← List.length_append];refine Zaj zo (Zaj zo ?_);rw [h4];refine Ev.bind (Zaz (ZbP b).2) ?_;unfold nmN;by_cases c : isLt b
  ·rw [if_pos (.inl c),w64s zo,show B.length + (nmN true r + 1) = B.length + 1 + nmN true r by omega];exact Zaj (decide_eq_true c) h5
  ·refine Zai (by rw [decide_eq_true_iff];exact c) ?_;by_cases c0 : 0 < B.length
   ·refine Zaj zo (Ev.bind (Zaz (ZeB _)) ?_);by_cases c1 : 48 ≤ b.toNat ∧ b.toNat ≤ 57
    ·rw [if_pos (.inr ⟨decide_eq_true c0,c1⟩),w64s zo,show B.length + (nmN true r + 1) = B.length + 1 + nmN true r by omega];exact Zaj (decide_eq_true ⟨by omega,by omega⟩) h5
    ·rw [if_neg (fun h => by rcases h with h | h;exact c h;exact c1 h.2)];exact Zai (by rw [decide_eq_true_iff];omega) (Ev.now _)
   ·rw [if_neg (fun h => by rcases h with h | h;exact c h;exact c0 (of_decide_eq_true h.1))];exact Zai zo (Ev.now _)
def txN : List UInt8 → Option Nat
 | [] => none
 | b :: r => if b.toNat = 34 then some 1 else if 32 ≤ b.toNat ∧ b.toNat ≤ 126 then (txN r).map (· + 1) else none
theorem ZgM : ∀ (L : List UInt8) (n : Nat),txN L = some n → 1 ≤ n ∧ n ≤ L.length
  | [],n,h => by cases h
  | b :: r,n,h => by
    unfold txN at h
    rw [List.length_cons]
    split at h
    · obtain rfl:=Option.some.inj h;omega
    · split at h
      · cases hr : txN r with
        | none => rw [hr] at h;cases h
        | some m =>
          rw [hr] at h
          have h1:=ZgM r m hr
          have h2 : m + 1 = n:=Option.some.inj h
          omega
      · cases h
theorem Zgi (k : Nat) (x0 : ByteArray) (x1 : Int) (x5 : Int) : ZaN.l0 (k + 1) x0 x1 x5 = if x5 < (x0.size : Int) then (if 0 ≤ x5 then (if (bt x0 x5) ≥ 32 then (ZaN.j1 k x0 x1 x5 (decide ((bt x0 x5) ≤ 126))) else (ZaN.j1 k x0 x1 x5 false)) else (none)) else (ZaN.j1 k x0 x1 x5 false):=rfl
theorem Zdm (k : Nat) (x0 : ByteArray) (x1 : Int) (x5 : Int) (x23 : Bool) : ZaN.j1 (k + 1) x0 x1 x5 x23 = if x23 = true then (if 0 ≤ x5 then (if x5 < (x0.size : Int) then (if (bt x0 x5) = 34 then (some (wrap64 ((wrap64 (x5 + 1)) - x1))) else (ZaN.l0 k x0 x1 (wrap64 (x5 + 1)))) else (none)) else (none)) else (some 0):=rfl
theorem ZfQ (k : Nat) (x0 : ByteArray) (x1 : Int) (x5 : Int) : Zbd.l0 (k + 1) x0 x1 x5 = if x5 < (x0.size : Int) then (if 0 ≤ x5 then (if (bt x0 x5) = 34 then (some (wrap64 ((wrap64 (x5 + 1)) - x1))) else (if (bt x0 x5) < 32 then (some (-1)) else (if (bt x0 x5) > 126 then (some (-1)) else (Zbd.l0 k x0 x1 (wrap64 (x5 + 1)))))) else (none)) else (some (-1)):=rfl
theorem Zov {t : ByteArray} (x1 : Nat) (hs : t.size ≤ 1000) (hx : x1 ≤ t.size) : ∀ (L B : List UInt8),t.data.toList = B ++ L → x1 ≤ B.length → Ev (fun k => ZaN.l0 k t (x1 : Int) (B.length : Int)) (match txN L with | none => 0 | some n => ((B.length + n - x1 : Nat) : Int)):=by
 intro L
 induction L with
 | nil =>
  intro B h hB;(have hl : t.size = B.length:=by rw [← size_data,h];simp);refine Ev.step (fun k => Zgi k ..) (Zai zo ?_);exact Ev.step (fun k => Zdm k ..) (Zai (by decide) (Ev.now _))
 | cons b r ih =>
  intro B h hB;(have hl : t.size = B.length + (r.length + 1):=by rw [← size_data,h];simp);obtain ⟨h3,h4⟩:=Zbr h;have h5:=ih (B ++ [b]) (by rw [h];simp) (by rw [List.length_append];omega);rw [List.length_append,List.length_singleton] at h5;refine Ev.step (fun k => Zgi k ..) (Zaj zo (Zaj zo ?_));rw [h4];unfold txN;by_cases c1 : 32 ≤ b.toNat ∧ b.toNat ≤ 126
  ·refine Zaj zo ?_;rw [decide_eq_true (show ((b.toNat : Int) ≤ 126) by omega)];refine Ev.step (fun k => Zdm k ..) (Zaj rfl (Zaj zo (Zaj zo ?_)));rw [h4];by_cases c : b.toNat = 34
   ·rw [if_pos c];refine Zaj zo ?_;rw [w64s zo,w64 zo zo,show ((B.length + 1 : Nat) : Int) - (x1 : Int) = ((B.length + 1 - x1 : Nat) : Int) by omega];exact Ev.now _
   ·rw [if_neg c,if_pos c1];refine Zai zo ?_;rw [w64s zo]
    cases hr : txN r with
    | none => rw [hr] at h5;exact h5
    | some m =>
     rw [hr] at h5;show Ev _ ((B.length + (m + 1) - x1 : Nat) : Int);rw [show B.length + (m + 1) - x1 = B.length + 1 + m - x1 by omega];exact h5
  ·rw [if_neg zo,if_neg c1];by_cases c2 : 32 ≤ b.toNat
   ·refine Zaj zo ?_;rw [decide_eq_false (show ¬ ((b.toNat : Int) ≤ 126) by omega)];exact Ev.step (fun k => Zdm k ..) (Zai (by decide) (Ev.now _))
   ·exact Zai zo (Ev.step (fun k => Zdm k ..) (Zai (by decide) (Ev.now _)))
theorem ZnW {t : ByteArray} (x1 : Nat) (hs : t.size ≤ 1000) (hx : x1 ≤ t.size) : ∀ (L B : List UInt8),t.data.toList = B ++ L → x1 ≤ B.length → Ev (fun k => Zbd.l0 k t (x1 : Int) (B.length : Int)) (match txN L with | none => -1 | some n => ((B.length + n - x1 : Nat) : Int)):=by
 intro L
 induction L with
 | nil =>
  intro B h hB;(have hl : t.size = B.length:=by rw [← size_data,h];simp);exact Ev.step (fun k => ZfQ k ..) (Zai zo (Ev.now _))
 | cons b r ih =>
  intro B h hB;(have hl : t.size = B.length + (r.length + 1):=by rw [← size_data,h];simp);obtain ⟨h3,h4⟩:=Zbr h;have h5:=ih (B ++ [b]) (by rw [h];simp) (by rw [List.length_append];omega);rw [List.length_append,List.length_singleton] at h5;refine Ev.step (fun k => ZfQ k ..) (Zaj zo (Zaj zo ?_));rw [h4];unfold txN;by_cases c : b.toNat = 34
  ·rw [if_pos c];refine Zaj zo ?_;rw [w64s zo,w64 zo zo,show ((B.length + 1 : Nat) : Int) - (x1 : Int) = ((B.length + 1 - x1 : Nat) : Int) by omega];exact Ev.now _
  ·rw [if_neg c];refine Zai zo ?_;by_cases c1 : 32 ≤ b.toNat ∧ b.toNat ≤ 126
   ·rw [if_pos c1,w64s zo];refine Zai zo (Zai zo ?_)
    cases hr : txN r with
    | none => rw [hr] at h5;exact h5
    | some m =>
     rw [hr] at h5;show Ev _ ((B.length + (m + 1) - x1 : Nat) : Int);rw [show B.length + (m + 1) - x1 = B.length + 1 + m - x1 by omega];exact h5
   ·rw [if_neg c1];by_cases c2 : b.toNat < 32
    ·exact Zaj zo (Ev.now _)
    ·exact Zai zo (Zaj zo (Ev.now _))
theorem Zht (l : List ByteArray) (i : Nat) : rdOf ByteArray.empty l (i : Int) = l.getD i ByteArray.empty:=by
 unfold rdOf;simp
theorem Zep (k : Nat) (x0 : List ByteArray) (x1 : ByteArray) (x7 : Int) (x8 : Int) : Zas.l0 (k + 1) x0 x1 x7 x8 = if x8 < x7 then (if 0 ≤ x8 then (if x8 < (x0.length : Int) then (if x1.toList = (rdOf ByteArray.empty x0 x8).toList then (some x8) else (Zas.l0 k x0 x1 x7 (wrap64 (x8 + 1)))) else (none)) else (none)) else (some (-1)):=rfl
theorem Zko (k : Nat) (x0 : List ByteArray) (x1 : ByteArray) (x5 : Int) : Za0.l0 (k + 1) x0 x1 x5 = if x5 < (x0.length : Int) then (if 0 ≤ x5 then (if (rdOf ByteArray.empty x0 x5).toList = x1.toList then (some true) else (Za0.l0 k x0 x1 (wrap64 (x5 + 1)))) else (none)) else (some false):=rfl
def inB (l : List ByteArray) (x : ByteArray) : Bool:=l.any fun y => y.toList == x.toList
theorem ZhS {l : List ByteArray} {p : ByteArray → Bool} {i : Nat} (h : i < l.length) : (l.drop i).any p = (p (l.getD i ByteArray.empty) || (l.drop (i + 1)).any p):=by
 rw [List.drop_eq_getElem_cons h,List.any_cons,List.getD_eq_getElem?_getD,List.getElem?_eq_getElem h];rfl
theorem ZkY (l : List ByteArray) (x : ByteArray) (hl : l.length ≤ 1000) : ∀ (d i : Nat),l.length - i = d → i ≤ l.length → Ev (fun k => Za0.l0 k l x (i : Int)) ((l.drop i).any fun y => y.toList == x.toList):=by
 intro d
 induction d with
 | zero =>
  intro i hd hi;rw [List.drop_eq_nil_of_le zo];exact Ev.step (fun k => Zko k ..) (Zai zo (Ev.now _))
 | succ d ih =>
  intro i hd hi;have h1:=ih (i + 1) zo zo;refine Ev.step (fun k => Zko k ..) (Zaj zo (Zaj zo ?_));rw [Zht,ZhS zo,w64s zo];by_cases c : (l.getD i ByteArray.empty).toList = x.toList
  ·rw [beq_iff_eq.2 c,Bool.true_or];exact Zaj c (Ev.now _)
  ·rw [beq_eq_false_iff_ne.2 c,Bool.false_or];exact Zai c h1
theorem Zj7 (l : List ByteArray) (x : ByteArray) (hl : l.length ≤ 1000) : Ev (fun k => Za0.f k l x) (inB l x):=by
 have h:=ZkY l x hl l.length 0 zo zo;unfold Za0.f;exact h
theorem Zln (l : List ByteArray) (x : ByteArray) (hl : l.length ≤ 1000) : ∀ (d i : Nat),l.length - i = d → i ≤ l.length → ∃ n : Int,Ev (fun k => Zas.l0 k l x (l.length : Int) (i : Int)) n ∧ decide (n ≥ 0) = (l.drop i).any fun y => y.toList == x.toList:=by
 intro d
 induction d with
 | zero =>
  intro i hd hi;rw [List.drop_eq_nil_of_le zo];exact ⟨-1,Ev.step (fun k => Zep k ..) (Zai zo (Ev.now _)),rfl⟩
 | succ d ih =>
  intro i hd hi;obtain ⟨n,h1,h2⟩:=ih (i + 1) zo zo;by_cases c : x.toList = (l.getD i ByteArray.empty).toList
  ·refine ⟨i,Ev.step (fun k => Zep k ..) (Zaj zo (Zaj zo (Zaj zo ?_))),?_⟩
   ·rw [Zht];exact Zaj c (Ev.now _)
   ·rw [ZhS zo,beq_iff_eq.2 c.symm,Bool.true_or];exact decide_eq_true zo
  ·refine ⟨n,Ev.step (fun k => Zep k ..) (Zaj zo (Zaj zo (Zaj zo ?_))),?_⟩
   ·rw [Zht,w64s zo];exact Zai c h1
   ·rw [ZhS zo,beq_eq_false_iff_ne.2 (fun h => c h.symm),Bool.false_or];exact h2
theorem ZiL (l : List ByteArray) (x : ByteArray) (hl : l.length ≤ 1000) : Ev (fun k => ZaH.f k l x) (inB l x):=by
 obtain ⟨n,h1,h2⟩:=Zln l x hl l.length 0 zo zo;unfold ZaH.f Zas.f;refine Ev.bind h1 ?_;rw [h2];exact Ev.now _
def Zbz : List UInt8 → Nat
 | [] => 0
 | c :: _ => if c.toNat = 43 ∨ c.toNat = 45 then 1 else 0
def expN : List UInt8 → Nat
 | [] => 0
 | b :: r => if b.toNat = 101 ∧ 0 < dgN (r.drop (Zbz r)) then 1 + Zbz r + dgN (r.drop (Zbz r)) else 0
def dotN : List UInt8 → Nat
 | [] => 0
 | b :: r => if b.toNat = 46 ∧ 0 < dgN r then 1 + dgN r else 0
def numN (L : List UInt8) : Nat:=dgN L + dotN (L.drop (dgN L)) + expN ((L.drop (dgN L)).drop (dotN (L.drop (dgN L))))
theorem ZbQ (c : UInt8) (r : List UInt8) : Zbz (c :: r) = if c.toNat = 43 ∨ c.toNat = 45 then 1 else 0:=rfl
theorem Zcg (b : UInt8) (r : List UInt8) : expN (b :: r) = if b.toNat = 101 ∧ 0 < dgN (r.drop (Zbz r)) then 1 + Zbz r + dgN (r.drop (Zbz r)) else 0:=rfl
theorem ZbR (b : UInt8) (r : List UInt8) : dotN (b :: r) = if b.toNat = 46 ∧ 0 < dgN r then 1 + dgN r else 0:=rfl
theorem Zn4 (r : List UInt8) : Zbz r ≤ r.length:=by
 cases r with
 | nil => exact Nat.le_refl _
 | cons c r => rw [ZbQ,List.length_cons];split <;> omega
theorem expN_le (R : List UInt8) : expN R ≤ R.length:=by
 cases R with
 | nil => exact Nat.le_refl _
 | cons b r =>
  have h1:=Zn4 r;have h2:=ZcH (r.drop (Zbz r));rw [List.length_drop] at h2;rw [Zcg,List.length_cons];split <;> omega
theorem Znj (R : List UInt8) : dotN R ≤ R.length:=by
 cases R with
 | nil => exact Nat.le_refl _
 | cons b r =>
  have h2:=ZcH r;rw [ZbR,List.length_cons];split <;> omega
theorem Zf9 (L : List UInt8) : numN L ≤ L.length:=by
 have h1:=ZcH L;have h2:=Znj (L.drop (dgN L));have h3:=expN_le ((L.drop (dgN L)).drop (dotN (L.drop (dgN L))));rw [List.length_drop] at h2 h3;rw [List.length_drop] at h3;unfold numN;omega
theorem Zeq {b : UInt8} {r : List UInt8} : 0 < dgN (b :: r) ↔ 48 ≤ b.toNat ∧ b.toNat ≤ 57:=by
 unfold dgN;split
 ·rename_i h;exact ⟨fun _ => h,fun _ => by omega⟩
 ·rename_i h;exact ⟨fun h2 => absurd h2 zo,fun h2 => absurd h2 h⟩
theorem wdif {a b : Nat} (h : b ≤ a) (h2 : a < 9223372036854775808) : wrap64 ((a : Int) - (b : Int)) = ((a - b : Nat) : Int):=by rw [w64 zo zo];omega
theorem ZdT (t : ByteArray) {A L : List UInt8} (n : Nat) (hn : n ≤ L.length) (h : t.data.toList = A ++ L) : t.data.toList = (A ++ L.take n) ++ L.drop n ∧ (A ++ L.take n).length = A.length + n:=by
 constructor
 ·rw [h,List.append_assoc,List.take_append_drop]
 ·rw [List.length_append,List.length_take];omega
theorem Zg9 (k : Nat) (x0 : ByteArray) (x1 : Int) (x5 : Int) (x29 : Bool) : Zal.j0 (k + 1) x0 x1 x5 x29 = if x29 = true then ((Zan.f k x0 (wrap64 (x5 + 1))).bind fun t277 => (Zal.j1 k x0 x1 (wrap64 ((wrap64 (x5 + 1)) + t277)))) else (Zal.j1 k x0 x1 x5):=rfl
theorem Zg8 (k : Nat) (x0 : ByteArray) (x1 : Int) (x5 : Int) : Zal.j1 (k + 1) x0 x1 x5 = if x5 < (x0.size : Int) then (if 0 ≤ x5 then (Zal.j2 k x0 x1 x5 ((bt x0 x5) == 101)) else (none)) else (Zal.j2 k x0 x1 x5 false):=rfl
theorem Zg7 (k : Nat) (x0 : ByteArray) (x1 : Int) (x5 : Int) (x46 : Bool) : Zal.j2 (k + 1) x0 x1 x5 x46 = if x46 = true then (if (wrap64 (x5 + 1)) < (x0.size : Int) then (if 0 ≤ (wrap64 (x5 + 1)) then (if (bt x0 (wrap64 (x5 + 1))) = 43 then (Zal.j3 k x0 x1 x5 (wrap64 (x5 + 1)) true) else (Zal.j3 k x0 x1 x5 (wrap64 (x5 + 1)) ((bt x0 (wrap64 (x5 + 1))) == 45))) else (none)) else (Zal.j3 k x0 x1 x5 (wrap64 (x5 + 1)) false)) else (some (wrap64 (x5 - x1))):=rfl
theorem Zg6 (k : Nat) (x0 : ByteArray) (x1 : Int) (x5 : Int) (x6 : Int) (x64 : Bool) : Zal.j3 (k + 1) x0 x1 x5 x6 x64 = if x64 = true then ((Zan.f k x0 (wrap64 (x6 + 1))).bind fun t278 => (if t278 > 0 then (some (wrap64 ((wrap64 ((wrap64 (x6 + 1)) + t278)) - x1))) else (some (wrap64 (x5 - x1))))) else ((Zan.f k x0 x6).bind fun t279 => (if t279 > 0 then (some (wrap64 ((wrap64 (x6 + t279)) - x1))) else (some (wrap64 (x5 - x1))))):=rfl
theorem ZgU (k : Nat) (x0 : ByteArray) (x1 : Int) (x5 : Int) (x29 : Bool) : Zah.j0 (k + 1) x0 x1 x5 x29 = if x29 = true then ((ZaD.f k x0 (wrap64 (x5 + 1))).bind fun t109 => (Zah.j1 k x0 x1 (wrap64 ((wrap64 (x5 + 1)) + t109)))) else (Zah.j1 k x0 x1 x5):=rfl
theorem ZkZ (k : Nat) (x0 : ByteArray) (x1 : Int) (x5 : Int) : Zah.j1 (k + 1) x0 x1 x5 = if (wrap64 (x5 + 1)) < (x0.size : Int) then (if 0 ≤ x5 then (if x5 < (x0.size : Int) then (Zah.j2 k x0 x1 x5 ((bt x0 x5) == 101)) else (none)) else (none)) else (Zah.j2 k x0 x1 x5 false):=rfl
theorem ZgT (k : Nat) (x0 : ByteArray) (x1 : Int) (x5 : Int) (x47 : Bool) : Zah.j2 (k + 1) x0 x1 x5 x47 = if x47 = true then (if 0 ≤ (wrap64 (x5 + 1)) then (if (wrap64 (x5 + 1)) < (x0.size : Int) then (if (bt x0 (wrap64 (x5 + 1))) = 43 then (Zah.j3 k x0 x1 x5 (wrap64 (x5 + 1)) true) else (Zah.j3 k x0 x1 x5 (wrap64 (x5 + 1)) ((bt x0 (wrap64 (x5 + 1))) == 45))) else (none)) else (none)) else (some (wrap64 (x5 - x1))):=rfl
theorem ZgS (k : Nat) (x0 : ByteArray) (x1 : Int) (x5 : Int) (x6 : Int) (x59 : Bool) : Zah.j3 (k + 1) x0 x1 x5 x6 x59 = if x59 = true then (Zah.j4 k x0 x1 x5 (wrap64 (x6 + 1))) else (Zah.j4 k x0 x1 x5 x6):=rfl
theorem ZgR (k : Nat) (x0 : ByteArray) (x1 : Int) (x5 : Int) (x6 : Int) : Zah.j4 (k + 1) x0 x1 x5 x6 = if x6 < (x0.size : Int) then (if 0 ≤ x6 then ((Za1.f (bt x0 x6)).bind fun t110 => (if t110 = true then ((ZaD.f k x0 x6).bind fun t111 => (some (wrap64 ((wrap64 (x6 + t111)) - x1)))) else (some (wrap64 (x5 - x1))))) else (none)) else (some (wrap64 (x5 - x1))):=rfl
theorem ZiN {t : ByteArray} {H R : List UInt8} (x1 : Nat) (hs : t.size ≤ 1000) (h : t.data.toList = H ++ R) (hx : x1 ≤ H.length) : Ev (fun k => Zal.j1 k t (x1 : Int) (H.length : Int)) ((H.length + expN R - x1 : Nat) : Int):=by
 have hl : t.size = H.length + R.length:=by rw [← size_data,h,List.length_append]
 have hno : Ev (fun k => Zal.j2 k t (x1 : Int) (H.length : Int) false) ((H.length - x1 : Nat) : Int):=by
  refine Ev.step (fun k => Zg7 k ..) (Zai (by decide) ?_);rw [wdif hx zo];exact Ev.now _
 cases R with
 | nil => exact Ev.step (fun k => Zg8 k ..) (Zai (by simp at hl;omega) hno)
 | cons b r =>
  rw [List.length_cons] at hl;obtain ⟨h3,h4⟩:=Zbr h;refine Ev.step (fun k => Zg8 k ..) (Zaj zo (Zaj zo ?_));rw [h4,Zcg];by_cases c : b.toNat = 101
  ·(have hb : (((b.toNat : Nat) : Int) == 101) = true:=by rw [beq_iff_eq];omega);rw [hb];(have h5 : t.data.toList = (H ++ [b]) ++ r:=by rw [h];simp);have h5l : ((H ++ [b]).length : Int) = ((H.length + 1 : Nat) : Int):=by simp
   have hret : ∀ (n : Nat) (e : Nat),n = 0 → ((H.length + (if b.toNat = 101 ∧ 0 < n then e else 0) - x1 : Nat) : Int) = ((H.length - x1 : Nat) : Int):=by
    intro n e hn;rw [if_neg (fun hc => by omega),Nat.add_zero]
   refine Ev.step (fun k => Zg7 k ..) (Zaj rfl ?_);rw [w64s zo]
   have hplain : Zbz r = 0 → Ev (fun k => Zal.j3 k t (x1 : Int) (H.length : Int) ((H.length + 1 : Nat) : Int) false) ((H.length + (if b.toNat = 101 ∧ 0 < dgN (r.drop (Zbz r)) then 1 + Zbz r + dgN (r.drop (Zbz r)) else 0) - x1 : Nat) : Int):=by
    intro h0;have hrun:=Zfz hs h5;rw [h5l] at hrun;have hd:=ZcH r;refine Ev.step (fun k => Zg6 k ..) (Zai (by decide) (Ev.bind hrun ?_));rw [h0,List.drop_zero];by_cases c2 : 0 < dgN r
    ·rw [if_pos (show b.toNat = 101 ∧ 0 < dgN r from ⟨c,c2⟩)];refine Zaj zo ?_;rw [wsum zo,wdif zo zo,show H.length + 1 + dgN r - x1 = H.length + (1 + 0 + dgN r) - x1 by omega];exact Ev.now _
    ·rw [hret _ _ zo];refine Zai zo ?_;rw [wdif hx zo];exact Ev.now _
   cases r with
   | nil => exact Zai (by simp at hl;omega) (hplain rfl)
   | cons d r =>
    rw [List.length_cons] at hl;obtain ⟨k3,k4⟩:=Zbr h5;rw [h5l] at k4;rw [List.length_append,List.length_singleton] at k3;refine Zaj zo (Zaj zo ?_);rw [k4]
    have hsig : Zbz (d :: r) = 1 → Ev (fun k => Zal.j3 k t (x1 : Int) (H.length : Int) ((H.length + 1 : Nat) : Int) true) ((H.length + (if b.toNat = 101 ∧ 0 < dgN ((d :: r).drop (Zbz (d :: r))) then 1 + Zbz (d :: r) + dgN ((d :: r).drop (Zbz (d :: r))) else 0) - x1 : Nat) : Int):=by
     intro h1;(have h6 : t.data.toList = (H ++ [b,d]) ++ r:=by rw [h];simp);(have h6l : ((H ++ [b,d]).length : Int) = ((H.length + 1 + 1 : Nat) : Int):=by rw [List.length_append];rfl);have hrun:=Zfz hs h6;rw [h6l] at hrun;have hd:=ZcH r;refine Ev.step (fun k => Zg6 k ..) (Zaj rfl ?_);rw [w64s zo];refine Ev.bind hrun ?_;rw [h1];show Ev _ ((H.length + (if b.toNat = 101 ∧ 0 < dgN r then 1 + 1 + dgN r else 0) - x1 : Nat) : Int);by_cases c2 : 0 < dgN r
     ·rw [if_pos (show b.toNat = 101 ∧ 0 < dgN r from ⟨c,c2⟩)];refine Zaj zo ?_;rw [wsum zo,wdif zo zo,show H.length + 1 + 1 + dgN r - x1 = H.length + (1 + 1 + dgN r) - x1 by omega];exact Ev.now _
     ·rw [hret _ _ zo];refine Zai zo ?_;rw [wdif hx zo];exact Ev.now _
    by_cases c43 : d.toNat = 43
    ·exact Zaj zo (hsig (by rw [ZbQ,if_pos (.inl c43)]))
    ·refine Zai zo ?_;by_cases c45 : d.toNat = 45
     ·(have hb2 : (((d.toNat : Nat) : Int) == 45) = true:=by rw [beq_iff_eq];omega);rw [hb2];exact hsig (by rw [ZbQ,if_pos (.inr c45)])
     ·(have hb2 : (((d.toNat : Nat) : Int) == 45) = false:=by rw [beq_eq_false_iff_ne];omega);rw [hb2];exact hplain (by rw [ZbQ,if_neg zo])
  ·(have hb : (((b.toNat : Nat) : Int) == 101) = false:=by rw [beq_eq_false_iff_ne];omega);rw [hb,if_neg (fun hc => c hc.1),Nat.add_zero];exact hno
theorem Zj6 {t : ByteArray} {H H2 R2 : List UInt8} (x1 : Nat) (hs : t.size ≤ 1000) (h : t.data.toList = H2 ++ R2) (hx : x1 ≤ H.length) (hH : H.length ≤ H2.length) : Ev (fun k => Zah.j4 k t (x1 : Int) (H.length : Int) (H2.length : Int)) ((if 0 < dgN R2 then H2.length + dgN R2 - x1 else H.length - x1 : Nat) : Int):=by
 have hl : t.size = H2.length + R2.length:=by rw [← size_data,h,List.length_append]
 cases R2 with
 | nil =>
  rw [if_neg (show ¬ 0 < dgN [] by decide)];refine Ev.step (fun k => ZgR k ..) (Zai (by simp at hl;omega) ?_);rw [wdif hx zo];exact Ev.now _
 | cons b r =>
  rw [List.length_cons] at hl;obtain ⟨h3,h4⟩:=Zbr h;have hd:=ZcH (b :: r);rw [List.length_cons] at hd;refine Ev.step (fun k => ZgR k ..) (Zaj zo (Zaj zo ?_));rw [h4];refine Ev.bind (Zaz (ZeB _)) ?_;by_cases c : 48 ≤ b.toNat ∧ b.toNat ≤ 57
  ·rw [if_pos (Zeq.2 c)];refine Zaj (decide_eq_true ⟨by omega,by omega⟩) (Ev.bind (ZdU hs h) ?_);rw [wsum zo,wdif zo zo];exact Ev.now _
  ·rw [if_neg (fun hc => c (Zeq.1 hc))];refine Zai (by rw [decide_eq_true_iff];omega) ?_;rw [wdif hx zo];exact Ev.now _
theorem Zii {t : ByteArray} {H R : List UInt8} (x1 : Nat) (hs : t.size ≤ 1000) (h : t.data.toList = H ++ R) (hx : x1 ≤ H.length) : Ev (fun k => Zah.j1 k t (x1 : Int) (H.length : Int)) ((H.length + expN R - x1 : Nat) : Int):=by
 have hl : t.size = H.length + R.length:=by rw [← size_data,h,List.length_append]
 have hno : Ev (fun k => Zah.j2 k t (x1 : Int) (H.length : Int) false) ((H.length - x1 : Nat) : Int):=by
  refine Ev.step (fun k => ZgT k ..) (Zai (by decide) ?_);rw [wdif hx zo];exact Ev.now _
 refine Ev.step (fun k => ZkZ k ..) ?_;rw [w64s zo]
 cases R with
 | nil => exact Zai (by simp at hl;omega) hno
 | cons b r =>
  cases r with
  | nil =>
   rw [Zcg,if_neg (fun hc => absurd hc.2 (by decide)),Nat.add_zero];exact Zai (by simp at hl;omega) hno
  | cons d r =>
   rw [List.length_cons,List.length_cons] at hl;obtain ⟨h3,h4⟩:=Zbr h;(have h5 : t.data.toList = (H ++ [b]) ++ d :: r:=by rw [h];simp);obtain ⟨k3,k4⟩:=Zbr h5;(have h5l : ((H ++ [b]).length : Int) = ((H.length + 1 : Nat) : Int):=by simp);rw [h5l] at k4;refine Zaj zo (Zaj zo (Zaj zo ?_));rw [h4,Zcg];by_cases c : b.toNat = 101
   ·(have hb : (((b.toNat : Nat) : Int) == 101) = true:=by rw [beq_iff_eq];omega);rw [hb];refine Ev.step (fun k => ZgT k ..) (Zaj rfl ?_);rw [w64s zo];refine Zaj zo (Zaj zo ?_);rw [k4]
    have hplain : Zbz (d :: r) = 0 → Ev (fun k => Zah.j3 k t (x1 : Int) (H.length : Int) ((H.length + 1 : Nat) : Int) false) ((H.length + (if b.toNat = 101 ∧ 0 < dgN ((d :: r).drop (Zbz (d :: r))) then 1 + Zbz (d :: r) + dgN ((d :: r).drop (Zbz (d :: r))) else 0) - x1 : Nat) : Int):=by
     intro h0;have h7:=Zj6 (H:=H) x1 hs h5 hx (by rw [List.length_append];omega);rw [h5l] at h7;refine Ev.step (fun k => ZgS k ..) (Zai (by decide) ?_);rw [h0,List.drop_zero];by_cases c2 : 0 < dgN (d :: r)
     ·rw [if_pos c2,List.length_append,List.length_singleton] at h7;rw [if_pos (show b.toNat = 101 ∧ 0 < dgN (d :: r) from ⟨c,c2⟩),show H.length + (1 + 0 + dgN (d :: r)) - x1 = H.length + 1 + dgN (d :: r) - x1 by omega];exact h7
     ·rw [if_neg c2] at h7;rw [if_neg (fun hc => c2 hc.2),Nat.add_zero];exact h7
    have hsig : Zbz (d :: r) = 1 → Ev (fun k => Zah.j3 k t (x1 : Int) (H.length : Int) ((H.length + 1 : Nat) : Int) true) ((H.length + (if b.toNat = 101 ∧ 0 < dgN ((d :: r).drop (Zbz (d :: r))) then 1 + Zbz (d :: r) + dgN ((d :: r).drop (Zbz (d :: r))) else 0) - x1 : Nat) : Int):=by
     intro h1;(have h6 : t.data.toList = (H ++ [b,d]) ++ r:=by rw [h];simp);(have h6l : ((H ++ [b,d]).length : Int) = ((H.length + 1 + 1 : Nat) : Int):=by rw [List.length_append];rfl);have h7:=Zj6 (H:=H) x1 hs h6 hx (by rw [List.length_append];omega);rw [h6l] at h7;refine Ev.step (fun k => ZgS k ..) (Zaj rfl ?_);rw [w64s zo,h1];show Ev _ ((H.length + (if b.toNat = 101 ∧ 0 < dgN r then 1 + 1 + dgN r else 0) - x1 : Nat) : Int);by_cases c2 : 0 < dgN r
     ·rw [if_pos c2,List.length_append,show [b,d].length = 2 from rfl] at h7;rw [if_pos (show b.toNat = 101 ∧ 0 < dgN r from ⟨c,c2⟩),show H.length + (1 + 1 + dgN r) - x1 = H.length + 2 + dgN r - x1 by omega];exact h7
     ·rw [if_neg c2] at h7;rw [if_neg (fun hc => c2 hc.2),Nat.add_zero];exact h7
    by_cases c43 : d.toNat = 43
    ·exact Zaj zo (hsig (by rw [ZbQ,if_pos (.inl c43)]))
    ·refine Zai zo ?_;by_cases c45 : d.toNat = 45
     ·(have hb2 : (((d.toNat : Nat) : Int) == 45) = true:=by rw [beq_iff_eq];omega);rw [hb2];exact hsig (by rw [ZbQ,if_pos (.inr c45)])
     ·(have hb2 : (((d.toNat : Nat) : Int) == 45) = false:=by rw [beq_eq_false_iff_ne];omega);rw [hb2];exact hplain (by rw [ZbQ,if_neg zo])
   ·(have hb : (((b.toNat : Nat) : Int) == 101) = false:=by rw [beq_eq_false_iff_ne];omega);rw [hb,if_neg (fun hc => c hc.1),Nat.add_zero];exact hno
theorem Zm0 {t : ByteArray} {A L : List UInt8} (hs : t.size ≤ 1000) (h : t.data.toList = A ++ L) : Ev (fun k => Zal.f k t (A.length : Int)) ((numN L : Nat) : Int):=by
 (have hl : t.size = A.length + L.length:=by rw [← size_data,h,List.length_append]);have ha:=ZcH L;obtain ⟨s1,s2⟩:=ZdT t (dgN L) ha h;unfold Zal.f;refine Ev.bind (Zfz hs h) ?_;rw [wsum zo,← s2];have hnl:=Zf9 L;unfold numN at hnl ⊢
 generalize hA1 : A ++ L.take (dgN L) = A1 at *
 generalize hL1 : L.drop (dgN L) = L1 at *
 have hl1 : L1.length = L.length - dgN L:=by rw [← hL1,List.length_drop]
 have hno : dotN L1 = 0 → Ev (fun k => Zal.j0 k t (A.length : Int) (A1.length : Int) false) ((dgN L + dotN L1 + expN (L1.drop (dotN L1)) : Nat) : Int):=by
  intro h0;have h1:=ZiN A.length hs s1 zo;rw [h0,List.drop_zero,Nat.add_zero];rw [show A1.length + expN L1 - A.length = dgN L + expN L1 by omega] at h1;exact Ev.step (fun k => Zg9 k ..) (Zai (by decide) h1)
 cases L1 with
 | nil => exact Zai (by have:=congrArg List.length s1;rw [size_data] at this;simp at this;omega) (hno rfl)
 | cons b r =>
  obtain ⟨h3,h4⟩:=Zbr s1;rw [List.length_cons] at hl1;refine Zaj zo (Zaj zo ?_);rw [h4];by_cases c : b.toNat = 46
  ·(have h5 : t.data.toList = (A1 ++ [b]) ++ r:=by rw [s1];simp);(have h5l : ((A1 ++ [b]).length : Int) = ((A1.length + 1 : Nat) : Int):=by simp);have hrun:=Zfz hs h5;rw [h5l] at hrun;have hd:=ZcH r;refine Zaj zo ?_;rw [w64s zo];refine Ev.bind hrun ?_;by_cases c2 : 0 < dgN r
   ·rw [decide_eq_true (show ((dgN r : Nat) : Int) > 0 by omega)];(have hdot : dotN (b :: r) = 1 + dgN r:=by rw [ZbR,if_pos ⟨c,c2⟩]);obtain ⟨u1,u2⟩:=ZdT t (1 + dgN r) (by rw [List.length_cons];omega) s1;have h1:=ZiN A.length hs u1 zo;rw [hdot];rw [u2,show A1.length + (1 + dgN r) + expN ((b :: r).drop (1 + dgN r)) - A.length = dgN L + (1 + dgN r) + expN ((b :: r).drop (1 + dgN r)) by omega] at h1;refine Ev.step (fun k => Zg9 k ..) (Zaj rfl ?_);rw [w64s zo];refine Ev.bind hrun ?_;rw [wsum zo,show A1.length + 1 + dgN r = A1.length + (1 + dgN r) by omega];exact h1
   ·rw [decide_eq_false (show ¬ ((dgN r : Nat) : Int) > 0 by omega)];exact hno (by rw [ZbR,if_neg (fun hc => c2 hc.2)])
  ·exact Zai zo (hno (by rw [ZbR,if_neg (fun hc => c hc.1)]))
theorem Zl0 {t : ByteArray} {A L : List UInt8} (hs : t.size ≤ 1000) (h : t.data.toList = A ++ L) : Ev (fun k => Zah.f k t (A.length : Int)) ((numN L : Nat) : Int):=by
 (have hl : t.size = A.length + L.length:=by rw [← size_data,h,List.length_append]);have ha:=ZcH L;obtain ⟨s1,s2⟩:=ZdT t (dgN L) ha h;unfold Zah.f;refine Ev.bind (ZdU hs h) ?_;rw [wsum zo,← s2];have hnl:=Zf9 L;unfold numN at hnl ⊢
 generalize hA1 : A ++ L.take (dgN L) = A1 at *
 generalize hL1 : L.drop (dgN L) = L1 at *
 have hl1 : L1.length = L.length - dgN L:=by rw [← hL1,List.length_drop]
 have hno : dotN L1 = 0 → Ev (fun k => Zah.j0 k t (A.length : Int) (A1.length : Int) false) ((dgN L + dotN L1 + expN (L1.drop (dotN L1)) : Nat) : Int):=by
  intro h0;have h1:=Zii A.length hs s1 zo;rw [h0,List.drop_zero,Nat.add_zero];rw [show A1.length + expN L1 - A.length = dgN L + expN L1 by omega] at h1;exact Ev.step (fun k => ZgU k ..) (Zai (by decide) h1)
 rw [w64s zo]
 cases L1 with
 | nil => exact Zai (by simp at hl1;omega) (hno rfl)
 | cons b r =>
  cases r with
  | nil => exact Zai (by simp at hl1;omega) (hno (by rw [ZbR,if_neg (fun hc => absurd hc.2 (by decide))]))
  | cons d r =>
   rw [List.length_cons,List.length_cons] at hl1;obtain ⟨h3,h4⟩:=Zbr s1;(have h5 : t.data.toList = (A1 ++ [b]) ++ d :: r:=by rw [s1];simp);(have h5l : ((A1 ++ [b]).length : Int) = ((A1.length + 1 : Nat) : Int):=by simp);obtain ⟨k3,k4⟩:=Zbr h5;rw [h5l] at k4;have hrun:=ZdU hs h5;rw [h5l] at hrun;have hd:=ZcH (d :: r);rw [List.length_cons] at hd;refine Zaj zo (Zaj zo (Zaj zo ?_));rw [h4];by_cases c : b.toNat = 46
   ·refine Zaj zo (Zaj zo ?_);rw [k4];refine Ev.bind (Zaz (ZeB _)) ?_;by_cases c2 : 48 ≤ d.toNat ∧ d.toNat ≤ 57
    ·rw [decide_eq_true (show (48 : Int) ≤ ((d.toNat : Nat) : Int) ∧ ((d.toNat : Nat) : Int) ≤ 57 from ⟨by omega,by omega⟩)];(have hdot : dotN (b :: d :: r) = 1 + dgN (d :: r):=by rw [ZbR,if_pos ⟨c,Zeq.2 c2⟩]);obtain ⟨u1,u2⟩:=ZdT t (1 + dgN (d :: r)) (by rw [List.length_cons,List.length_cons];omega) s1;have h1:=Zii A.length hs u1 zo;rw [hdot];rw [u2,show A1.length + (1 + dgN (d :: r)) + expN ((b :: d :: r).drop (1 + dgN (d :: r))) - A.length = dgN L + (1 + dgN (d :: r)) + expN ((b :: d :: r).drop (1 + dgN (d :: r))) by omega] at h1;refine Ev.step (fun k => ZgU k ..) (Zaj rfl ?_);rw [w64s zo];refine Ev.bind hrun ?_;rw [wsum zo,show A1.length + 1 + dgN (d :: r) = A1.length + (1 + dgN (d :: r)) by omega];exact h1
    ·rw [decide_eq_false (show ¬ ((48 : Int) ≤ ((d.toNat : Nat) : Int) ∧ ((d.toNat : Nat) : Int) ≤ 57) by omega)];exact hno (by rw [ZbR,if_neg (fun hc => c2 (Zeq.1 hc.2))])
   ·exact Zai zo (hno (by rw [ZbR,if_neg (fun hc => c hc.1)]))
def oneL : List UInt8:=[43,45,42,47,37,60,62,61,33,40,41,123,125,44,59]
def twoL : List ByteArray:=[⟨#[61,61]⟩,⟨#[33,61]⟩,⟨#[60,61]⟩,⟨#[62,61]⟩,⟨#[38,38]⟩,⟨#[124,124]⟩]
def twoB (L : List UInt8) : Bool:=decide (2 ≤ L.length) && inB twoL ⟨(L.take 2).toArray⟩
def Zce : List UInt8 → Nat
 | [] => 0
 | b :: r => if twoB (b :: r) = true then 2 else if oneL.contains b = true then 1 else 0
theorem Zcb (b : UInt8) (r : List UInt8) : Zce (b :: r) = if twoB (b :: r) = true then 2 else if oneL.contains b = true then 1 else 0:=rfl
theorem ZhD (L : List UInt8) : Zce L ≤ L.length:=by
 cases L with
 | nil => exact Nat.le_refl _
 | cons b r =>
  rw [Zcb];split
  ·rename_i h
   unfold twoB at h;rw [Bool.and_eq_true,decide_eq_true_iff] at h;exact h.1
  ·rw [List.length_cons];split <;> omega
theorem index_ge (l : List UInt8) (c : UInt8) : decide (Lib.indexByte l c ≥ 0) = l.contains c:=by
 induction l with
 | nil => rfl
 | cons b l ih =>
  have hge:=Lib.indexByte_ge l c;unfold Lib.indexByte;rw [List.contains_cons,← ih];by_cases h : b = c
  ·subst h;rw [if_pos (beq_self_eq_true _),beq_self_eq_true];rfl
  ·rw [if_neg (by simpa using h),beq_eq_false_iff_ne.2 (fun e => h e.symm),Bool.false_or,decide_eq_decide];split
   ·rename_i h1
    (have h1 : Lib.indexByte l c = -1:=by simpa using h1);omega
   ·rename_i h1
    (have h1 : ¬ Lib.indexByte l c = -1:=by simpa using h1);omega
theorem Znr {t : ByteArray} {A L : List UInt8} (h : t.data.toList = A ++ L) : t.extract A.length (A.length + 2) = ⟨(L.take 2).toArray⟩:=by
 apply Zb0;rw [ByteArray.data_extract,Array.toList_extract,List.extract_eq_take_drop,h,List.drop_left,show A.length + 2 - A.length = 2 by omega]
theorem byte_back (b : UInt8) : ((b.toNat : Int)).toNat.toUInt8 = b:=by
 rw [Int.toNat_natCast];exact UInt8.ofNat_toNat
theorem Zgn (k : Nat) (x0 : ByteArray) (x1 : Int) (x18 : Bool) : Zbf.j0 (k + 1) x0 x1 x18 = if x18 = true then (some 2) else (if 0 ≤ x1 then (if x1 < (x0.size : Int) then ((strings_IndexByte.f (⟨#[43,45,42,47,37,60,62,61,33,40,41,123,125,44,59]⟩ : ByteArray) (bt x0 x1)).bind fun t284 => (if t284 ≥ 0 then (some 1) else (some 0))) else (none)) else (none)):=rfl
theorem ZfX (k : Nat) (x0 : ByteArray) (x1 : Int) (x22 : Bool) : ZaM.j0 (k + 1) x0 x1 x22 = if x22 = true then (some 2) else (ZaM.l0 k x0 x1 (⟨#[43,45,42,47,37,60,62,61,33,40,41,123,125,44,59]⟩ : ByteArray) 0):=rfl
theorem ZfW (k : Nat) (x0 : ByteArray) (x1 : Int) (x6 : ByteArray) (x7 : Int) : ZaM.l0 (k + 1) x0 x1 x6 x7 = if x7 < (x6.size : Int) then (if 0 ≤ x7 then (if 0 ≤ x1 then (if x1 < (x0.size : Int) then (if (bt x6 x7) = (bt x0 x1) then (some 1) else (ZaM.l0 k x0 x1 x6 (wrap64 (x7 + 1)))) else (none)) else (none)) else (none)) else (some (-1)):=rfl
theorem Zlm {t : ByteArray} {A L : List UInt8} (hs : t.size ≤ 1000) (h : t.data.toList = A ++ L) (hL : L ≠ []) : Ev (fun k => Zbf.f k t (A.length : Int)) ((Zce L : Nat) : Int):=by
 have hl : t.size = A.length + L.length:=by rw [← size_data,h,List.length_append]
 cases L with
 | nil => exact absurd rfl hL
 | cons b r =>
  obtain ⟨h3,h4⟩:=Zbr h
  have hj : twoB (b :: r) = false → Ev (fun k => Zbf.j0 k t (A.length : Int) false) ((Zce (b :: r) : Nat) : Int):=by
   intro h2
   have hi : strings_IndexByte.f (⟨#[43,45,42,47,37,60,62,61,33,40,41,123,125,44,59]⟩ : ByteArray) (b.toNat : Int) = some (Lib.indexByte oneL b):=by
    unfold strings_IndexByte.f G.strings_IndexByte;rw [byte_back];rfl
   have hg:=index_ge oneL b;refine Ev.step (fun k => Zgn k ..) (Zai (by decide) (Zaj zo (Zaj zo ?_)));rw [h4]
   have e : ((Zce (b :: r) : Nat) : Int) = if oneL.contains b = true then 1 else 0:=by
    rw [Zcb,h2,if_neg (show ¬ false = true by decide)];split <;> rfl
   rw [e,← hg];refine Ev.bind (Zaz hi) ?_;by_cases c : Lib.indexByte oneL b ≥ 0
   ·rw [decide_eq_true c];show Ev _ (1 : Int);exact Zaj c (Ev.now _)
   ·rw [decide_eq_false c];show Ev _ (0 : Int);exact Zai c (Ev.now _)
  unfold Zbf.f;rw [w64s zo];by_cases c : A.length + 1 < t.size
  ·(have hw : wrap64 ((A.length : Int) + 2) = ((A.length + 2 : Nat) : Int):=by rw [w64 zo zo];rfl);rw [hw,Int.toNat_natCast,Int.toNat_natCast,Znr h];clear hw;refine Zaj zo (Zaj zo (Zaj zo (Zaj zo (Ev.bind (ZiL twoL _ (by decide)) ?_))))
   have h2 : inB twoL ⟨((b :: r).take 2).toArray⟩ = twoB (b :: r):=by
    unfold twoB;rw [decide_eq_true zo,Bool.true_and]
   rw [h2]
   cases hb : twoB (b :: r) with
   | false => exact hj hb
   | true =>
    rw [Zcb,if_pos hb];exact Ev.step (fun k => Zgn k ..) (Zaj rfl (Ev.now _))
  ·refine Zai zo (hj ?_);unfold twoB;rw [decide_eq_false zo,Bool.false_and]
theorem Zje {t : ByteArray} {b : UInt8} {x1 : Nat} (hx : x1 < t.size) (hb : bt t (x1 : Int) = (b.toNat : Int)) : ∀ (d i : Nat),15 - i = d → i ≤ 15 → Ev (fun k => ZaM.l0 k t (x1 : Int) (⟨#[43,45,42,47,37,60,62,61,33,40,41,123,125,44,59]⟩ : ByteArray) (i : Int)) (if (oneL.drop i).contains b = true then 1 else -1):=by
 intro d
 induction d with
 | zero =>
  intro i hd hi;(obtain rfl : i = 15:=by omega);exact Ev.step (fun k => ZfW k ..) (Zai (by decide) (Ev.now _))
 | succ d ih =>
  intro i hd hi;have h1:=ih (i + 1) zo zo;have hsz : (⟨#[43,45,42,47,37,60,62,61,33,40,41,123,125,44,59]⟩ : ByteArray).size = 15:=rfl
  have hget : bt (⟨#[43,45,42,47,37,60,62,61,33,40,41,123,125,44,59]⟩ : ByteArray) (i : Int) = ((oneL.getD i 0).toNat : Int):=by
   rw [ZdN _ i (by rw [hsz];omega),List.getD_eq_getElem?_getD,List.getElem?_eq_getElem (show i < oneL.length by have : oneL.length = 15:=rfl;omega)];rfl
  have hdrop : oneL.drop i = oneL.getD i 0 :: oneL.drop (i + 1):=by
   rw [List.drop_eq_getElem_cons (show i < oneL.length by have : oneL.length = 15:=rfl;omega),List.getD_eq_getElem?_getD,List.getElem?_eq_getElem (show i < oneL.length by have : oneL.length = 15:=rfl;omega)];rfl
  refine Ev.step (fun k => ZfW k ..) ?_;rw [hget,hb,hdrop,List.contains_cons,w64s zo,hsz];refine Zaj zo (Zaj zo (Zaj zo (Zaj zo ?_)));by_cases c : oneL.getD i 0 = b
  ·rw [c,beq_self_eq_true,Bool.true_or,if_pos rfl];exact Zaj rfl (Ev.now _)
  ·rw [beq_eq_false_iff_ne.2 (fun e => c e.symm),Bool.false_or];refine Zai (fun e => c ?_) h1;exact UInt8.toNat.inj zo
theorem ZkX {t : ByteArray} {A L : List UInt8} (hs : t.size ≤ 1000) (h : t.data.toList = A ++ L) (hL : L ≠ []) : Ev (fun k => ZaM.f k t (A.length : Int)) (if Zce L = 0 then -1 else ((Zce L : Nat) : Int)):=by
 have hl : t.size = A.length + L.length:=by rw [← size_data,h,List.length_append]
 cases L with
 | nil => exact absurd rfl hL
 | cons b r =>
  obtain ⟨h3,h4⟩:=Zbr h
  have hj : twoB (b :: r) = false → Ev (fun k => ZaM.j0 k t (A.length : Int) false) (if Zce (b :: r) = 0 then -1 else ((Zce (b :: r) : Nat) : Int)):=by
   intro h2;have h5:=Zje h3 h4 15 0 zo zo;rw [List.drop_zero] at h5
   have e : (if Zce (b :: r) = 0 then -1 else ((Zce (b :: r) : Nat) : Int)) = if oneL.contains b = true then 1 else -1:=by
    rw [Zcb,h2,if_neg (show ¬ false = true by decide)];split <;> rfl
   rw [e];exact Ev.step (fun k => ZfX k ..) (Zai (by decide) h5)
  (have hw : wrap64 ((A.length : Int) + 2) = ((A.length + 2 : Nat) : Int):=by rw [w64 zo zo];rfl);unfold ZaM.f;rw [hw,Int.toNat_natCast,Int.toNat_natCast,Znr h];clear hw;by_cases c : A.length + 2 ≤ t.size
  ·refine Zaj zo (Zaj zo (Zaj zo (Ev.bind (Zj7 twoL _ (by decide)) ?_)))
   have h2 : inB twoL ⟨((b :: r).take 2).toArray⟩ = twoB (b :: r):=by
    unfold twoB;rw [decide_eq_true zo,Bool.true_and]
   rw [h2]
   cases hb : twoB (b :: r) with
   | false => exact hj hb
   | true =>
    rw [Zcb,if_pos hb];exact Ev.step (fun k => ZfX k ..) (Zaj rfl (Ev.now _))
  ·refine Zai zo (hj ?_);unfold twoB;rw [decide_eq_false zo,Bool.false_and]
theorem Zdn (a b c : Int) : Zax.f a b c = some (decide (b ≤ a ∧ a ≤ c)):=by
 unfold Zax.f;by_cases h : a ≥ b
 ·rw [if_pos h];simp;omega
 ·rw [if_neg h];simp;omega
theorem Zho (a b c : Int) : Za6.f a b c = some (decide (b ≤ a ∧ a ≤ c)):=by
 unfold Za6.f;by_cases h : a ≥ b
 ·rw [if_pos h];simp;omega
 ·rw [if_neg h];simp;omega
theorem Zji (s : ByteArray) (hs : s.size ≤ 140737488351232) : ∀ (d i : Nat),s.size - i = d → Ev (fun k => Zar.l0 k s i) (digB s i):=by
 intro d
 induction d with
 | zero =>
  intro i hd;rw [Zkv s i zo];exact Ev.step (f:=fun _ => some true) (fun k => by simp only [Zar.l0];rw [if_neg zo]) (Ev.now _)
 | succ d ih =>
  intro i hd;by_cases h1 : bt s i < 48
  ·rw [ZjK s i zo (.inl h1)];exact Ev.step (f:=fun _ => some false) (fun k => by simp only [Zar.l0];rw [if_pos zo,if_pos zo,if_pos h1]) (Ev.now _)
  ·by_cases h2 : bt s i > 57
   ·rw [ZjK s i zo (.inr h2)];exact Ev.step (f:=fun _ => some false) (fun k => by simp only [Zar.l0];rw [if_pos zo,if_pos zo,if_neg h1,if_pos h2]) (Ev.now _)
   ·rw [Zku s i zo];exact Ev.step (fun k => by simp only [Zar.l0];rw [if_pos zo,if_pos zo,if_neg h1,if_neg h2,w64 zo zo];rfl) (ih (i + 1) zo)
theorem Zn0 (s : ByteArray) (hs : s.size ≤ 140737488351232) : Ev (fun k => Zar.f k s) (Zcd s):=by
 have h0:=Zji s hs s.size 0 zo;unfold Zar.f;rw [Zho];simp only [Option.bind_some];by_cases h1 : 1 ≤ s.size ∧ s.size ≤ 800
 ·have e1 : decide ((1 : Int) ≤ (s.size : Int) ∧ (s.size : Int) ≤ 800) = true:=decide_eq_true zo;simp only [e1,if_true];by_cases h2 : (s.size : Int) > 1
  ·simp only [if_pos h2,if_pos (show (0 : Int) < (s.size : Int) by omega)];by_cases h3 : bt s 0 = 48
   ·(have e : Zcd s = false:=by unfold Zcd;simp [h3];omega);rw [e];exact Ev.step (f:=fun _ => some false) (fun k => by simp [Zar.j0,h3]) (Ev.now _)
   ·(have e : Zcd s = digB s 0:=by unfold Zcd;simp [h3,h1]);rw [e];exact Ev.step (fun k => by simp only [Zar.j0];rw [if_neg (by simpa using h3)];rfl) h0
  ·simp only [if_neg h2]
   have e : Zcd s = digB s 0:=by
    unfold Zcd;have : decide (1 < s.size) = false:=decide_eq_false zo;simp [h1,this]
   rw [e];exact Ev.step (fun k => by simp only [Zar.j0];rw [if_neg (by simp)];rfl) h0
 ·have e1 : decide ((1 : Int) ≤ (s.size : Int) ∧ (s.size : Int) ≤ 800) = false:=decide_eq_false zo;(have e : Zcd s = false:=by unfold Zcd;rw [decide_eq_false h1];rfl);simp only [e1,e];exact Ev.step (f:=fun _ => some false) (fun k => by simp [Zar.j0]) (Ev.now _)
theorem Zkx (u : ByteArray) (a b : Nat) : (u.extract a b).data.toList = (u.data.toList.drop a).take (b - a):=by
 rw [ByteArray.data_extract,Array.toList_extract,List.extract_eq_take_drop]
def dotL (D : List UInt8) : List UInt8:=if D = [] then [] else 46 :: D
def expL (sg : UInt8) (D : List UInt8) : List UInt8:=if D = [] then [] else 101 :: sg :: D
theorem ZfC : dotL [] = []:=rfl
theorem ZdL {D : List UInt8} (h : D ≠ []) : dotL D = 46 :: D:=if_neg h
def figT (l : List UInt8) : ByteArray:=if Lib.trimLeftB l 48 = [] then ⟨#[48]⟩ else ⟨(Lib.trimLeftB l 48).toArray⟩
structure Told (t : ByteArray) (g : ByteArray) (E : Int) (D1 D2 D3 : List UInt8) (sg : UInt8) : Prop where mk ::
 text : t.data.toList = D1 ++ (dotL D2 ++ expL sg D3)
 l1 : 1 ≤ D1.length
 u1 : D1.length ≤ 30
 u2 : D2.length ≤ 30
 u3 : D3.length ≤ 3
 d1 : ∀ b ∈ D1,isDg b
 d2 : ∀ b ∈ D2,isDg b
 d3 : ∀ b ∈ D3,isDg b
 sign : sg = 43 ∨ sg = 45
 trim : g = figT (D1 ++ D2)
 exp : E = (if sg = 45 then -((valD D3 : Nat) : Int) else ((valD D3 : Nat) : Int)) - D2.length
theorem atoi_dg {D : List UInt8} (hne : D ≠ []) (hd : ∀ b ∈ D,isDg b) : Lib.atoi D = some ((valD D : Nat) : Int):=by
 have h : ∀ (l : List UInt8) (n : Nat),(∀ b ∈ l,isDg b) → Lib.decFrom n l = some (l.foldl (fun n b => 10 * n + (b.toNat - 48)) n):=by
  intro l
  induction l with
  | nil => intro n _;rfl
  | cons b r ih =>
   intro n hl;have hb:=hl b (by simp);unfold isDg at hb;unfold Lib.decFrom Lib.digitVal;rw [if_pos hb];show Lib.decFrom (n * 10 + (b.toNat - 48)) r = _;rw [ih _ (fun c hc => hl c (by simp [hc])),Nat.mul_comm n 10];rfl
 cases D with
 | nil => exact absurd rfl hne
 | cons b r =>
  have hb:=hd b (by simp);unfold isDg at hb;(have h45 : ¬ (b == 45) = true:=fun h => by rw [eq_of_beq h] at hb;exact absurd hb.1 (by decide));(have h43 : ¬ (b == 43) = true:=fun h => by rw [eq_of_beq h] at hb;exact absurd hb.1 (by decide));unfold Lib.atoi;dsimp only;rw [if_neg h45,if_neg h43];unfold Lib.decNat;rw [if_neg (by simp),h _ 0 hd];rfl
theorem Zjv : ¬ isDg 46:=fun h => absurd h.1 (by decide)
theorem ZeH : ¬ isDg 101:=fun h => absurd h.2 (by decide)
theorem ZiP (a : Int) : ZaR.f a = some (decide (48 ≤ a ∧ a ≤ 57)):=by
 unfold ZaR.f;by_cases h : a ≥ 48
 ·rw [if_pos h];simp;omega
 ·rw [if_neg h];simp;omega
theorem Zg2 (s : ByteArray) (E : Int) (hs : s.size ≤ 140737488351232) : Zbo.f s E = some ((G.ZgG s E : Nat) : Int):=by
 unfold Zbo.f G.Zbo;rw [if_pos hs]
theorem Zil (k : Nat) (x0 : ByteArray) (x1 : Int) (x5 : Int) : Zan.l0 (k + 1) x0 x1 x5 = if (wrap64 (x1 + x5)) < (x0.size : Int) then (if 0 ≤ (wrap64 (x1 + x5)) then ((ZaR.f (bt x0 (wrap64 (x1 + x5)))).bind fun t231 => (if t231 = true then (Zan.l0 k x0 x1 (wrap64 (x5 + 1))) else (some x5))) else (none)) else (some x5):=rfl
theorem Ze4 (k : Nat) (x0 : ByteArray) (x5 : ByteArray) (x6 : Int) (x7 : Int) (x31 : Bool) : Zae.j0 (k + 1) x0 x5 x6 x7 x31 = if x31 = true then ((Zan.f k x0 (wrap64 (x6 + 1))).bind fun t234 => ((Zax.f t234 1 30).bind fun t235 => (if t235 = true then (if 0 ≤ (wrap64 (x6 + 1)) then (if (wrap64 (x6 + 1)) ≤ (wrap64 ((wrap64 (x6 + 1)) + t234)) then (if (wrap64 ((wrap64 (x6 + 1)) + t234)) ≤ (x0.size : Int) then (if x5.size + (x0.extract ((wrap64 (x6 + 1)) : Int).toNat ((wrap64 ((wrap64 (x6 + 1)) + t234)) : Int).toNat).size ≤ 9223372036854775807 then (Zae.j1 k x0 (x5 ++ (x0.extract ((wrap64 (x6 + 1)) : Int).toNat ((wrap64 ((wrap64 (x6 + 1)) + t234)) : Int).toNat)) (wrap64 ((wrap64 (x6 + 1)) + t234)) (wrap64 (-t234))) else (none)) else (none)) else (none)) else (none)) else (some (0,false))))) else (Zae.j1 k x0 x5 x6 x7):=rfl
theorem ZgY (k : Nat) (x0 : ByteArray) (x5 : ByteArray) (x6 : Int) (x7 : Int) : Zae.j1 (k + 1) x0 x5 x6 x7 = if x6 < (x0.size : Int) then (if 0 ≤ x6 then (Zae.j2 k x0 x5 x6 x7 ((bt x0 x6) == 101)) else (none)) else (Zae.j2 k x0 x5 x6 x7 false):=rfl
theorem ZgX (k : Nat) (x0 : ByteArray) (x5 : ByteArray) (x6 : Int) (x7 : Int) (x64 : Bool) : Zae.j2 (k + 1) x0 x5 x6 x7 x64 = if x64 = true then (if (wrap64 (x6 + 1)) < (x0.size : Int) then (if 0 ≤ (wrap64 (x6 + 1)) then (Zae.j3 k x0 x5 (wrap64 (x6 + 1)) x7 ((bt x0 (wrap64 (x6 + 1))) == 45)) else (none)) else (Zae.j3 k x0 x5 (wrap64 (x6 + 1)) x7 false)) else (Zae.j6 k x0 x5 x6 x7):=rfl
theorem Zk6 (k : Nat) (x0 : ByteArray) (x5 : ByteArray) (x6 : Int) (x7 : Int) : Zae.j6 (k + 1) x0 x5 x6 x7 = if x6 = (x0.size : Int) then ((Za7.f x5 (⟨#[48]⟩ : ByteArray)).bind fun t240 => (if t240.toList = ([] : List UInt8) then ((Zbo.f (⟨#[48]⟩ : ByteArray) x7).bind fun t241 => (some (t241,true))) else ((Zbo.f t240 x7).bind fun t242 => (some (t242,true))))) else (some (0,false)):=rfl
theorem Ze3 (k : Nat) (x0 : ByteArray) (x5 : ByteArray) (x6 : Int) (x7 : Int) (x9 : Bool) : Zae.j3 (k + 1) x0 x5 x6 x7 x9 = if x9 = true then (Zae.j4 k x0 x5 x6 x7 x9 true) else (if x6 < (x0.size : Int) then (if 0 ≤ x6 then (Zae.j4 k x0 x5 x6 x7 x9 ((bt x0 x6) == 43)) else (none)) else (Zae.j4 k x0 x5 x6 x7 x9 false)):=rfl
theorem Ze2 (k : Nat) (x0 : ByteArray) (x5 : ByteArray) (x6 : Int) (x7 : Int) (x9 : Bool) (x89 : Bool) : Zae.j4 (k + 1) x0 x5 x6 x7 x9 x89 = if x89 = true then (Zae.j5 k x0 x5 (wrap64 (x6 + 1)) x7 x9) else (Zae.j5 k x0 x5 x6 x7 x9):=rfl
theorem Ze1 (k : Nat) (x0 : ByteArray) (x5 : ByteArray) (x6 : Int) (x7 : Int) (x9 : Bool) : Zae.j5 (k + 1) x0 x5 x6 x7 x9 = (Zan.f k x0 x6).bind fun t236 => ((Zax.f t236 1 3).bind fun t237 => (if t237 = true then (if 0 ≤ x6 then (if x6 ≤ (wrap64 (x6 + t236)) then (if (wrap64 (x6 + t236)) ≤ (x0.size : Int) then ((strconv_Atoi.f (x0.extract (x6 : Int).toNat ((wrap64 (x6 + t236)) : Int).toNat)).bind fun bt238 => (if x9 = true then (Zae.j6 k x0 x5 (wrap64 (x6 + t236)) (wrap64 (x7 + (wrap64 (-bt238.1))))) else (Zae.j6 k x0 x5 (wrap64 (x6 + t236)) (wrap64 (x7 + bt238.1))))) else (none)) else (none)) else (none)) else (some (0,false)))):=rfl
theorem Zfe {t : ByteArray} {X Y Z : List UInt8} (h : t.data.toList = X ++ (Y ++ Z)) {a b : Nat} (ha : a = X.length) (hb : b = X.length + Y.length) : t.extract a b = ⟨Y.toArray⟩:=by
 apply Zb0;subst ha hb;rw [Zkx,h,List.drop_left,show X.length + Y.length - X.length = Y.length by omega,List.take_left]
theorem Zn7 {t : ByteArray} {A C : List UInt8} (hs : t.size ≤ 1000) (hC : ∀ c,C.head? = some c → ¬ isDg c) : ∀ (B2 B1 : List UInt8),(∀ b ∈ B2,isDg b) → t.data.toList = A ++ (B1 ++ (B2 ++ C)) →
  Ev (fun k => Zan.l0 k t (A.length : Int) (B1.length : Int)) (((B1 ++ B2).length : Nat) : Int):=by
 intro B2
 induction B2 with
 | nil =>
  intro B1 _ h;(have hl : t.size = A.length + (B1.length + C.length):=by rw [← size_data,h,List.length_append,List.length_append,List.nil_append]);refine Ev.step (fun k => Zil k ..) ?_;rw [wsum zo,← List.length_append,List.append_nil]
  cases C with
  | nil => exact Zai (by rw [List.length_append];simp at hl;omega) (Ev.now _)
  | cons c C =>
   (have h2 : t.data.toList = (A ++ B1) ++ c :: C:=by rw [h,List.nil_append,List.append_assoc]);obtain ⟨h3,h4⟩:=Zbr h2;have h5:=hC c rfl;refine Zaj zo (Zaj zo ?_);rw [h4];refine Ev.bind (Zaz (ZiP _)) (Zai ?_ (Ev.now _));rw [decide_eq_true_iff];unfold isDg at h5;omega
 | cons b B2 ih =>
  intro B1 hd h;have hb:=hd b (by simp);unfold isDg at hb;(have hl : t.size = A.length + (B1.length + (B2.length + 1 + C.length)):=by rw [← size_data,h];simp;omega);(have h2 : t.data.toList = (A ++ B1) ++ b :: (B2 ++ C):=by rw [h];simp);obtain ⟨h3,h4⟩:=Zbr h2;have h5:=ih (B1 ++ [b]) (fun c hc => hd c (by simp [hc])) (by rw [h];simp);rw [List.append_assoc,List.length_append,List.length_singleton] at h5;refine Ev.step (fun k => Zil k ..) ?_;rw [wsum zo,← List.length_append];refine Zaj zo (Zaj zo ?_);rw [h4];refine Ev.bind (Zaz (ZiP _)) (Zaj (by rw [decide_eq_true_iff];omega) ?_);rw [w64s zo];exact h5
theorem Zmb {t : ByteArray} {A B C : List UInt8} (hs : t.size ≤ 1000) (h : t.data.toList = A ++ (B ++ C)) (hB : ∀ b ∈ B,isDg b) (hC : ∀ c,C.head? = some c → ¬ isDg c) : Ev (fun k => Zan.f k t (A.length : Int)) (B.length : Int):=by
 have h1:=Zn7 (A:=A) hs hC B [] hB (by rw [h,List.nil_append]);unfold Zan.f;exact h1
theorem Zir {t : ByteArray} {l : List UInt8} (E : Int) (hl : l.length ≤ 100) (hs : t.size ≤ 1000) : Ev (fun k => Zae.j6 k t ⟨l.toArray⟩ (t.size : Int) E) (((G.ZgG (figT l) E : Nat) : Int),true):=by
 have htl : Za7.f ⟨l.toArray⟩ (⟨#[48]⟩ : ByteArray) = some ⟨(Lib.trimLeftB l 48).toArray⟩:=by
  unfold Za7.f G.Za7;rw [if_pos rfl]
 have hle : (Lib.trimLeftB l 48).length ≤ l.length:=by
  unfold Lib.trimLeftB;exact (List.dropWhile_sublist _).length_le
 refine Ev.step (fun k => Zk6 k ..) (Zaj rfl (Ev.bind (Zaz htl) ?_));unfold figT;by_cases hc : Lib.trimLeftB l 48 = []
 ·rw [if_pos hc];refine Zaj (by rw [ByteArray.toList_eq,hc]) (Ev.bind (Zaz (Zg2 _ E ?_)) (Ev.now _));show 1 ≤ 140737488351232;omega
 ·rw [if_neg hc];refine Zai (by rw [ByteArray.toList_eq];simpa using hc) (Ev.bind (Zaz (Zg2 _ E ?_)) (Ev.now _));show (Lib.trimLeftB l 48).toArray.size ≤ _;rw [List.size_toArray];omega
def expS (S D : List UInt8) : List UInt8:=if D = [] then [] else 101 :: (S ++ D)
theorem ZfB (S : List UInt8) : expS S [] = []:=rfl
theorem ZdJ (S : List UInt8) {D : List UInt8} (h : D ≠ []) : expS S D = 101 :: (S ++ D):=if_neg h
theorem ZeO (S D : List UInt8) : ∀ c,(expS S D).head? = some c → c = 101:=by
 intro c h;unfold expS at h;split at h
 ·cases h
 ·exact (Option.some.inj h).symm
def Sgn (S : List UInt8) : Prop:=S = [] ∨ S = [43] ∨ S = [45]
theorem ZiM {t : ByteArray} {H l S D3 : List UInt8} {q : Int} (h : t.data.toList = H ++ expS S D3) (hs : t.size ≤ 1000) (hl : l.length ≤ 100) (hd : ∀ b ∈ D3,isDg b) (hS : Sgn S) (hq0 : -100 ≤ q) (hq1 : q ≤ 100) :
  ∃ x : Nat,Ev (fun k => Zae.j1 k t ⟨l.toArray⟩ (H.length : Int) q) ((x : Int),decide (D3.length ≤ 3)):=by
 by_cases hD : D3 = []
 ·subst hD;(have hsz : t.size = H.length:=by rw [← size_data,h,ZfB,List.append_nil]);refine ⟨G.ZgG (figT l) q,?_⟩;rw [← hsz];refine Ev.step (fun k => ZgY k ..) (Zai zo ?_);exact Ev.step (fun k => ZgX k ..) (Zai (by decide) (Zir q hl hs))
 ·(have h1 : t.data.toList = H ++ 101 :: (S ++ D3):=by rw [h,ZdJ S hD]);have hD1 : 1 ≤ D3.length:=List.length_pos_iff.2 hD;(have hsz : t.size = H.length + (1 + S.length + D3.length):=by rw [← size_data,h1];simp;omega);obtain ⟨b1,b2⟩:=Zbr h1
  have hj5 : ∀ (below : Bool),∃ x : Nat,Ev (fun k => Zae.j5 k t ⟨l.toArray⟩ ((H.length + 1 + S.length : Nat) : Int) q below) ((x : Int),decide (D3.length ≤ 3)):=by
   intro below;(have h4 : t.data.toList = (H ++ (101 :: S)) ++ (D3 ++ []):=by rw [h1];simp);(have hlen : ((H ++ (101 :: S)).length : Int) = ((H.length + 1 + S.length : Nat) : Int):=by rw [List.length_append,List.length_cons];omega);have hrun:=Zmb hs h4 hd (fun c hc => by cases hc);rw [hlen] at hrun;by_cases c3 : D3.length ≤ 3
   ·have hv : valD D3 < 1000:=Nat.lt_of_lt_of_le (Zhk D3 hd) (Nat.pow_le_pow_right zo c3);have hcut : t.extract (H.length + 1 + S.length) (H.length + 1 + S.length + D3.length) = ⟨D3.toArray⟩:=Zfe h4 (by rw [List.length_append,List.length_cons];omega) (by rw [List.length_append,List.length_cons];omega)
    have hat : strconv_Atoi.f ⟨D3.toArray⟩ = some (((valD D3 : Nat) : Int),none):=by
     unfold strconv_Atoi.f G.strconv_Atoi;rw [if_pos (by show D3.toArray.size ≤ 18;rw [List.size_toArray];omega)];show (Lib.atoi D3.toArray.toList).map _ = _;rw [List.toList_toArray,atoi_dg hD hd];rfl
    (have hz : ((H.length + 1 + S.length + D3.length : Nat) : Int) = (t.size : Int):=by omega);rw [decide_eq_true c3];have key : ∀ E,Ev (fun k => Zae.j6 k t ⟨l.toArray⟩ (t.size : Int) E) (((G.ZgG (figT l) E : Nat) : Int),true):=fun E => Zir E hl hs
    cases below with
    | true =>
     refine ⟨G.ZgG (figT l) (wrap64 (q + wrap64 (-((valD D3 : Nat) : Int)))),Ev.step (fun k => Ze1 k ..) (Ev.bind hrun (Ev.bind (Zaz (Zdn _ _ _)) (Zaj (decide_eq_true ⟨by omega,by omega⟩) ?_)))⟩
     ·rw [wsum zo,Int.toNat_natCast,Int.toNat_natCast,hcut];refine Zaj zo (Zaj zo (Zaj zo (Ev.bind (Zaz hat) (Zaj rfl ?_))));rw [hz];exact key _
    | false =>
     refine ⟨G.ZgG (figT l) (wrap64 (q + ((valD D3 : Nat) : Int))),Ev.step (fun k => Ze1 k ..) (Ev.bind hrun (Ev.bind (Zaz (Zdn _ _ _)) (Zaj (decide_eq_true ⟨by omega,by omega⟩) ?_)))⟩
     ·rw [wsum zo,Int.toNat_natCast,Int.toNat_natCast,hcut];refine Zaj zo (Zaj zo (Zaj zo (Ev.bind (Zaz hat) (Zai (by decide) ?_))));rw [hz];exact key _
   ·rw [decide_eq_false c3];refine ⟨0,Ev.step (fun k => Ze1 k ..) (Ev.bind hrun (Ev.bind (Zaz (Zdn _ _ _)) (Zai ?_ (Ev.now _))))⟩;rw [decide_eq_true_iff];omega
  obtain ⟨x5,h5⟩:=hj5 false;obtain ⟨x6,h6⟩:=hj5 true
  have hj1 : ∀ r,Ev (fun k => if wrap64 ((H.length : Int) + 1) < (t.size : Int) then (if 0 ≤ wrap64 ((H.length : Int) + 1) then Zae.j3 k t ⟨l.toArray⟩ (wrap64 ((H.length : Int) + 1)) q ((bt t (wrap64 ((H.length : Int) + 1))) == 45) else none) else Zae.j3 k t ⟨l.toArray⟩ (wrap64 ((H.length : Int) + 1)) q false) r → Ev (fun k => Zae.j1 k t ⟨l.toArray⟩ (H.length : Int) q) r:=by
   intro r hr;refine Ev.step (fun k => ZgY k ..) (Zaj zo (Zaj zo ?_));rw [b2];exact Ev.step (fun k => ZgX k ..) (Zaj rfl hr)
  rcases hS with rfl | rfl | rfl
  ·-- no sign: a figure stands there
   cases D3 with
   | nil => exact absurd rfl hD
   | cons d r3 =>
    have hdd:=hd d (by simp);unfold isDg at hdd;(have h2 : t.data.toList = (H ++ [101]) ++ d :: r3:=by rw [h1];simp);obtain ⟨c1,c2⟩:=Zbr h2;rw [List.length_append,List.length_singleton] at c1 c2;refine ⟨x5,hj1 _ ?_⟩;rw [w64s zo];refine Zaj zo (Zaj zo ?_);rw [c2];(have e45 : (((d.toNat : Nat) : Int) == 45) = false:=by rw [beq_eq_false_iff_ne];omega);(have e43 : (((d.toNat : Nat) : Int) == 43) = false:=by rw [beq_eq_false_iff_ne];omega);rw [e45];refine Ev.step (fun k => Ze3 k ..) (Zai (by decide) (Zaj zo (Zaj zo ?_)));rw [c2,e43];exact Ev.step (fun k => Ze2 k ..) (Zai (by decide) h5)
  ·(have h2 : t.data.toList = (H ++ [101]) ++ 43 :: D3:=by rw [h1];simp);obtain ⟨c1,c2⟩:=Zbr h2;rw [List.length_append,List.length_singleton] at c1 c2;refine ⟨x5,hj1 _ ?_⟩;rw [w64s zo];refine Zaj zo (Zaj zo ?_);rw [c2];refine Ev.step (fun k => Ze3 k ..) (Zai (by decide) (Zaj zo (Zaj zo ?_)));rw [c2];refine Ev.step (fun k => Ze2 k ..) (Zaj rfl ?_);rw [w64s zo];exact h5
  ·(have h2 : t.data.toList = (H ++ [101]) ++ 45 :: D3:=by rw [h1];simp);obtain ⟨c1,c2⟩:=Zbr h2;rw [List.length_append,List.length_singleton] at c1 c2;refine ⟨x6,hj1 _ ?_⟩;rw [w64s zo];refine Zaj zo (Zaj zo ?_);rw [c2];refine Ev.step (fun k => Ze3 k ..) (Zaj rfl ?_);refine Ev.step (fun k => Ze2 k ..) (Zaj rfl ?_);rw [w64s zo];exact h6
theorem Zll {t : ByteArray} {D1 D2 S D3 : List UInt8} (h : t.data.toList = D1 ++ (dotL D2 ++ expS S D3)) (hs : t.size ≤ 1000) (h1 : D1 ≠ []) (d1 : ∀ b ∈ D1,isDg b) (d2 : ∀ b ∈ D2,isDg b) (d3 : ∀ b ∈ D3,isDg b) (hS : Sgn S) :
  ∃ x : Nat,Ev (fun k => Zae.f k t) ((x : Int),decide (D1.length ≤ 30 ∧ D2.length ≤ 30 ∧ D3.length ≤ 3)):=by
 have hrest : ∀ c,(dotL D2 ++ expS S D3).head? = some c → ¬ isDg c:=by
  intro c hc;by_cases h2 : D2 = []
  ·rw [h2,ZfC,List.nil_append] at hc;rw [ZeO S D3 c hc];exact ZeH
  ·rw [ZdL h2,List.cons_append] at hc;rw [← Option.some.inj hc];exact Zjv
 have hl1 : 1 ≤ D1.length:=List.length_pos_iff.2 h1;have hrun:=Zmb (t:=t) (A:=[]) (B:=D1) (C:=dotL D2 ++ expS S D3) zo (by rw [h,List.nil_append]) d1 hrest;(have hle : D1.length ≤ t.size:=by rw [← size_data,h,List.length_append];omega);have hcut1 : t.extract 0 D1.length = ⟨D1.toArray⟩:=Zfe (X:=[]) (by rw [h,List.nil_append]) rfl (by simp);by_cases c1 : D1.length ≤ 30
 ·-- few enough ahead of the Ziv
  have hgo : ∀ r,Ev (fun k => if ((D1.length : Nat) : Int) < (t.size : Int) then Zae.j0 k t ⟨D1.toArray⟩ (D1.length : Int) 0 ((bt t (D1.length : Int)) == 46) else Zae.j0 k t ⟨D1.toArray⟩ (D1.length : Int) 0 false) r → Ev (fun k => Zae.f k t) r:=by
   intro r hr;unfold Zae.f;refine Ev.bind hrun (Ev.bind (Zaz (Zdn _ _ _)) (Zaj (decide_eq_true ⟨by omega,by omega⟩) (Zaj zo (Zaj zo ?_))));rw [Int.toNat_natCast,hcut1];exact hr
  by_cases hD : D2 = []
  ·subst hD;rw [ZfC,List.nil_append] at h;obtain ⟨x,hx⟩:=ZiM (l:=D1) (q:=0) h hs zo d3 hS zo zo
   have e : decide (D1.length ≤ 30 ∧ ([] : List UInt8).length ≤ 30 ∧ D3.length ≤ 3) = decide (D3.length ≤ 3):=by
    rw [decide_eq_decide];exact ⟨fun hh => hh.2.2,fun hh => ⟨c1,by decide,hh⟩⟩
   rw [e];have hj0 : Ev (fun k => Zae.j0 k t ⟨D1.toArray⟩ (D1.length : Int) 0 false) ((x : Int),decide (D3.length ≤ 3)):=Ev.step (fun k => Ze4 k ..) (Zai (by decide) hx);refine ⟨x,hgo _ ?_⟩;by_cases hD3 : D3 = []
   ·(have hs2 : t.size = D1.length:=by rw [← size_data,h,hD3,ZfB,List.append_nil]);exact Zai zo hj0
   ·obtain ⟨b1,b2⟩:=Zbr (h.trans (congrArg (D1 ++ ·) (ZdJ S hD3)));refine Zaj zo ?_;rw [b2];exact hj0
  ·(have h2 : t.data.toList = D1 ++ 46 :: (D2 ++ expS S D3):=by rw [h,ZdL hD];simp);(have h3 : t.data.toList = (D1 ++ [46]) ++ (D2 ++ expS S D3):=by rw [h2];simp);(have h4 : t.data.toList = (D1 ++ (46 :: D2)) ++ expS S D3:=by rw [h2];simp);(have hsz2 : D1.length + 1 + D2.length ≤ t.size:=by rw [← size_data,h2];simp;omega);obtain ⟨b1,b2⟩:=Zbr h2;have hrun2:=Zmb zo h3 d2 (fun c hc => by rw [ZeO S D3 c hc];exact ZeH);rw [List.length_append,List.length_singleton] at hrun2;have hD1 : 1 ≤ D2.length:=List.length_pos_iff.2 hD;by_cases c2 : D2.length ≤ 30
   ·have hcut2 : t.extract (D1.length + 1) (D1.length + 1 + D2.length) = ⟨D2.toArray⟩:=Zfe h3 (by simp) (by simp);obtain ⟨x,hx⟩:=ZiM (l:=D1 ++ D2) (q := -(D2.length : Int)) h4 hs (by rw [List.length_append];omega) d3 hS zo zo;(have hlen : ((D1 ++ (46 :: D2)).length : Int) = ((D1.length + 1 + D2.length : Nat) : Int):=by rw [List.length_append,List.length_cons];omega);rw [hlen] at hx;have happ : (⟨D1.toArray⟩ : ByteArray) ++ (⟨D2.toArray⟩ : ByteArray) = ⟨(D1 ++ D2).toArray⟩:=by apply Zb0;rw [Zcj]
    have e : decide (D1.length ≤ 30 ∧ D2.length ≤ 30 ∧ D3.length ≤ 3) = decide (D3.length ≤ 3):=by
     rw [decide_eq_decide];exact ⟨fun hh => hh.2.2,fun hh => ⟨c1,c2,hh⟩⟩
    rw [e];refine ⟨x,hgo _ (Zaj zo ?_)⟩;rw [b2];refine Ev.step (fun k => Ze4 k ..) (Zaj rfl ?_);rw [w64s zo];refine Ev.bind hrun2 (Ev.bind (Zaz (Zdn _ _ _)) (Zaj (decide_eq_true ⟨by omega,by omega⟩) ?_));rw [wsum zo,Int.toNat_natCast,Int.toNat_natCast,hcut2,happ,w64 (x := -(D2.length : Int)) zo zo];refine Zaj zo (Zaj zo (Zaj zo (Zaj ?_ hx)));show D1.toArray.size + D2.toArray.size ≤ _;rw [List.size_toArray,List.size_toArray];omega
   ·rw [decide_eq_false (fun hh => c2 hh.2.1)];refine ⟨0,hgo _ (Zaj zo ?_)⟩;rw [b2];refine Ev.step (fun k => Ze4 k ..) (Zaj rfl ?_);rw [w64s zo];refine Ev.bind hrun2 (Ev.bind (Zaz (Zdn _ _ _)) (Zai ?_ (Ev.now _)));rw [decide_eq_true_iff];omega
 ·rw [decide_eq_false (fun hh => c1 hh.1)];refine ⟨0,?_⟩;unfold Zae.f;refine Ev.bind hrun (Ev.bind (Zaz (Zdn _ _ _)) (Zai ?_ (Ev.now _)));rw [decide_eq_true_iff];omega
def valI (B : Int) : List Int → Int
 | [] => 0
 | x :: l => x + B * valI B l
theorem Zc8 (B : Int) (l m : List Int) : valI B (l ++ m) = valI B l + B ^ l.length * valI B m:=by
 induction l with
 | nil => simp [valI]
 | cons x l ih =>
  simp only [List.cons_append,valI,ih,List.length_cons,Int.pow_succ]
  grind
theorem Zb1 (B : Int) (l : List Int) (i : Nat) (h : i < l.length) : valI B (l.take (i + 1)) = valI B (l.take i) + B ^ i * l.getD i 0:=by
 rw [List.take_succ_eq_append_getElem h,Zc8];(have : (l.take i).length = i:=by simp;omega);rw [this];simp [valI,List.getD_eq_getElem?_getD,List.getElem?_eq_getElem h]
theorem ZkL (B : Int) (n : Nat) : valI B (List.replicate n 0) = 0:=by
 induction n with
 | zero => rfl
 | succ n ih => rw [List.replicate_succ];simp [valI,ih]
theorem ZkM (B : Int) (l : List Int) (i : Nat) (h : i ≤ l.length) : valI B l = valI B (l.take i) + B ^ i * valI B (l.drop i):=by
 conv => lhs;rw [← List.take_append_drop i l]
 rw [Zc8];(have : (l.take i).length = i:=by simp;omega);rw [this]
theorem ZkN (B : Int) (hB : 0 < B) (l : List Int) (h : ∀ x ∈ l,0 ≤ x ∧ x < B) : 0 ≤ valI B l ∧ valI B l < B ^ l.length:=by
 induction l with
 | nil => simp [valI]
 | cons x l ih =>
  have h1:=h x (by simp);have h2:=ih (fun y hy => h y (by simp [hy]));simp only [valI,List.length_cons,Int.pow_succ];have h3 : 0 ≤ B * valI B l:=Int.mul_nonneg zo h2.1;have h4 : B * valI B l ≤ B * (B ^ l.length - 1):=Int.mul_le_mul_of_nonneg_left zo zo;(have h5 : B * (B ^ l.length - 1) = B ^ l.length * B - B:=by grind);omega
theorem ZdC (l : List Int) (i : Nat) : rd l (i : Int) = l.getD i 0:=by unfold rd;rw [Int.toNat_natCast]
theorem ZoA (l : List Int) (i : Nat) (h : i < l.length) : l.getD i 0 ∈ l:=by
 rw [List.getD_eq_getElem?_getD,List.getElem?_eq_getElem h];simp
theorem ZbD (l : List Int) (i : Nat) (h : l.length ≤ i) : l.getD i 0 = 0:=by rw [List.getD_eq_getElem?_getD,List.getElem?_eq_none h];rfl
def ok32 (l : List Int) : Prop := ∀ x ∈ l,0 ≤ x ∧ x < (4294967296 : Int)
theorem Zhy : ok32 []:=fun _ h => by cases h
theorem ZdD {l : List Int} (h : ok32 l) (i : Nat) : 0 ≤ l.getD i 0 ∧ l.getD i 0 < (4294967296 : Int):=by
 by_cases hi : i < l.length
 ·exact h _ (ZoA l i hi)
 ·rw [ZbD _ _ zo];decide
theorem ZeE {l : List Int} {x : Int} (h : ok32 l) (h0 : 0 ≤ x) (h1 : x < (4294967296 : Int)) : ok32 (l ++ [x]):=by
 intro y hy;rcases List.mem_append.1 hy with e | e
 ·exact h y e
 ·rw [List.mem_singleton.1 e];exact ⟨h0,h1⟩
theorem Zf7 {l : List Int} (h : ok32 l) (n : Nat) : ok32 (l.take n):=fun x hx => h x (List.mem_of_mem_take hx)
theorem ZmD {l : List Int} (h : ok32 l) (n : Nat) : ok32 (l.drop n):=fun x hx => h x (List.mem_of_mem_drop hx)
theorem Zja {l : List Int} (h : ok32 l) : 0 ≤ valI (4294967296 : Int) l ∧ valI (4294967296 : Int) l < (4294967296 : Int) ^ l.length:=ZkN (4294967296 : Int) (by decide) l h
theorem ZfG (B : Int) (l : List Int) (x : Int) : valI B (l ++ [x]) = valI B l + B ^ l.length * x:=by rw [Zc8];simp [valI]
theorem ZlH (B : Int) (l : List Int) (i : Nat) (h : i < l.length) : valI B (l.drop i) = l.getD i 0 + B * valI B (l.drop (i + 1)):=by
 rw [List.drop_eq_getElem_cons h];simp [valI,List.getD_eq_getElem?_getD,List.getElem?_eq_getElem h]
theorem Zfh (n : Nat) : (0 : Int) < (4294967296 : Int) ^ n:=Int.pow_pos (by decide)
def tl (l : List Int) : Nat → Nat
 | 0 => 0
 | n + 1 => if l.getD n 0 = 0 then tl l n else n + 1
theorem tl_le (l : List Int) : ∀ n,tl l n ≤ n
  | 0 => Nat.le_refl _
  | n + 1 => by
    unfold tl
    split
    · exact Nat.le_succ_of_le (tl_le l n)
    · exact Nat.le_refl _
theorem ZlS (l : List Int) : ∀ n,tl l n ≠ 0 → l.getD (tl l n - 1) 0 ≠ 0
  | 0 => fun h => absurd rfl h
  | n + 1 => by
    unfold tl
    split
    · exact ZlS l n
    · rename_i h;intro _;simpa using h
theorem ZoY (l : List Int) : ∀ n,n ≤ l.length → valI (4294967296 : Int) (l.take n) = valI (4294967296 : Int) (l.take (tl l n))
  | 0 => fun _ => rfl
  | n + 1 => fun hn => by
    unfold tl
    split
    · rename_i h
      rw [Zb1 (4294967296 : Int) l n zo,h,Int.mul_zero,Int.add_zero]
      exact ZoY l n zo
    · rfl
def tlen (l : List Int) : Nat:=tl l l.length
theorem ZfK (l : List Int) : tlen l ≤ l.length:=tl_le l _
theorem ZdS (l : List Int) : valI (4294967296 : Int) l = valI (4294967296 : Int) (l.take (tlen l)):=by
 have:=ZoY l l.length (Nat.le_refl _)
 rwa [List.take_length] at this
theorem tlen_lt {l : List Int} (h : ok32 l) : valI (4294967296 : Int) l < (4294967296 : Int) ^ tlen l:=by
 rw [ZdS];have:=(Zja (Zf7 h (tlen l))).2
 rwa [List.length_take,Nat.min_eq_left (ZfK l)] at this
theorem ZcG {l : List Int} (h : ok32 l) (n : Nat) (hn : n + 1 ≤ l.length) : l.getD n 0 * (4294967296 : Int) ^ n ≤ valI (4294967296 : Int) (l.take (n + 1)) ∧ valI (4294967296 : Int) (l.take (n + 1)) < (l.getD n 0 + 1) * (4294967296 : Int) ^ n:=by
 rw [Zb1 (4294967296 : Int) l n zo];have h1:=Zja (Zf7 h n);rw [List.length_take,Nat.min_eq_left zo] at h1;rw [Int.mul_comm ((4294967296 : Int) ^ n) (l.getD n 0),Int.add_mul,Int.one_mul];omega
theorem ZlR {l : List Int} (h : ok32 l) (n : Nat) (hn : tlen l = n + 1) : (4294967296 : Int) ^ n ≤ valI (4294967296 : Int) l:=by
 have h1:=ZcG h n (by have:=ZfK l;omega);have h2:=ZlS l l.length (by show tlen l ≠ 0;omega)
 have h3 : l.getD n 0 ≠ 0:=by
  have : tl l l.length - 1 = n:=by show tlen l - 1 = n;omega
  rwa [this] at h2
 have h4:=ZdD h n;have h5 : 1 * (4294967296 : Int) ^ n ≤ l.getD n 0 * (4294967296 : Int) ^ n:=Int.mul_le_mul_of_nonneg_right zo (Int.le_of_lt (Zfh n));have h6:=ZdS l;rw [hn] at h6;rw [h6];rw [Int.one_mul] at h5;exact Int.le_trans h5 h1.1
theorem Zh4 {l : List Int} (hn : tlen l = 0) : valI (4294967296 : Int) l = 0:=by
 rw [ZdS,hn];rfl
theorem ZoQ {m n : Nat} (h : m ≤ n) : (4294967296 : Int) ^ m ≤ (4294967296 : Int) ^ n:=by
 obtain ⟨d,rfl⟩:=Nat.exists_eq_add_of_le h;rw [Int.pow_add];have h1:=Zfh m;have h2:=Zfh d;have : (4294967296 : Int) ^ m * 1 ≤ (4294967296 : Int) ^ m * (4294967296 : Int) ^ d:=Int.mul_le_mul_of_nonneg_left zo zo;omega
theorem Zkl {a b : List Int} (ha : ok32 a) (hb : ok32 b) (h : tlen a < tlen b) : valI (4294967296 : Int) a < valI (4294967296 : Int) b:=by
 have h1:=tlen_lt ha;have h2:=ZlR hb (tlen b - 1) zo;have h3:=ZoQ (m:=tlen a) (n:=tlen b - 1) zo;omega
theorem ZmU {a b : List Int} (ha : ok32 a) (hb : ok32 b) (i : Nat) (h1 : i + 1 ≤ a.length) (h2 : i + 1 ≤ b.length) (h : a.getD i 0 < b.getD i 0) : valI (4294967296 : Int) (a.take (i + 1)) < valI (4294967296 : Int) (b.take (i + 1)):=by
 have k1:=(ZcG ha i h1).2;have k2:=(ZcG hb i h2).1;have k3 : (a.getD i 0 + 1) * (4294967296 : Int) ^ i ≤ b.getD i 0 * (4294967296 : Int) ^ i:=Int.mul_le_mul_of_nonneg_right zo (Int.le_of_lt (Zfh i));omega
theorem sub_end {a b out : List Int} {w : Int} (hb : ok32 b) (ho : ok32 out) (hol : out.length = a.length) (hw : w = 0 ∨ w = 1) (hle : valI (4294967296 : Int) b ≤ valI (4294967296 : Int) a) (hlt : valI (4294967296 : Int) a < (4294967296 : Int) ^ a.length)
  (hv : valI (4294967296 : Int) out + valI (4294967296 : Int) (b.take a.length) = valI (4294967296 : Int) a + w * (4294967296 : Int) ^ a.length) : valI (4294967296 : Int) out = valI (4294967296 : Int) a - valI (4294967296 : Int) b:=by
 have h1:=Zja ho;rw [hol] at h1;have hp:=Zfh a.length
 have h2 : valI (4294967296 : Int) b = valI (4294967296 : Int) (b.take a.length):=by
  rcases Nat.le_total a.length b.length with h | h
  ·have h3:=ZkM (4294967296 : Int) b a.length h;have h4:=Zja (Zf7 hb a.length);have h5:=Zja (ZmD hb a.length)
   have h6 : valI (4294967296 : Int) (b.drop a.length) = 0:=by
    rcases Int.lt_or_le 0 (valI (4294967296 : Int) (b.drop a.length)) with h | h
    ·exfalso;have : (4294967296 : Int) ^ a.length * 1 ≤ (4294967296 : Int) ^ a.length * valI (4294967296 : Int) (b.drop a.length):=Int.mul_le_mul_of_nonneg_left zo (Int.le_of_lt hp);omega
    ·omega
   rw [h6,Int.mul_zero,Int.add_zero] at h3;exact h3
  ·rw [List.take_of_length_le h]
 rcases hw with rfl | rfl
 ·rw [Int.zero_mul] at hv;omega
 ·exfalso;rw [Int.one_mul] at hv;omega
theorem Zjd (n : Nat) (hn : n ≤ 63) : ∀ (d i : Nat),n - i = d → i ≤ n → Ev (fun k => ZaX.l0 k (n : Int) ((2 ^ i : Nat) : Int) (i : Int)) ((2 ^ n : Nat) : Int):=by
 intro d
 induction d with
 | zero =>
  intro i hd hi;(obtain rfl : i = n:=by omega);exact Ev.step (f:=fun _ => some ((2 ^ i : Nat) : Int)) (fun k => by simp only [ZaX.l0];rw [if_neg zo]) (Ev.now _)
 | succ d ih =>
  intro i hd hi;refine Ev.step (fun k => ?_) (ih (i + 1) zo zo);simp only [ZaX.l0];have hp : 2 ^ (i + 1) ≤ 2 ^ 63:=Nat.pow_le_pow_right zo zo;rw [if_pos zo,wu64,w64 zo zo];rw [Nat.pow_succ] at hp;rw [show ((2 ^ i : Nat) : Int) * 2 % 18446744073709551616 = ((2 ^ (i + 1) : Nat) : Int) by rw [Nat.pow_succ];omega];rfl
theorem Zhn (n : Nat) (hn : n ≤ 63) : Ev (fun k => ZaX.f k (n : Int)) ((2 ^ n : Nat) : Int):=by
 unfold ZaX.f;exact Zjd n hn n 0 zo zo
theorem ZkW : Ev (fun k => ZaX.f k 63) 9223372036854775808:=Zhn 63 zo
theorem Zlh (L : List Int) (by_ : Int) (hL : ok32 L) (hlen : L.length ≤ 100000) (hb0 : 0 ≤ by_) (hb1 : by_ < (4294967296 : Int)) :
  ∀ (d i : Nat) (out : List Int) (more : Int),L.length - i = d → i ≤ L.length → out.length = i → ok32 out → 0 ≤ more → more < (4294967296 : Int) →
  ∃ R : List Int,Ev (fun k => Zau.l0 k L by_ more out (i : Int)) R ∧ ok32 R ∧ valI (4294967296 : Int) R = valI (4294967296 : Int) out + (4294967296 : Int) ^ i * (valI (4294967296 : Int) (L.drop i) * by_ + more) ∧ R.length ≤ L.length + 1 ∧ L.length ≤ R.length:=by
 intro d
 induction d with
 | zero =>
  intro i out more hd hi hol ho h0 h1;(obtain rfl : i = L.length:=by omega);(have e : valI (4294967296 : Int) (L.drop L.length) = 0:=by rw [List.drop_length];rfl);rw [e,Int.zero_mul,Int.zero_add];by_cases hm : more > 0
  ·refine ⟨out ++ [more],Ev.step (f:=fun _ => some (out ++ [more])) (fun k => ?_) (Ev.now _),ZeE ho h0 h1,?_,by simp;omega,by simp;omega⟩
   ·simp only [Zau.l0];rw [if_neg zo,if_pos hm,if_pos zo]
   ·rw [ZfG,hol]
  ·(obtain rfl : more = 0:=by omega);refine ⟨out,Ev.step (f:=fun _ => some out) (fun k => ?_) (Ev.now _),ho,by rw [Int.mul_zero,Int.add_zero],by omega,by omega⟩;simp only [Zau.l0];rw [if_neg zo,if_neg zo]
 | succ d ih =>
  intro i out more hd hi hol ho h0 h1;(have hlt : i < L.length:=by omega);have hg:=ZdD hL i;have hm:=mulB hg.1 hg.2 hb0 hb1;(have hx0 : 0 ≤ L.getD i 0 * by_ + more:=by omega);(have hx1 : L.getD i 0 * by_ + more < 18446744073709551616:=by omega);obtain ⟨R,r1,r2,r3,r4,r5⟩:=ih (i + 1) (out ++ [(L.getD i 0 * by_ + more) % (4294967296 : Int)]) ((L.getD i 0 * by_ + more) / (4294967296 : Int)) zo zo (by simp;omega) (ZeE ho zo zo) zo zo;refine ⟨R,Ev.step (fun k => ?_) r1,r2,?_,r4,r5⟩
  ·simp only [Zau.l0];rw [if_pos zo,if_pos zo,if_pos zo,ZdC,wu64 (L.getD i 0 * by_),Int.emod_eq_of_lt hm.1 zo,wu64 (L.getD i 0 * by_ + more),Int.emod_eq_of_lt hx0 hx1,Zh9 hx0,ZgB hx0,wu64,Int.emod_eq_of_lt zo zo,w64s zo]
  ·rw [r3,ZfG,hol,ZlH (4294967296 : Int) L i hlt,Int.pow_succ];generalize valI (4294967296 : Int) (L.drop (i + 1)) = V;have hd2:=Int.mul_ediv_add_emod (L.getD i 0 * by_ + more) (4294967296 : Int)
   generalize hq : (L.getD i 0 * by_ + more) / (4294967296 : Int) = q at *
   generalize hr : (L.getD i 0 * by_ + more) % (4294967296 : Int) = r at *
   generalize (4294967296 : Int) ^ i = P
   generalize L.getD i 0 = g at *
   generalize (4294967296 : Int) = B at *
   (have : P * ((g + B * V) * by_ + more) = P * (B * q + r) + P * (B * V * by_):=by rw [hd2];grind);rw [this];grind
theorem mul_add (L : List Int) (by_ more : Int) (hL : ok32 L) (hlen : L.length ≤ 100000) (hb0 : 0 ≤ by_) (hb1 : by_ < (4294967296 : Int)) (h0 : 0 ≤ more) (h1 : more < (4294967296 : Int)) :
  ∃ R : List Int,Ev (fun k => Zau.f k L by_ more) R ∧ ok32 R ∧ valI (4294967296 : Int) R = valI (4294967296 : Int) L * by_ + more ∧ R.length ≤ L.length + 1 ∧ L.length ≤ R.length:=by
 obtain ⟨R,r1,r2,r3,r4,r5⟩:=Zlh L by_ hL hlen hb0 hb1 L.length 0 [] more zo zo rfl Zhy h0 h1;exact ⟨R,r1,r2,by rw [r3];simp [valI],r4,r5⟩
theorem bin_l0 (s : ByteArray) (hs : s.size ≤ 1000) (hd : ∀ b ∈ s.data.toList,isDg b) : ∀ (d i : Nat) (L : List Int),s.size - i = d → i ≤ s.size → ok32 L → L.length ≤ i → valI (4294967296 : Int) L = ((valD (s.data.toList.take i) : Nat) : Int) →
  ∃ R : List Int,Ev (fun k => Zbm.l0 k s L (i : Int)) R ∧ ok32 R ∧ valI (4294967296 : Int) R = ((valD s.data.toList : Nat) : Int) ∧ R.length ≤ s.size:=by
 intro d
 induction d with
 | zero =>
  intro i L hd2 hi hL hlen hv;(obtain rfl : i = s.size:=by omega);rw [List.take_of_length_le (by simp)] at hv;exact ⟨L,Ev.step (f:=fun _ => some L) (fun k => by simp only [Zbm.l0];rw [if_neg zo]) (Ev.now _),hL,hv,hlen⟩
 | succ d ih =>
  intro i L hd2 hi hL hlen hv;(have hlt : i < s.size:=by omega);have hb:=ZdN s i hlt;have hdg:=hd _ (List.getElem_mem (l:=s.data.toList) (n:=i) (by simpa using hlt));unfold isDg at hdg;have htk:=List.take_succ_eq_append_getElem (l:=s.data.toList) (i:=i) (by simpa using hlt)
  generalize s.data.toList[i]'(by simpa using hlt) = b at *
  obtain ⟨R,r1,r2,r3,r4,r5⟩:=mul_add L 10 ((b.toNat : Int) - 48) hL zo (by decide) (by decide) zo zo;obtain ⟨R',s1,s2⟩:=ih (i + 1) R zo zo r2 zo (by rw [r3,hv,htk,Zdy];omega);refine ⟨R',Ev.step (fun k => ?_) (Ev.bind (f:=fun k t => Zbm.l0 k s t ((i + 1 : Nat) : Int)) r1 s1),s2⟩;simp only [Zbm.l0];rw [if_pos zo,if_pos zo,hb,wu64 (b.toNat : Int),Int.emod_eq_of_lt zo zo,wu64,Int.emod_eq_of_lt zo zo,w64s zo]
theorem bin_ev (s : ByteArray) (hs : s.size ≤ 1000) (hd : ∀ b ∈ s.data.toList,isDg b) : ∃ R : List Int,Ev (fun k => Zbm.f k s) R ∧ ok32 R ∧ valI (4294967296 : Int) R = ((valD s.data.toList : Nat) : Int) ∧ R.length ≤ s.size :=
 bin_l0 s hs hd s.size 0 [] zo zo Zhy (by simp) (by simp [valI,valD])
theorem len_l0 (L : List Int) (hlen : L.length ≤ 100000) : ∀ (n : Nat),n ≤ L.length → Ev (fun k => ZaC.l0 k L (n : Int)) ((tl L n : Nat) : Int):=by
 intro n
 induction n with
 | zero => intro _;exact Ev.step (f:=fun _ => some 0) (fun k => by simp only [ZaC.l0];rw [if_neg zo];rfl) (Ev.now _)
 | succ n ih =>
  intro h;(have e : wrap64 (((n + 1 : Nat) : Int) - 1) = (n : Int):=by rw [w64 zo zo];omega);by_cases h0 : L.getD n 0 = 0
  ·have ht : tl L (n + 1) = tl L n:=if_pos h0;rw [ht];refine Ev.step (fun k => ?_) (ih zo);simp only [ZaC.l0];rw [if_pos zo,e,if_pos zo,if_pos zo,ZdC,if_pos h0]
  ·have ht : tl L (n + 1) = n + 1:=if_neg h0;rw [ht];refine Ev.step (f:=fun _ => some ((n + 1 : Nat) : Int)) (fun k => ?_) (Ev.now _);simp only [ZaC.l0];rw [if_pos zo,e,if_pos zo,if_pos zo,ZdC,if_neg h0]
theorem Zkm (L : List Int) (hlen : L.length ≤ 100000) : Ev (fun k => ZaC.f k L) ((tlen L : Nat) : Int):=len_l0 L hlen L.length (Nat.le_refl _)
theorem less_l0 (a b : List Int) (ha : ok32 a) (hb : ok32 b) (hla : a.length ≤ 100000) : ∀ n : Nat,n ≤ a.length → n ≤ b.length → Ev (fun k => Za9.l0 k a b ((n : Int) - 1)) (decide (valI (4294967296 : Int) (a.take n) < valI (4294967296 : Int) (b.take n))):=by
 intro n
 induction n with
 | zero =>
  intro _ _;refine Ev.step (f:=fun _ => some _) (fun k => ?_) (Ev.now _);simp only [Za9.l0];rw [if_neg zo];simp [valI]
 | succ n ih =>
  intro h1 h2;(have e : ((n + 1 : Nat) : Int) - 1 = n:=by omega);rw [e];by_cases he : a.getD n 0 = b.getD n 0
  ·have h':=ih zo zo
   have hv : decide (valI (4294967296 : Int) (a.take (n + 1)) < valI (4294967296 : Int) (b.take (n + 1))) = decide (valI (4294967296 : Int) (a.take n) < valI (4294967296 : Int) (b.take n)):=by
    rw [decide_eq_decide,Zb1 (4294967296 : Int) a n zo,Zb1 (4294967296 : Int) b n zo,he];omega
   rw [hv];refine Ev.step (fun k => ?_) h';simp only [Za9.l0];rw [if_pos zo,if_pos zo,if_pos zo,if_pos zo,ZdC,ZdC,if_pos he,w64 zo zo]
  ·have hv : decide (valI (4294967296 : Int) (a.take (n + 1)) < valI (4294967296 : Int) (b.take (n + 1))) = decide (a.getD n 0 < b.getD n 0):=by
    rw [decide_eq_decide];rcases Int.lt_or_le (a.getD n 0) (b.getD n 0) with h | h
    ·have:=ZmU ha hb n h1 h2 h;exact ⟨fun _ => h,fun _ => this⟩
    ·have:=ZmU hb ha n h2 h1 zo;exact ⟨fun hh => by omega,fun hh => by omega⟩
   rw [hv];refine Ev.step (f:=fun _ => some (decide (a.getD n 0 < b.getD n 0))) (fun k => ?_) (Ev.now _);simp only [Za9.l0];rw [if_pos zo,if_pos zo,if_pos zo,if_pos zo,ZdC,ZdC,if_neg he]
theorem less_ev (a b : List Int) (ha : ok32 a) (hb : ok32 b) (hla : a.length ≤ 100000) (hlb : b.length ≤ 100000) : Ev (fun k => Za9.f k a b) (decide (valI (4294967296 : Int) a < valI (4294967296 : Int) b)):=by
 unfold Za9.f;refine Ev.bind (Zkm a hla) (Ev.bind (Zkm b hlb) ?_);have h1:=ZfK a;have h2:=ZfK b;by_cases h : tlen a = tlen b
 ·refine Zaj zo ?_;rw [w64 zo zo,ZdS a,ZdS b,← h];exact less_l0 a b ha hb hla (tlen a) h1 zo
 ·refine Zai zo ?_
  have e : decide (valI (4294967296 : Int) a < valI (4294967296 : Int) b) = decide (((tlen a : Nat) : Int) < ((tlen b : Nat) : Int)):=by
   rw [decide_eq_decide];rcases Nat.lt_or_ge (tlen a) (tlen b) with h3 | h3
   ·exact ⟨fun _ => by omega,fun _ => Zkl ha hb h3⟩
   ·have:=Zkl hb ha zo;exact ⟨fun hh => by omega,fun hh => by omega⟩
  rw [e];exact Ev.now _
theorem sub_l0 (a b : List Int) (ha : ok32 a) (hb : ok32 b) (hla : a.length ≤ 100000) :
  ∀ (d i : Nat) (out : List Int) (w : Int),a.length - i = d → i ≤ a.length → out.length = i → ok32 out → (w = 0 ∨ w = 1) → valI (4294967296 : Int) out + valI (4294967296 : Int) (b.take i) = valI (4294967296 : Int) (a.take i) + w * (4294967296 : Int) ^ i →
  ∃ (R : List Int) (w' : Int),Ev (fun k => ZaS.l0 k a b out w (i : Int)) R ∧ ok32 R ∧ R.length = a.length ∧ (w' = 0 ∨ w' = 1) ∧ valI (4294967296 : Int) R + valI (4294967296 : Int) (b.take a.length) = valI (4294967296 : Int) a + w' * (4294967296 : Int) ^ a.length:=by
 intro d
 induction d with
 | zero =>
  intro i out w hd hi hol ho hw hv;(obtain rfl : i = a.length:=by omega);rw [List.take_length] at hv;refine ⟨out,w,Ev.step (f:=fun _ => some out) (fun k => ?_) (Ev.now _),ho,hol,hw,hv⟩;simp only [ZaS.l0];rw [if_neg zo]
 | succ d ih =>
  intro i out w hd hi hol ho hw hv;have hga:=ZdD ha i;have hgb:=ZdD hb i;have hw' : 0 ≤ w ∧ w ≤ 1:=by omega
  have hvb : valI (4294967296 : Int) (b.take (i + 1)) = valI (4294967296 : Int) (b.take i) + (4294967296 : Int) ^ i * b.getD i 0:=by
   by_cases h : i < b.length
   ·exact Zb1 (4294967296 : Int) b i h
   ·rw [List.take_of_length_le zo,List.take_of_length_le zo,ZbD b i zo,Int.mul_zero,Int.add_zero]
  have hva:=Zb1 (4294967296 : Int) a i zo
  have hstep : ∀ (x w2 : Int),x = a.getD i 0 + w2 * (4294967296 : Int) - (w + b.getD i 0) → valI (4294967296 : Int) (out ++ [x]) + valI (4294967296 : Int) (b.take (i + 1)) = valI (4294967296 : Int) (a.take (i + 1)) + w2 * (4294967296 : Int) ^ (i + 1):=by
   intro x w2 hx;rw [ZfG,hol,hvb,hva,Int.pow_succ,hx]
   generalize (4294967296 : Int) ^ i = P at *
   generalize (4294967296 : Int) = B at *
   grind
  have body : ∀ (y : Int),y = w + b.getD i 0 → (∀ k,ZaS.l0 (k + 1) a b out w (i : Int) = if a.getD i 0 < y then (if out.length < 17592186044416 then (ZaS.l0 k a b (out ++ [IntKind.u64.wrap ((IntKind.u64.wrap (a.getD i 0 + 4294967296)) - y)]) 1 (wrap64 ((i : Int) + 1))) else none) else (if out.length < 17592186044416 then (ZaS.l0 k a b (out ++ [IntKind.u64.wrap (a.getD i 0 - y)]) 0 (wrap64 ((i : Int) + 1))) else none)) →
    ∃ (R : List Int) (w' : Int),Ev (fun k => ZaS.l0 k a b out w (i : Int)) R ∧ ok32 R ∧ R.length = a.length ∧ (w' = 0 ∨ w' = 1) ∧ valI (4294967296 : Int) R + valI (4294967296 : Int) (b.take a.length) = valI (4294967296 : Int) a + w' * (4294967296 : Int) ^ a.length:=by
   intro y hy hk;by_cases hlt : a.getD i 0 < y
   ·obtain ⟨R,w2,r1,r2⟩:=ih (i + 1) (out ++ [a.getD i 0 + 4294967296 - y]) 1 zo zo (by simp;omega) (ZeE ho zo zo) (.inr rfl) (hstep _ 1 (by rw [hy,Int.one_mul]));refine ⟨R,w2,Ev.step (fun k => ?_) r1,r2⟩;rw [hk k,if_pos hlt,if_pos zo,wu64 (a.getD i 0 + 4294967296),Int.emod_eq_of_lt zo zo,wu64,Int.emod_eq_of_lt zo zo,w64s zo]
   ·obtain ⟨R,w2,r1,r2⟩:=ih (i + 1) (out ++ [a.getD i 0 - y]) 0 zo zo (by simp;omega) (ZeE ho zo zo) (.inl rfl) (hstep _ 0 (by rw [hy,Int.zero_mul];omega));refine ⟨R,w2,Ev.step (fun k => ?_) r1,r2⟩;rw [hk k,if_neg hlt,if_pos zo,wu64,Int.emod_eq_of_lt zo zo,w64s zo]
  by_cases hib : i < b.length
  ·refine body (w + b.getD i 0) rfl (fun k => ?_);simp only [ZaS.l0];rw [if_pos zo,if_pos zo,if_pos zo,ZdC,ZdC,wu64 (w + b.getD i 0),Int.emod_eq_of_lt zo zo]
  ·refine body w (by rw [ZbD b i zo];omega) (fun k => ?_);simp only [ZaS.l0];rw [if_pos zo,if_neg zo,if_pos zo,ZdC]
theorem sub_ev (a b : List Int) (ha : ok32 a) (hb : ok32 b) (hla : a.length ≤ 100000) (hle : valI (4294967296 : Int) b ≤ valI (4294967296 : Int) a) :
  ∃ R : List Int,Ev (fun k => ZaS.f k a b) R ∧ ok32 R ∧ R.length = a.length ∧ valI (4294967296 : Int) R = valI (4294967296 : Int) a - valI (4294967296 : Int) b:=by
 obtain ⟨R,w,r1,r2,r3,r4,r5⟩:=sub_l0 a b ha hb hla a.length 0 [] 0 zo zo rfl Zhy (.inl rfl) (by simp [valI]);exact ⟨R,r1,r2,r3,sub_end hb r2 r3 r4 hle (Zja ha).2 r5⟩
theorem bits_l0 (n : Int) : ∀ (c : Nat) (x k : Nat),x < 2 ^ c → k + c ≤ 60 → 0 ≤ n → n ≤ 100000 →
  ∃ j : Nat,Ev (fun r => Za2.l0 r n (k : Int) (x : Int)) (32 * (n - 1) + ((k + j : Nat) : Int)) ∧ x < 2 ^ j ∧ (x ≠ 0 → 2 ^ j ≤ 2 * x) ∧ (x = 0 → j = 0) ∧ j ≤ c:=by
 have hstop : ∀ (k : Nat),k ≤ 100 → 0 ≤ n → n ≤ 100000 → Ev (fun r => Za2.l0 r n (k : Int) ((0 : Nat) : Int)) (32 * (n - 1) + ((k + 0 : Nat) : Int)):=by
  intro k hk h0 h1;refine Ev.step (f:=fun _ => some (32 * (n - 1) + ((k + 0 : Nat) : Int))) (fun r => ?_) (Ev.now _);simp only [Za2.l0];rw [if_neg zo,w64 (x:=n - 1) zo zo,w64 (x:=32 * (n - 1)) zo zo,w64 zo zo];rfl
 intro c
 induction c with
 | zero =>
  intro x k hx hk h0 h1;(obtain rfl : x = 0:=by simpa using hx);exact ⟨0,hstop k zo h0 h1,by omega,fun h => absurd rfl h,fun _ => rfl,Nat.le_refl _⟩
 | succ c ih =>
  intro x k hx hk h0 h1;by_cases hx0 : x = 0
  ·subst hx0;exact ⟨0,hstop k zo h0 h1,by omega,fun h => absurd rfl h,fun _ => rfl,by omega⟩
  ·have hx60 : x < 2 ^ 60:=Nat.lt_of_lt_of_le hx (Nat.pow_le_pow_right zo zo);rw [Nat.pow_succ] at hx;obtain ⟨j,r1,r2,r3,r4,r5⟩:=ih (x / 2) (k + 1) zo zo h0 h1;refine ⟨j + 1,?_,?_,?_,fun h => absurd h hx0,by omega⟩
   ·refine Ev.step (fun r => ?_) (show Ev (fun r => Za2.l0 r n (((k + 1 : Nat)) : Int) ((x / 2 : Nat) : Int)) _ by rw [show k + (j + 1) = k + 1 + j by omega];exact r1);simp only [Za2.l0];have hw : wrap64 ((k : Int) + 1) = ((k + 1 : Nat) : Int):=w64s zo;rw [if_pos zo,Zh9 zo,hw,wu64,show ((x : Int) / 2) % 18446744073709551616 = ((x / 2 : Nat) : Int) by omega]
   ·rw [Nat.pow_succ];omega
   ·intro _;rw [Nat.pow_succ];by_cases h2 : x / 2 = 0
    ·rw [r4 h2];omega
    ·have:=r3 h2;omega
def nv (L : List Int) : Nat:=(valI (4294967296 : Int) L).toNat
theorem ZcU {L : List Int} (h : ok32 L) : ((nv L : Nat) : Int) = valI (4294967296 : Int) L:=by
 have:=(Zja h).1;unfold nv;omega
theorem ZnG (n : Nat) : (4294967296 : Int) ^ n = ((2 ^ (32 * n) : Nat) : Int):=by
 rw [Nat.pow_mul,Int.natCast_pow];rfl
theorem ZnF (L : List Int) (hL : ok32 L) (hlen : L.length ≤ 2000) : ∃ j : Nat,Ev (fun k => Za2.f k L) (j : Int) ∧ nv L < 2 ^ j ∧ (nv L ≠ 0 → 2 ^ j ≤ 2 * nv L) ∧ j ≤ 32 * L.length:=by
 have hl:=Zkm L zo;have htl:=ZfK L;unfold Za2.f
 cases hn : tlen L with
 | zero =>
  rw [hn] at hl;(have h0 : nv L = 0:=by unfold nv;rw [Zh4 hn];rfl);exact ⟨0,Ev.bind hl (Zaj rfl (Ev.now _)),by omega,fun h => absurd h0 h,by omega⟩
 | succ n =>
  rw [hn] at hl;have hg:=ZdD hL n
  have h3 : L.getD n 0 ≠ 0:=by
   have h2:=ZlS L L.length (by show tlen L ≠ 0;omega);have : tl L L.length - 1 = n:=by show tlen L - 1 = n;omega
   rwa [this] at h2
  obtain ⟨x,hx⟩ : ∃ x : Nat,L.getD n 0 = x:=⟨(L.getD n 0).toNat,by omega⟩;(have hx32 : x < 2 ^ 32:=by have:=hg.2;omega);obtain ⟨j,r1,r2,r3,r4,r5⟩:=bits_l0 ((n + 1 : Nat) : Int) 32 x 0 hx32 zo zo zo;have htop:=ZcG hL n zo;have hv:=ZdS L;rw [hn] at hv;rw [← hv,← ZcU hL,ZnG,hx] at htop
  have t1 : x * 2 ^ (32 * n) ≤ nv L:=by
   have:=htop.1;rw [← Int.natCast_mul] at this;omega
  have t2 : nv L < (x + 1) * 2 ^ (32 * n):=by
   have:=htop.2;rw [show ((x : Int) + 1) = ((x + 1 : Nat) : Int) from rfl,← Int.natCast_mul] at this;omega
  refine ⟨32 * n + j,?_,?_,fun _ => ?_,by omega⟩
  ·refine Ev.bind hl ?_;(have hwn : wrap64 (((n + 1 : Nat) : Int) - 1) = (n : Int):=by rw [w64 zo zo];omega);rw [hwn,ZdC,hx];refine Zai zo (Zaj zo (Zaj zo ?_));(have e : 32 * (((n + 1 : Nat) : Int) - 1) + ((0 + j : Nat) : Int) = ((32 * n + j : Nat) : Int):=by omega);rw [e] at r1;exact r1
  ·rw [Nat.pow_add,Nat.mul_comm];exact Nat.lt_of_lt_of_le t2 (Nat.mul_le_mul_right _ r2)
  ·have:=r3 zo;have h4:=Nat.mul_le_mul_right (2 ^ (32 * n)) this;rw [Nat.pow_add,Nat.mul_comm];rw [Nat.mul_assoc] at h4;omega
theorem ZnQ (L : List Int) (n : Nat) (hL : ok32 L) (hlen : L.length ≤ 2000) (hn : n ≤ 100000) : ∃ R : List Int,Ev (fun k => ZbO.f k L (n : Int)) R ∧ ok32 R ∧ nv R = nv L * 2 ^ n ∧ R.length ≤ L.length + n / 32 + 1:=by
 have hp : 2 ^ (n % 32) ≤ 2 ^ 31:=Nat.pow_le_pow_right zo zo;obtain ⟨R,r1,r2,r3,r4,r5⟩:=mul_add L ((2 ^ (n % 32) : Nat) : Int) 0 hL zo (Int.natCast_nonneg _) zo zo (by decide);(have e1 : wrap64 (Int.tdiv (n : Int) 32) = ((n / 32 : Nat) : Int):=by rw [Zh9 zo,w64 zo zo];omega);have e2 : Int.tmod (n : Int) 32 = ((n % 32 : Nat) : Int):=by rw [ZgB zo];omega
 have hok : ok32 (List.replicate (n / 32) 0 ++ R):=by
  intro y hy;rcases List.mem_append.1 hy with e | e
  ·rw [(List.mem_replicate.1 e).2];decide
  ·exact r2 y e
 refine ⟨List.replicate (n / 32) 0 ++ R,?_,hok,?_,by simp;omega⟩
 ·unfold ZbO.f;rw [e1,e2];refine Zaj zo (Zaj (by rw [Int.toNat_natCast];omega) ?_);simp only [Option.bind_some,Int.toNat_natCast];refine Ev.bind (Zhn (n % 32) zo) (Ev.bind r1 (Zaj ?_ (Ev.now _)));rw [List.length_replicate];omega
 ·have h1:=ZcU hok;have h2:=ZcU hL;rw [Zc8,ZkL,Int.zero_add,List.length_replicate,r3,Int.add_zero,ZnG,← h2,← Int.natCast_mul,← Int.natCast_mul] at h1;(have h3 : nv (List.replicate (n / 32) 0 ++ R) = 2 ^ (32 * (n / 32)) * (nv L * 2 ^ (n % 32)):=by omega);rw [h3];(have e : 2 ^ n = 2 ^ (32 * (n / 32)) * 2 ^ (n % 32):=by rw [← Nat.pow_add];congr 1;omega);rw [e];ac_rfl
theorem Zmr {A D k n a : Nat} (h : A * 2 ^ k = n * (2 * D) + a) (ha : a < 2 * D) :
  (a < D → A * 2 ^ (k + 1) = (n * 2) * (2 * D) + a * 2 ∧ a * 2 < 2 * D) ∧ (D ≤ a → A * 2 ^ (k + 1) = (n * 2 + 1) * (2 * D) + (a - D) * 2 ∧ (a - D) * 2 < 2 * D):=by
 have e : A * 2 ^ (k + 1) = n * 2 * (2 * D) + a * 2:=by
  rw [Nat.pow_succ,← Nat.mul_assoc,h,Nat.add_mul];congr 1;ac_rfl
 refine ⟨fun h1 => ⟨e,by omega⟩,fun h1 => ⟨?_,by omega⟩⟩;rw [e,Nat.add_mul,Nat.one_mul];generalize n * 2 * (2 * D) = X;omega
theorem Zjr {A D k n a : Nat} (h : A * 2 ^ k = n * (2 * D) + a) (hA : A < D) (hk : 1 ≤ k) : n < 2 ^ (k - 1):=by
 (have hD : 0 < D:=by omega);apply Nat.lt_of_mul_lt_mul_right (a:=2 * D);(have e : 2 ^ k = 2 ^ (k - 1) * 2:=by rw [← Nat.pow_succ];congr 1;omega);have h1 : A * 2 ^ k < D * 2 ^ k:=Nat.mul_lt_mul_of_pos_right hA (Nat.pow_pos zo);(have h2 : D * 2 ^ k = 2 ^ (k - 1) * (2 * D):=by rw [e];ac_rfl);omega
theorem Zoc {A B n a : Nat} (hB : 0 < B) (h : A * 2 ^ 64 = n * (2 * (B * 2 ^ 63)) + a) (ha : a < 2 * (B * 2 ^ 63)) : n = A / B ∧ (decide (a > 0) = decide (A % B ≠ 0)):=by
 (have e : 2 * (B * 2 ^ 63) = B * 2 ^ 64:=by rw [show (2 : Nat) ^ 64 = 2 * 2 ^ 63 from rfl];ac_rfl);rw [e] at h ha;have hd : A * 2 ^ 64 / (B * 2 ^ 64) = A / B:=Nat.mul_div_mul_right A B (by decide);have hm : A * 2 ^ 64 % (B * 2 ^ 64) = A % B * 2 ^ 64:=Nat.mul_mod_mul_right _ _ _
 have h1 : A * 2 ^ 64 / (B * 2 ^ 64) = n:=by
  rw [h,Nat.mul_comm n,Nat.mul_add_div zo,Nat.div_eq_of_lt ha,Nat.add_zero]
 have h2 : A * 2 ^ 64 % (B * 2 ^ 64) = a:=by
  rw [h,Nat.mul_comm n,Nat.mul_add_mod,Nat.mod_eq_of_lt ha]
 refine ⟨by rw [← h1,hd],?_⟩;rw [decide_eq_decide,← h2,hm];generalize A % B = r;omega
def ZcI (E : Int) : Int:=max (-5000) (min E 5000)
open CR in
def Zfn (b : Bool) (M : Nat) (E : Int) (more : Bool) : Nat:=if M = 0 then enc b 0 else Zen b M (ZcI E) (more && decide (72057594037927936 ≤ M))
open CR in
theorem Zey (r : Nat) (b : Bool) (hr : r < 9223372036854775808) : Ev (fun k => Zbe.f k (r : Int) b) ((enc b r : Nat) : Int):=by
 unfold Zbe.f;cases b
 ·exact Ev.now _
 ·simp only [if_true];refine Ev.bind ZkW ?_;rw [wu64,show ((r : Int) + 9223372036854775808) % 18446744073709551616 = ((enc true r : Nat) : Int) by unfold enc;rw [if_pos rfl];omega];exact Ev.now _
open CR in
theorem Zfl (b : Bool) (last : Int) (m : Nat) (h0 : -1074 ≤ last) (h1 : last ≤ 10000) (hm : m < 9007199254740992) (hn : last ≠ -1074 → 4503599627370496 ≤ m) :
  Ev (fun k => Zab.j9 k b (m : Int) last) ((ZcA b last m : Nat) : Int):=by
 have hj : ∀ (k : Nat) (x1 x2 : Int),Zab.j9 (k + 1) b x1 x2 = if x1 < 4503599627370496 then ((Zbe.f k x1 b).bind fun t104 => (some t104)) else (if x2 > 971 then ((Zbe.f k 9218868437227405312 b).bind fun t105 => (some t105)) else ((Zbe.f k (IntKind.u64.wrap ((IntKind.u64.wrap (x1 - 4503599627370496)) + (IntKind.u64.wrap ((IntKind.u64.wrap (wrap64 (x2 + 1075))) * 4503599627370496)))) b).bind fun t106 => (some t106))):=fun _ _ _ => rfl
 by_cases h3 : m < 4503599627370496
 ·have hl : last = -1074:=by
   rcases Int.lt_or_eq_of_le h0 with h | h
   ·have:=hn zo;omega
   ·exact h.symm
  subst hl
  have e : ZcA b (-1074) m = enc b m:=by
   unfold ZcA;rw [Nat.min_eq_left zo,show (-1074 + 1074 : Int).toNat * 4503599627370496 + m = m by omega]
  rw [e];exact Ev.step (fun k => by rw [hj,if_pos zo]) (Ev.bind (Zey m b zo) (Ev.now _))
 ·by_cases h2 : last > 971
  ·have e : ZcA b last m = enc b 9218868437227405312:=by
    unfold ZcA;rw [Nat.min_eq_right zo]
   rw [e];have hs : Ev (fun k => Zbe.f k 9218868437227405312 b) ((enc b 9218868437227405312 : Nat) : Int):=Zey 9218868437227405312 b zo;exact Ev.step (fun k => by rw [hj,if_neg zo,if_pos h2]) (Ev.bind hs (Ev.now _))
  ·have e : ZcA b last m = enc b (m - 4503599627370496 + (last + 1075).toNat * 4503599627370496):=by
    unfold ZcA;rw [Nat.min_eq_left zo];exact congrArg (enc b) zo
   rw [e];refine Ev.step (fun k => ?_) (Ev.bind (Zey (m - 4503599627370496 + (last + 1075).toNat * 4503599627370496) b zo) (Ev.now _))
   rw [hj,if_neg zo,if_neg h2,w64 (x:=last + 1075) zo zo,wu64,wu64,wu64,wu64,
    show (((m : Int) - 4503599627370496) % 18446744073709551616 + (last + 1075) % 18446744073709551616 * 4503599627370496 % 18446744073709551616) % 18446744073709551616 = ((m - 4503599627370496 + (last + 1075).toNat * 4503599627370496 : Nat) : Int) by omega]
open CR in
theorem Zfm (b : Bool) (last : Int) (m : Nat) (h0 : -1074 ≤ last) (h1 : last ≤ 9000) (hm : m ≤ 9007199254740992) (hn : last ≠ -1074 → 4503599627370496 ≤ m) :
  Ev (fun k => Zab.j8 k b (m : Int) last) ((ZcA b last m : Nat) : Int):=by
 have hj : ∀ (k : Nat) (x1 x2 : Int),Zab.j8 (k + 1) b x1 x2 = if x1 = 9007199254740992 then (Zab.j9 k b 4503599627370496 (wrap64 (x2 + 1))) else (Zab.j9 k b x1 x2):=fun _ _ _ => rfl
 by_cases h2 : m = 9007199254740992
 ·subst h2
  have e : ZcA b last 9007199254740992 = ZcA b (last + 1) 4503599627370496:=by
   unfold ZcA;rw [show (last + 1074).toNat * 4503599627370496 + 9007199254740992 = (last + 1 + 1074).toNat * 4503599627370496 + 4503599627370496 by omega]
  rw [e];refine Ev.step (fun k => ?_) (Zfl b (last + 1) 4503599627370496 zo zo zo (fun _ => by omega));rw [hj,if_pos zo,w64 zo zo];rfl
 ·exact Ev.step (fun k => by rw [hj,if_neg zo]) (Zfl b last m h0 zo zo hn)
open CR in
theorem Zdz (b : Bool) (last : Int) (m : Nat) (z : Bool) (h0 : -1074 ≤ last) (h1 : last ≤ 9000) (hm : m + z.toNat ≤ 9007199254740992) (hn : last ≠ -1074 → 4503599627370496 ≤ m) :
  Ev (fun k => Zab.j7 k b (m : Int) last z) ((ZcA b last (m + z.toNat) : Nat) : Int):=by
 have hj : ∀ (k : Nat) (x1 x2 : Int) (z : Bool),Zab.j7 (k + 1) b x1 x2 z = if z = true then (Zab.j8 k b (IntKind.u64.wrap (x1 + 1)) x2) else (Zab.j8 k b x1 x2):=fun _ _ _ _ => rfl
 cases z
 ·exact Ev.step (fun k => by rw [hj,if_neg (by simp)]) (Zfm b last m h0 h1 (by simpa using hm) hn)
 ·refine Ev.step (fun k => ?_) (Zfm b last (m + 1) h0 h1 (by simpa using hm) (fun h => by have:=hn h;omega));(have hm' : m + 1 ≤ 9007199254740992:=by simpa using hm);rw [hj,if_pos rfl,wu64,show ((m : Int) + 1) % 18446744073709551616 = ((m + 1 : Nat) : Int) by omega]
def Zdo (M j : Nat) : Bool:=decide (1 ≤ j ∧ M / 2 ^ (j - 1) % 2 = 1)
def Zd1 (st : Bool) (M j : Nat) : Bool:=st || decide (1 ≤ j ∧ M % 2 ^ (j - 1) ≠ 0)
open CR in
theorem Zk4 (st : Bool) (M d : Nat) (hst : st = true → 1 ≤ d) : M / 2 ^ d + (Zdo M d && (Zd1 st M d || (M / 2 ^ d % 2 == 1))).toNat = if st then rneS M d else rne M d:=by
 cases d with
 | zero =>
  (have e : Zdo M 0 = false:=by unfold Zdo;exact decide_eq_false zo);rw [e];cases st
  ·rw [Zcv];simp
  ·have:=hst rfl;omega
 | succ c =>
  (have e2 : (2 : Nat) ^ (c + 1) = 2 * 2 ^ c:=by rw [Nat.pow_succ];omega);have hmod : M % 2 ^ (c + 1) = M % 2 ^ c + 2 ^ c * (M / 2 ^ c % 2):=Nat.mod_pow_succ;have hlt : M % 2 ^ c < 2 ^ c:=Nat.mod_lt _ (Nat.pow_pos zo);unfold rneS rne Zdo Zd1;rw [show c + 1 - 1 = c by omega,hmod,e2];generalize M / (2 * 2 ^ c) = q;have hb : M / 2 ^ c % 2 = 0 ∨ M / 2 ^ c % 2 = 1:=by omega
  generalize M / 2 ^ c % 2 = h at *
  generalize M % 2 ^ c = r at *
  generalize 2 ^ c = p at *
  rcases hb with rfl | rfl
  ·rw [Nat.mul_zero,Nat.add_zero];have e : decide (1 ≤ c + 1 ∧ 0 = 1) = false:=decide_eq_false zo;rw [e];cases st
   ·rw [if_neg (by simp),if_neg zo];rfl
   ·rw [if_pos rfl,if_neg zo];rfl
  ·rw [Nat.mul_one];have e : decide (1 ≤ c + 1 ∧ 1 = 1) = true:=decide_eq_true zo;rw [e,Bool.true_and];cases st
   ·rw [if_neg (by simp)];by_cases h0 : r = 0
    ·subst h0;have e3 : decide (1 ≤ c + 1 ∧ 0 ≠ 0) = false:=decide_eq_false zo;rw [e3,Bool.false_or,Bool.false_or];by_cases h1 : q % 2 = 1
     ·rw [if_pos (.inr zo),show (q % 2 == 1) = true by simpa using h1];rfl
     ·rw [if_neg zo,show (q % 2 == 1) = false by simpa using h1];rfl
    ·have e3 : decide (1 ≤ c + 1 ∧ r ≠ 0) = true:=decide_eq_true zo;rw [e3,if_pos (.inl zo)];rfl
   ·rw [if_pos rfl,if_pos zo];rfl
theorem Zm2 (M j : Nat) : Zdo M (j + 1) = (M / 2 ^ j % 2 == 1):=by
 unfold Zdo;rw [show j + 1 - 1 = j by omega];by_cases h : M / 2 ^ j % 2 = 1
 ·rw [decide_eq_true zo];exact (beq_iff_eq.mpr h).symm
 ·rw [decide_eq_false zo];exact (beq_eq_false_iff_ne.mpr h).symm
theorem Zmm (st : Bool) (M j : Nat) : Zd1 st M (j + 1) = (Zd1 st M j || Zdo M j):=by
 unfold Zd1 Zdo;rw [show j + 1 - 1 = j by omega];cases st
 ·simp only [Bool.false_or]
  cases j with
  | zero => simp [Nat.mod_one]
  | succ c =>
   rw [show c + 1 - 1 = c by omega,Nat.mod_pow_succ];have hp : 0 < 2 ^ c:=Nat.pow_pos zo;generalize M % 2 ^ c = r;have hb : M / 2 ^ c % 2 = 0 ∨ M / 2 ^ c % 2 = 1:=by omega
   generalize M / 2 ^ c % 2 = h at *
   generalize 2 ^ c = p at *
   rcases hb with rfl | rfl
   ·rw [Nat.mul_zero,Nat.add_zero];simp
   ·rw [Nat.mul_one];simp;omega
 ·simp
theorem ZdA (k : Nat) (b : Bool) (m : Int) (e : Int) (h r : Bool) (h1 : ¬ m ≥ 9007199254740992) (h2 : -1074 ≤ e) : Zab.l1 (k + 2) b m e h r = Zab.j7 k b m e (h && (r || (Int.tmod m 2 == 1))):=by
 have hj6 : ∀ (k : Nat),Zab.j6 (k + 1) b m e h r false = (if h = true then (if r = true then (Zab.j7 k b m e true) else (Zab.j7 k b m e ((Int.tmod m 2) == 1))) else (Zab.j7 k b m e false)):=fun _ => rfl
 have hl : ∀ (k : Nat),Zab.l1 (k + 1) b m e h r = if m ≥ 9007199254740992 then (Zab.j6 k b m e h r true) else (Zab.j6 k b m e h r (decide (e < (-1074)))):=fun _ => rfl
 rw [hl,if_neg h1,decide_eq_false zo,hj6];cases h <;> cases r <;> rfl
theorem Zig (k : Nat) (b : Bool) (m : Nat) (e : Int) (h r : Bool) (hm : m < 18446744073709551616) (he : -30000 ≤ e ∧ e ≤ 30000) (hc : m ≥ 9007199254740992 ∨ e < -1074) :
  Zab.l1 (k + 2) b (m : Int) e h r = if m / 2 = 0 ∧ e + 1 < -1074 then Zab.l1 k b 0 (-1074) false ((r || h) || (m % 2 == 1)) else Zab.l1 k b ((m / 2 : Nat) : Int) (e + 1) (m % 2 == 1) (r || h):=by
 have hj6 : ∀ (k : Nat),Zab.j6 (k + 1) b (m : Int) e h r true = if r = true then (if (IntKind.u64.wrap (Int.tdiv (m : Int) 2)) = 0 then (if (wrap64 (e + 1)) < (-1074) then (Zab.l1 k b (IntKind.u64.wrap (Int.tdiv (m : Int) 2)) (-1074) false true) else (Zab.l1 k b (IntKind.u64.wrap (Int.tdiv (m : Int) 2)) (wrap64 (e + 1)) ((Int.tmod (m : Int) 2) == 1) true)) else (Zab.l1 k b (IntKind.u64.wrap (Int.tdiv (m : Int) 2)) (wrap64 (e + 1)) ((Int.tmod (m : Int) 2) == 1) true)) else (if (IntKind.u64.wrap (Int.tdiv (m : Int) 2)) = 0 then (if (wrap64 (e + 1)) < (-1074) then (if h = true then (Zab.l1 k b (IntKind.u64.wrap (Int.tdiv (m : Int) 2)) (-1074) false true) else (Zab.l1 k b (IntKind.u64.wrap (Int.tdiv (m : Int) 2)) (-1074) false ((Int.tmod (m : Int) 2) == 1))) else (Zab.l1 k b (IntKind.u64.wrap (Int.tdiv (m : Int) 2)) (wrap64 (e + 1)) ((Int.tmod (m : Int) 2) == 1) h)) else (Zab.l1 k b (IntKind.u64.wrap (Int.tdiv (m : Int) 2)) (wrap64 (e + 1)) ((Int.tmod (m : Int) 2) == 1) h)):=fun _ => rfl
 have hl : ∀ (k : Nat),Zab.l1 (k + 1) b (m : Int) e h r = if (m : Int) ≥ 9007199254740992 then (Zab.j6 k b (m : Int) e h r true) else (Zab.j6 k b (m : Int) e h r (decide (e < (-1074)))):=fun _ => rfl
 have e0 : Zab.l1 (k + 2) b (m : Int) e h r = Zab.j6 (k + 1) b (m : Int) e h r true:=by
  rw [hl];by_cases h1 : (m : Int) ≥ 9007199254740992
  ·rw [if_pos h1]
  ·rw [if_neg h1,decide_eq_true zo]
 have e1 : IntKind.u64.wrap (Int.tdiv (m : Int) 2) = ((m / 2 : Nat) : Int):=by rw [wu64,Zh9 (Int.natCast_nonneg m)];omega
 have e2 : ((Int.tmod (m : Int) 2) == 1) = (m % 2 == 1):=by
  rw [ZgB (Int.natCast_nonneg m),Bool.eq_iff_iff];simp;omega
 have e3 : wrap64 (e + 1) = e + 1:=w64 zo zo;rw [e0,hj6,e1,e2,e3];clear hj6 hl e0 e1 e2 e3;by_cases h0 : m / 2 = 0
 ·(have h0' : ((m / 2 : Nat) : Int) = 0:=by omega);rw [h0'];by_cases h1 : e + 1 < -1074
  ·simp only [if_pos h1,if_pos (show m / 2 = 0 ∧ e + 1 < -1074 from ⟨h0,h1⟩)];cases r <;> cases h <;> rfl
  ·simp only [if_neg h1,if_neg (show ¬ (m / 2 = 0 ∧ e + 1 < -1074) from fun hh => h1 hh.2)];cases r <;> cases h <;> rfl
 ·(have h0' : ¬ ((m / 2 : Nat) : Int) = 0:=by omega);simp only [if_neg h0',if_neg (show ¬ (m / 2 = 0 ∧ e + 1 < -1074) from fun hh => h0 hh.1)];cases r <;> cases h <;> rfl
open CR in
theorem Zjg (b st : Bool) (M : Nat) (E : Int) (D : Nat) (_h0 : M ≠ 0) (hM : M < 18446744073709551616) (hE : -5000 ≤ E ∧ E ≤ 5000) (hst : st = true → 1 ≤ D) (hD0 : -1074 ≤ E + D) (hD1 : M < 2 ^ (53 + D)) (hD2 : D < 10000) (hD3 : E + D ≤ 9000) (hstep : ∀ j,j < D → 2 ^ (53 + j) ≤ M ∨ E + j < -1074)
  (hn : E + D ≠ -1074 → 4503599627370496 ≤ M / 2 ^ D) :
  ∀ (d j : Nat),D - j = d → j ≤ D → Ev (fun k => Zab.l1 k b ((M / 2 ^ j : Nat) : Int) (E + j) (Zdo M j) (Zd1 st M j)) ((ZcA b (E + D) (if st then rneS M D else rne M D) : Nat) : Int):=by
 intro d
 induction d with
 | zero =>
  intro j hd hj;(obtain rfl : j = D:=by omega);have hq : M / 2 ^ j < 9007199254740992:=Nat.div_lt_of_lt_mul (by rw [show (9007199254740992 : Nat) = 2 ^ 53 from rfl,← Nat.pow_add,Nat.add_comm];exact hD1);have hb:=Zk4 st M j hst;rw [← hb];refine Ev.step (f:=fun k => Zab.l1 (k + 1) b ((M / 2 ^ j : Nat) : Int) (E + j) (Zdo M j) (Zd1 st M j)) (fun _ => rfl) ?_
  have ht : (Int.tmod ((M / 2 ^ j : Nat) : Int) 2 == 1) = (M / 2 ^ j % 2 == 1):=by
   rw [ZgB (Int.natCast_nonneg _),Bool.eq_iff_iff];generalize M / 2 ^ j = q;simp;omega
  generalize hz : (Zdo M j && (Zd1 st M j || (M / 2 ^ j % 2 == 1))) = z;(have hz1 : z.toNat ≤ 1:=by cases z <;> decide);refine Ev.step (fun k => ?_) (Zdz b (E + j) (M / 2 ^ j) z hD0 hD3 zo hn);rw [ZdA k b _ _ _ _ zo hD0,ht,hz]
 | succ d ih =>
  intro j hd hj;have hc:=hstep j zo;have hle : M / 2 ^ j ≤ M:=Nat.div_le_self _ _;have hdiv : M / 2 ^ j / 2 = M / 2 ^ (j + 1):=by rw [Nat.div_div_eq_div_mul,← Nat.pow_succ]
  have hcond : M / 2 ^ j ≥ 9007199254740992 ∨ E + (j : Int) < -1074:=by
   rcases hc with h | h
   ·left;exact (Nat.le_div_iff_mul_le (Nat.pow_pos zo)).2 (by rw [show (9007199254740992 : Nat) = 2 ^ 53 from rfl,← Nat.pow_add];exact h)
   ·right;exact h
  have hnx : ∀ k,Zab.l1 (k + 2) b ((M / 2 ^ j : Nat) : Int) (E + j) (Zdo M j) (Zd1 st M j) = if M / 2 ^ j / 2 = 0 ∧ E + j + 1 < -1074 then Zab.l1 k b 0 (-1074) false ((Zd1 st M j || Zdo M j) || (M / 2 ^ j % 2 == 1)) else Zab.l1 k b ((M / 2 ^ j / 2 : Nat) : Int) (E + j + 1) (M / 2 ^ j % 2 == 1) (Zd1 st M j || Zdo M j) :=
   fun k => Zig k b (M / 2 ^ j) (E + j) _ _ zo zo hcond
  refine Ev.step (f:=fun k => Zab.l1 (k + 1) b ((M / 2 ^ j : Nat) : Int) (E + j) (Zdo M j) (Zd1 st M j)) (fun _ => rfl) ?_;by_cases hz : M / 2 ^ j / 2 = 0 ∧ E + j + 1 < -1074
  ·-- nothing is left of it
   have hz1:=hz.1;rw [hdiv] at hz1
   have hlt : M < 2 ^ (j + 1):=by
    rcases Nat.lt_or_ge M (2 ^ (j + 1)) with h | h
    ·exact h
    ·have:=Nat.div_pos h (Nat.pow_pos (n:=j + 1) (show 0 < 2 by omega));omega
   (have hDj : j + 2 ≤ D:=by omega);have hp : 2 ^ (j + 2) ≤ 2 ^ D:=Nat.pow_le_pow_right zo hDj;have hp2 : (2 : Nat) ^ (j + 2) = 2 * 2 ^ (j + 1):=by rw [Nat.pow_succ 2 (j + 1)];omega
   have hS : rneS M D = 0:=by
    unfold rneS
    generalize 2 ^ D = q at *
    generalize 2 ^ (j + 2) = u at *
    generalize 2 ^ (j + 1) = v at *
    rw [Nat.div_eq_of_lt (show M < q by omega),Nat.mod_eq_of_lt (show M < q by omega),if_neg zo]
   have hR : rne M D = 0:=by
    unfold rne
    generalize 2 ^ D = q at *
    generalize 2 ^ (j + 2) = u at *
    generalize 2 ^ (j + 1) = v at *
    rw [Nat.div_eq_of_lt (show M < q by omega),Nat.mod_eq_of_lt (show M < q by omega),if_neg zo]
   (have hz2 : (if st then rneS M D else rne M D) = 0:=by rw [hS,hR];cases st <;> rfl);rw [hz2]
   have hq0 : M / 2 ^ D = 0:=Nat.div_eq_of_lt (by
    generalize 2 ^ D = q at *
    generalize 2 ^ (j + 2) = u at *
    generalize 2 ^ (j + 1) = v at *
    omega)
   have hED : E + D = -1074:=by
    rcases Classical.em (E + D = -1074) with h | h
    ·exact h
    ·have:=hn h;omega
   rw [hED];refine Ev.step (f:=fun k => Zab.l1 k b 0 (-1074) false ((Zd1 st M j || Zdo M j) || (M / 2 ^ j % 2 == 1))) (fun k => by rw [hnx k,if_pos hz]) ?_;refine Ev.step (f:=fun k => Zab.l1 (k + 1) b 0 (-1074) false ((Zd1 st M j || Zdo M j) || (M / 2 ^ j % 2 == 1))) (fun _ => rfl) ?_;exact Ev.step (fun k => by rw [ZdA k b 0 (-1074) false _ zo zo,Bool.false_and];rfl) (Zdz b (-1074) 0 false zo zo (by decide) (fun h => absurd rfl h))
  ·have h':=ih (j + 1) zo zo;rw [Zm2,Zmm,← hdiv] at h';refine Ev.step (fun k => ?_) h';rw [hnx k,if_neg hz];rw [show E + (j : Int) + 1 = E + ((j + 1 : Nat) : Int) by omega]
open CR in
theorem Zjh (b st : Bool) (M : Nat) (E : Int) (h0 : M ≠ 0) (hM : M < 18446744073709551616) (hE : -5000 ≤ E ∧ E ≤ 5000) (r : Int) :
  ∀ (d i : Nat),(E - ZaA M E).toNat - i = d → i ≤ (E - ZaA M E).toNat →
  Ev (fun k => Zab.l1 k b ((M * 2 ^ (E - ZaA M E).toNat : Nat) : Int) (E - (E - ZaA M E).toNat) false st) r →
  Ev (fun k => Zab.l0 k b ((M * 2 ^ i : Nat) : Int) (E - i) st) r:=by
 have hl : ∀ (k : Nat) (x1 x2 : Int),Zab.l0 (k + 1) b x1 x2 st = if x1 < 4503599627370496 then (if x2 > (-1074) then (Zab.l0 k b (IntKind.u64.wrap (x1 * 2)) (wrap64 (x2 - 1)) st) else (Zab.j4 k b x1 x2 st)) else (Zab.j4 k b x1 x2 st):=fun _ _ _ => rfl
 have hj4 : ∀ (k : Nat) (x1 x2 : Int),Zab.j4 (k + 1) b x1 x2 st = Zab.l1 k b x1 x2 false st:=fun _ _ _ => rfl;have hlog:=Zd8 h0;have hlog2:=Zdw M;have hlogM : M.log2 < 64:=ZeK hM h0;intro d
 induction d with
 | zero =>
  intro i hd hi h;(obtain rfl : i = (E - ZaA M E).toNat:=by omega);refine Ev.step (f:=fun k => Zab.j4 k b ((M * 2 ^ (E - ZaA M E).toNat : Nat) : Int) (E - (E - ZaA M E).toNat) st) (fun k => ?_) (Ev.step (fun k => by rw [hj4]) h);rw [hl];by_cases h1 : ((M * 2 ^ (E - ZaA M E).toNat : Nat) : Int) < 4503599627370496
  ·rw [if_pos h1]
   have : ¬ (E - ((E - ZaA M E).toNat : Int) > -1074):=by
    intro h2
    have h3 : M * 2 ^ (E - ZaA M E).toNat < 2 ^ 52:=by
     have : (2 : Nat) ^ 52 = 4503599627370496:=rfl;omega
    have h4 : 2 ^ (M.log2 + (E - ZaA M E).toNat) ≤ M * 2 ^ (E - ZaA M E).toNat:=by
     rw [Nat.pow_add];exact Nat.mul_le_mul_right _ hlog
    have h5 : M.log2 + (E - ZaA M E).toNat < 52:=by
     rcases Nat.lt_or_ge (M.log2 + (E - ZaA M E).toNat) 52 with h | h
     ·exact h
     ·have:=Nat.pow_le_pow_right (n:=2) zo h;omega
    clear h1 h3 h4
    unfold ZaA at *
    omega
   rw [if_neg this]
  ·rw [if_neg h1]
 | succ d ih =>
  intro i hd hi h;have h':=ih (i + 1) zo zo h;refine Ev.step (fun k => ?_) h'
  have hlt : M * 2 ^ i < 4503599627370496:=by
   have h3 : M * 2 ^ i < 2 ^ (M.log2 + 1) * 2 ^ i:=Nat.mul_lt_mul_of_pos_right hlog2 (Nat.pow_pos zo);rw [← Nat.pow_add] at h3;exact Nat.lt_of_lt_of_le h3 (Nat.pow_le_pow_right (n:=2) zo (show M.log2 + 1 + i ≤ 52 by unfold ZaA at *;omega))
  (have hgt : E - (i : Int) > -1074:=by unfold ZaA at *;omega);(have e1 : M * 2 ^ (i + 1) = M * 2 ^ i * 2:=by rw [Nat.pow_succ,Nat.mul_assoc]);rw [e1]
  generalize M * 2 ^ i = p at *
  rw [hl,if_pos zo,if_pos hgt,wu64,w64 zo zo,show ((p : Nat) : Int) * 2 % 18446744073709551616 = ((p * 2 : Nat) : Int) by omega,show E - (i : Int) - 1 = E - ((i + 1 : Nat) : Int) by omega]
open CR in
theorem Zhm (b st : Bool) (M : Nat) (E : Int) (h0 : M ≠ 0) (hM : M < 18446744073709551616) (hE : -5000 ≤ E ∧ E ≤ 5000) (hst : st = true → 72057594037927936 ≤ M) :
  Ev (fun k => Zab.l0 k b (M : Int) E st) ((Zen b M E st : Nat) : Int):=by
 have hlog:=Zd8 h0;have hlog2:=Zdw M;have hlogM : M.log2 < 64:=ZeK hM h0;have h:=Zjh b st M E h0 hM hE ((Zen b M E st : Nat) : Int) (E - ZaA M E).toNat 0 zo zo;rw [Nat.pow_zero,Nat.mul_one,show E - ((0 : Nat) : Int) = E by omega] at h;refine h ?_;(have hlp : -1074 ≤ ZaA M E ∧ ZaA M E ≤ 8000:=by unfold ZaA;omega);(have hlp2 : E + M.log2 - 52 ≤ ZaA M E:=by unfold ZaA;omega);(have hlp3 : ZaA M E = -1074 ∨ ZaA M E = E + M.log2 - 52:=by unfold ZaA;omega);have hkr:=Zg4 M E h0;by_cases hd : ZaA M E > E
 ·-- down
  have hres : Zen b M E st = ZcA b (E + ((ZaA M E - E).toNat : Int)) (if st then rneS M (ZaA M E - E).toNat else rne M (ZaA M E - E).toNat):=by
   rw [show E + ((ZaA M E - E).toNat : Int) = ZaA M E by omega];cases st
   ·unfold Zen;rw [if_neg (by simp),if_neg (by simp),ZdE b M E h0 zo]
   ·rw [ZmL b M E (hst rfl),if_pos rfl]
  rw [hres,show (E - ZaA M E).toNat = 0 by omega,Nat.pow_zero,Nat.mul_one,show E - ((0 : Nat) : Int) = E by omega]
  have hrun:=Zjg b st M E (ZaA M E - E).toNat h0 hM hE (fun _ => by omega) zo
   (Nat.lt_of_lt_of_le hlog2 (Nat.pow_le_pow_right zo zo)) zo zo
   (fun j hj => by
    rcases Classical.em (E + j < -1074) with h | h
    ·exact .inr h
    ·left;exact Nat.le_trans (Nat.pow_le_pow_right zo zo) hlog)
   (fun hne => by
    have hx : ZaA M E ≠ -1074:=by omega
    refine (Nat.le_div_iff_mul_le (Nat.pow_pos zo)).2 ?_
    rw [show (4503599627370496 : Nat) = 2 ^ 52 from rfl,← Nat.pow_add]
    exact Nat.le_trans (Nat.pow_le_pow_right zo zo) hlog)
   (ZaA M E - E).toNat 0 zo zo
  rw [Nat.pow_zero,Nat.div_one,show E + ((0 : Nat) : Int) = E by omega] at hrun;(have e1 : Zdo M 0 = false:=by unfold Zdo;exact decide_eq_false zo);(have e2 : Zd1 st M 0 = st:=by unfold Zd1;rw [decide_eq_false zo,Bool.or_false]);rw [e1,e2] at hrun;exact hrun
 ·-- up
  have hst2 : st = false:=by
   cases st
   ·rfl
   ·have:=Zgh M E (hst rfl);omega
  subst hst2
  have hres : Zen b M E false = ZcA b (ZaA M E) (M * 2 ^ (E - ZaA M E).toNat):=by
   unfold Zen;rw [if_neg (by simp),near_up b M E h0 zo]
  rw [show (ZaA M E - E).toNat = 0 by omega,Zcv] at hkr;rw [hres,show E - (((E - ZaA M E).toNat : Nat) : Int) = ZaA M E by omega]
  generalize hm : M * 2 ^ (E - ZaA M E).toNat = m at *
  rcases Nat.lt_or_ge m 9007199254740992 with hmlt | hmge
  ·refine Ev.step (f:=fun k => Zab.l1 (k + 1) b (m : Int) (ZaA M E) false false) (fun _ => rfl) ?_;have hp:=Zdz b (ZaA M E) m false hlp.1 zo (by show m + 0 ≤ _;omega) hkr.2;exact Ev.step (fun k => by rw [ZdA k b (m : Int) (ZaA M E) false false zo hlp.1,Bool.false_and]) hp
  ·exfalso;have h3 : M * 2 ^ (E - ZaA M E).toNat < 2 ^ (M.log2 + 1) * 2 ^ (E - ZaA M E).toNat:=Nat.mul_lt_mul_of_pos_right hlog2 (Nat.pow_pos zo);rw [← Nat.pow_add] at h3;have h4:=Nat.pow_le_pow_right (n:=2) zo (show M.log2 + 1 + (E - ZaA M E).toNat ≤ 53 by omega);have h5 : (2 : Nat) ^ 53 = 9007199254740992:=rfl;omega
open CR in
theorem ZkU (b : Bool) (M : Nat) (hM : M < 18446744073709551616) (E : Int) (more : Bool) :
  Ev (fun k => Zab.f k b (M : Int) E more) ((Zfn b M E more : Nat) : Int):=by
 have hj0 : ∀ (k : Nat) (x2 : Int),Zab.j0 (k + 1) b (M : Int) x2 more = if x2 < (-5000) then (Zab.j1 k b (M : Int) (-5000) more) else (Zab.j1 k b (M : Int) x2 more):=fun _ _ => rfl
 have hj1 : ∀ (k : Nat) (x2 : Int),Zab.j1 (k + 1) b (M : Int) x2 more = if more = true then ((ZaX.f k 56).bind fun t102 => (Zab.j2 k b (M : Int) x2 (decide ((M : Int) ≥ t102)))) else (Zab.j2 k b (M : Int) x2 false):=fun _ _ => rfl
 have hj2 : ∀ (k : Nat) (x2 : Int) (z : Bool),Zab.j2 (k + 1) b (M : Int) x2 z = if (M : Int) = 0 then ((Zbe.f k 0 b).bind fun t103 => (some t103)) else (Zab.l0 k b (M : Int) x2 z):=fun _ _ _ => rfl
 have hcr : -5000 ≤ ZcI E ∧ ZcI E ≤ 5000:=by unfold ZcI;omega
 have k2 : ∀ z : Bool,z = (more && decide (72057594037927936 ≤ M)) → Ev (fun k => Zab.j2 k b (M : Int) (ZcI E) z) ((Zfn b M E more : Nat) : Int):=by
  intro z hz;unfold Zfn;by_cases h0 : M = 0
  ·rw [if_pos h0];have hs : Ev (fun k => Zbe.f k 0 b) ((enc b 0 : Nat) : Int):=Zey 0 b zo;exact Ev.step (fun k => by rw [hj2,if_pos zo]) (Ev.bind hs (Ev.now _))
  ·rw [if_neg h0,← hz];exact Ev.step (fun k => by rw [hj2,if_neg zo]) (Zhm b z M (ZcI E) h0 hM hcr (fun hh => by rw [hz] at hh;simp at hh;exact hh.2))
 have k1 : Ev (fun k => Zab.j1 k b (M : Int) (ZcI E) more) ((Zfn b M E more : Nat) : Int):=by
  cases hm : more
  ·rw [hm] at k2 hj1;exact Ev.step (fun k => by rw [hj1,if_neg (by simp)]) (k2 false (by simp))
  ·rw [hm] at k2 hj1;have hp : Ev (fun k => ZaX.f k 56) ((2 ^ 56 : Nat) : Int):=Zhn 56 zo;refine Ev.step (f:=fun k => (ZaX.f k 56).bind fun t102 => Zab.j2 k b (M : Int) (ZcI E) (decide ((M : Int) ≥ t102))) (fun k => by rw [hj1,if_pos rfl]) (Ev.bind hp ?_);refine k2 _ ?_;rw [Bool.true_and,decide_eq_decide];have : ((2 ^ 56 : Nat) : Int) = 72057594037927936:=rfl;rw [this];omega
 unfold Zab.f;by_cases h1 : E > 5000
 ·simp only [if_pos h1];(have : ZcI E = 5000:=by unfold ZcI;omega);rw [this] at k1;exact Ev.step (fun k => by rw [hj0,if_neg zo]) k1
 ·simp only [if_neg h1];by_cases h2 : E < -5000
  ·(have : ZcI E = -5000:=by unfold ZcI;omega);rw [this] at k1;exact Ev.step (fun k => by rw [hj0,if_pos h2]) k1
  ·(have : ZcI E = E:=by unfold ZcI;omega);rw [this] at k1;exact Ev.step (fun k => by rw [hj0,if_neg h2]) k1
open CR in
theorem Zk3 (b : Bool) (M : Nat) (E : Int) (st : Bool) (h0 : M ≠ 0) (h1 : -5000 ≤ E) (h2 : E ≤ 5000) (hst : st = true → 72057594037927936 ≤ M) : Zfn b M E st = Zen b M E st:=by
 unfold Zfn;rw [if_neg h0,show ZcI E = E by unfold ZcI;omega]
 congr 1
 cases hs : st
 ·rfl
 ·rw [decide_eq_true (hst hs)];rfl
theorem Zms (A B : Nat) (up : Int) (hup1 : -4000 ≤ up) (hup2 : up ≤ 4000) (D : List Int) (hD : ok32 D) (hDl : D.length ≤ 50000) (hDv : nv D = B * 2 ^ 63) (hB : 0 < B) (hA : A < B * 2 ^ 63) :
  ∀ (d k n : Nat) (L : List Int),64 - k = d → k ≤ 64 → ok32 L → L.length ≤ 3000 + k → A * 2 ^ k = n * (2 * (B * 2 ^ 63)) + nv L → nv L < 2 * (B * 2 ^ 63) →
  Ev (fun r => Zap.l0 r L up (n : Int) D (63 - (k : Int))) ((Zfn false (A / B) (-up) (decide (A % B ≠ 0)) : Nat) : Int):=by
 have hl0 : ∀ (r : Nat) (L : List Int) (n i : Int),Zap.l0 (r + 1) L up n D i = if i ≥ 0 then ((Za9.f r L D).bind fun t174 => (if t174 = true then ((Zau.f r L 2 0).bind fun t175 => (Zap.l0 r t175 up (IntKind.u64.wrap (n * 2)) D (wrap64 (i - 1)))) else ((ZaS.f r L D).bind fun t178 => ((Zau.f r t178 2 0).bind fun t181 => (Zap.l0 r t181 up (IntKind.u64.wrap ((IntKind.u64.wrap (n * 2)) + 1)) D (wrap64 (i - 1))))))) else ((ZaC.f r L).bind fun t172 => ((Zab.f r false n (wrap64 (-up)) (decide (t172 > 0))).bind fun t173 => (some t173))):=fun _ _ _ _ => rfl
 intro d
 induction d with
 | zero =>
  intro k n L hd hk hL hLl hq hlt;(obtain rfl : k = 64:=by omega);obtain ⟨q1,q2⟩:=Zoc hB hq hlt
  have hn : n < 18446744073709551616:=by
   have:=Zjr hq hA zo;exact Nat.lt_trans this (by decide)
  have ht:=Zkm L zo
  have hdec : decide (((tlen L : Nat) : Int) > 0) = decide (A % B ≠ 0):=by
   rw [← q2,decide_eq_decide];constructor
   ·intro h;have:=ZlR hL (tlen L - 1) zo;have h2:=Zfh (tlen L - 1);have h3:=ZcU hL;omega
   ·intro h;rcases Nat.eq_zero_or_pos (tlen L) with h0 | h0
    ·have:=Zh4 h0;have h3:=ZcU hL;omega
    ·omega
  refine Ev.step (fun r => hl0 r L n _) (Zai zo (Ev.bind ht ?_));rw [hdec,w64 zo zo,← q1];exact Ev.bind (ZkU false n hn (-up) _) (Ev.now _)
 | succ d ih =>
  intro k n L hd hk hL hLl hq hlt;obtain ⟨s1,s2⟩:=Zmr hq hlt;have hle:=less_ev L D hL hD zo zo;(have hi : wrap64 ((63 - (k : Int)) - 1) = 63 - ((k + 1 : Nat) : Int):=by rw [w64 zo zo];omega);have hl:=ZcU hL;have hd2:=ZcU hD;(have hpos : 63 - (k : Int) ≥ 0:=by omega);by_cases hc : nv L < B * 2 ^ 63
  ·obtain ⟨t1,t2⟩:=s1 hc;obtain ⟨R,r1,r2,r3,r4,r5⟩:=mul_add L 2 0 hL zo (by decide) (by decide) (by decide) (by decide)
   have hR : nv R = nv L * 2:=by
    have:=ZcU r2;omega
   have hbound:=Zjr t1 hA zo
   have hn : n * 2 < 18446744073709551616:=Nat.lt_of_lt_of_le hbound (by
    have:=Nat.pow_le_pow_right (n:=2) zo (show k + 1 - 1 ≤ 64 by omega)
    exact Nat.le_trans this (by decide))
   have h':=ih (k + 1) (n * 2) R zo zo r2 zo (by rw [hR];exact t1) (by rw [hR];exact t2);rw [decide_eq_true zo] at hle;refine Ev.step (fun r => hl0 r L n _) (Zaj hpos (Ev.bind hle (Zaj rfl (Ev.bind r1 ?_))));rw [hi,wu64,show ((n : Int) * 2) % 18446744073709551616 = ((n * 2 : Nat) : Int) by omega];exact h'
  ·obtain ⟨t1,t2⟩:=s2 zo;obtain ⟨S,u1,u2,u3,u4⟩:=sub_ev L D hL hD zo zo;obtain ⟨R,r1,r2,r3,r4,r5⟩:=mul_add S 2 0 u2 zo (by decide) (by decide) (by decide) (by decide)
   have hR : nv R = (nv L - B * 2 ^ 63) * 2:=by
    have:=ZcU r2;omega
   have hbound:=Zjr t1 hA zo
   have hn : n * 2 + 1 < 18446744073709551616:=Nat.lt_of_lt_of_le hbound (by
    have:=Nat.pow_le_pow_right (n:=2) zo (show k + 1 - 1 ≤ 64 by omega)
    exact Nat.le_trans this (by decide))
   have h':=ih (k + 1) (n * 2 + 1) R zo zo r2 zo (by rw [hR];exact t1) (by rw [hR];exact t2);rw [decide_eq_false zo] at hle;refine Ev.step (fun r => hl0 r L n _) (Zaj hpos (Ev.bind hle (Zai (by decide) (Ev.bind u1 (Ev.bind r1 ?_)))));rw [hi,wu64 ((n : Int) * 2),show ((n : Int) * 2) % 18446744073709551616 = ((n * 2 : Nat) : Int) by omega,wu64,show (((n * 2 : Nat) : Int) + 1) % 18446744073709551616 = ((n * 2 + 1 : Nat) : Int) by omega];exact h'
open CQ in
theorem Zit {A B : Nat} {up : Int} (hup1 : -4000 ≤ up) (hup2 : up ≤ 4000) (hB : 0 < B) (hA : B * 2 ^ 61 ≤ A) : ZbB A B (-up) (Zfn false (A / B) (-up) (decide (A % B ≠ 0))):=by
 have hq : 2 ^ 61 ≤ A / B:=(Nat.le_div_iff_mul_le hB).2 (by rw [Nat.mul_comm];exact hA);have h56 : 72057594037927936 ≤ A / B:=Nat.le_trans (by decide) hq;rw [Zk3 false (A / B) (-up) _ zo zo zo (fun _ => h56)];exact Zge hB rfl h56
@[irreducible] def ZjZ : Nat:=2 ^ 2400
theorem ZoX (m k : Nat) (h : m ≤ k) : 2 ^ m ≤ 2 ^ k:=Nat.pow_le_pow_right zo h
theorem ZkB (k : Nat) (h : k ≤ 2400) : 2 ^ k ≤ ZjZ:=by unfold ZjZ;exact ZoX k 2400 h
theorem ZoR (k : Nat) (h : 2400 ≤ k) : ZjZ ≤ 2 ^ k:=by unfold ZjZ;exact ZoX 2400 k h
theorem ZkA {j x : Nat} (h : 2 ^ j ≤ 2 * x) (hx : x < ZjZ) : j < 2401:=by
 rcases Nat.lt_or_ge j 2401 with h1 | h1
 ·exact h1
 ·exfalso;have h2:=ZoR (j - 1) zo;(have e : 2 ^ j = 2 ^ (j - 1) * 2:=by rw [← Nat.pow_succ];congr 1;omega);omega
open CQ in
theorem quot_ev (a b : List Int) (ha : ok32 a) (hb : ok32 b) (hla : a.length ≤ 1000) (hlb : b.length ≤ 1000) (ha0 : nv a ≠ 0) (hb0 : nv b ≠ 0) (hav : nv a < ZjZ) (hbv : nv b < ZjZ) : ∃ w : Nat,Ev (fun k => Zap.f k a b) (w : Int) ∧ ZbB (nv a) (nv b) 0 w:=by
 obtain ⟨ja,p1,p2,p3,p4⟩:=ZnF a ha zo;obtain ⟨jb,q1,q2,q3,q4⟩:=ZnF b hb zo;have p3:=p3 ha0;have q3:=q3 hb0;have hja:=ZkA p3 hav;have hjb:=ZkA q3 hbv;clear hav hbv;have hw1 : wrap64 ((jb : Int) + 62) = (jb : Int) + 62:=w64 zo zo;have hw : wrap64 ((jb : Int) + 62 - (ja : Int)) = (jb : Int) + 62 - ja:=w64 zo zo;have hj0 : ∀ (x y : List Int) (u : Int) (r : Nat),Zap.j0 (r + 1) x y u = (ZbO.f r y 63).bind fun t169 => (Zap.l0 r x u 0 t169 63):=fun _ _ _ _ => rfl;by_cases hup : (jb : Int) + 62 - ja > 0
 ·obtain ⟨m,hm⟩ : ∃ m : Nat,(jb : Int) + 62 - ja = m:=⟨((jb : Int) + 62 - ja).toNat,by omega⟩;obtain ⟨R,r1,r2,r3,r4⟩:=ZnQ a m ha zo zo;obtain ⟨D,d1,d2,d3,d4⟩:=ZnQ b 63 hb zo zo;have e1 : 2 ^ ja * 2 ^ m = 2 ^ jb * 2 ^ 62:=by rw [← Nat.pow_add,← Nat.pow_add];congr 1;omega
  have hA1 : nv R < nv b * 2 ^ 63:=by
   rw [r3];have h1 : nv a * 2 ^ m < 2 ^ ja * 2 ^ m:=Nat.mul_lt_mul_of_pos_right p2 (Nat.pow_pos zo);have h2 : 2 ^ jb * 2 ^ 62 ≤ 2 * nv b * 2 ^ 62:=Nat.mul_le_mul_right _ q3;(have h3 : 2 * nv b * 2 ^ 62 = nv b * 2 ^ 63:=by rw [show (2 : Nat) ^ 63 = 2 * 2 ^ 62 from rfl];ac_rfl);omega
  have hA2 : nv b * 2 ^ 61 ≤ nv R:=by
   rw [r3];have h1 : 2 ^ ja * 2 ^ m ≤ 2 * nv a * 2 ^ m:=Nat.mul_le_mul_right _ p3;have h2 : nv b * 2 ^ 62 ≤ 2 ^ jb * 2 ^ 62:=Nat.mul_le_mul_right _ (Nat.le_of_lt q2);(have h3 : nv b * 2 ^ 62 = 2 * (nv b * 2 ^ 61):=by rw [show (2 : Nat) ^ 62 = 2 * 2 ^ 61 from rfl];ac_rfl);(have h4 : 2 * nv a * 2 ^ m = 2 * (nv a * 2 ^ m):=by rw [Nat.mul_assoc]);rw [h3,← e1] at h2;rw [h4] at h1;exact Nat.le_of_mul_le_mul_left (Nat.le_trans h2 h1) zo
  have hmain:=Zms (nv R) (nv b) m zo zo D d2 zo d3 zo hA1 64 0 0 R zo zo r2 zo (by rw [Nat.pow_zero,Nat.mul_one,Nat.zero_mul,Nat.zero_add]) zo;refine ⟨_,?_,(Zcu (A:=nv R) (B:=nv b) (C:=nv a) (D:=nv b) (E := -(m : Int)) (F:=0) zo zo m 0 zo (by rw [r3,Nat.pow_zero,Nat.mul_one])).1 (Zit (up:=m) zo zo zo hA2)⟩;unfold Zap.f;refine Ev.bind q1 (Ev.bind p1 ?_);rw [hw1,hw,hm];refine Zaj zo (Ev.bind r1 (Ev.step (hj0 R b m) (Ev.bind d1 hmain)))
 ·obtain ⟨m,hm⟩ : ∃ m : Nat,(jb : Int) + 62 - ja = -(m : Int):=⟨(-((jb : Int) + 62 - ja)).toNat,by omega⟩;obtain ⟨R,r1,r2,r3,r4⟩:=ZnQ b m hb zo zo;obtain ⟨D,d1,d2,d3,d4⟩:=ZnQ R 63 r2 zo zo;(have e1 : 2 ^ ja = 2 ^ jb * 2 ^ 62 * 2 ^ m:=by rw [← Nat.pow_add,← Nat.pow_add];congr 1;omega);have hR0 : 0 < nv R:=by rw [r3];exact Nat.mul_pos zo (Nat.pow_pos zo)
  have hA1 : nv a < nv R * 2 ^ 63:=by
   rw [r3];have h2 : 2 ^ jb * 2 ^ 62 * 2 ^ m ≤ 2 * nv b * 2 ^ 62 * 2 ^ m:=Nat.mul_le_mul_right _ (Nat.mul_le_mul_right _ q3);(have h3 : 2 * nv b * 2 ^ 62 * 2 ^ m = nv b * 2 ^ m * 2 ^ 63:=by rw [show (2 : Nat) ^ 63 = 2 * 2 ^ 62 from rfl];ac_rfl);omega
  have hA2 : nv R * 2 ^ 61 ≤ nv a:=by
   rw [r3];have h2 : nv b * 2 ^ 62 * 2 ^ m ≤ 2 ^ jb * 2 ^ 62 * 2 ^ m:=Nat.mul_le_mul_right _ (Nat.mul_le_mul_right _ (Nat.le_of_lt q2));(have h3 : nv b * 2 ^ 62 * 2 ^ m = 2 * (nv b * 2 ^ m * 2 ^ 61):=by rw [show (2 : Nat) ^ 62 = 2 * 2 ^ 61 from rfl];ac_rfl);omega
  have hmain:=Zms (nv a) (nv R) (-(m : Int)) zo zo D d2 zo d3 hR0 hA1 64 0 0 a zo zo ha zo (by rw [Nat.pow_zero,Nat.mul_one,Nat.zero_mul,Nat.zero_add]) zo;have hnear:=Zit (A:=nv a) (B:=nv R) (up := -(m : Int)) zo zo hR0 hA2;refine ⟨_,?_,(Zcu (A:=nv a) (B:=nv R) (C:=nv a) (D:=nv b) (E := - -(m : Int)) (F:=0) hR0 zo 0 m zo (by rw [r3,Nat.pow_zero,Nat.mul_one];ac_rfl)).1 hnear⟩;unfold Zap.f;refine Ev.bind q1 (Ev.bind p1 ?_);rw [hw1,hw,hm];refine Zai zo ?_;(have hneg : wrap64 (-(-(m : Int))) = (m : Int):=by rw [Int.neg_neg,w64 zo zo]);rw [hneg];exact Ev.bind r1 (Ev.step (hj0 a R (-(m : Int))) (Ev.bind d1 hmain))
theorem zero_l0 (s : ByteArray) (hs : s.size ≤ 1000) : ∀ (d i : Nat),s.size - i = d → i ≤ s.size → Ev (fun k => ZaQ.l0 k s (i : Int)) (decide (∀ j : Nat,j < s.size → i ≤ j → bt s (j : Int) = 48)):=by
 intro d
 induction d with
 | zero =>
  intro i hd hi;rw [decide_eq_true (fun j h1 h2 => by omega)];exact Ev.step (f:=fun _ => some true) (fun k => by simp only [ZaQ.l0];rw [if_neg zo]) (Ev.now _)
 | succ d ih =>
  intro i hd hi;by_cases h : bt s (i : Int) = 48
  ·have e : decide (∀ j : Nat,j < s.size → i ≤ j → bt s (j : Int) = 48) = decide (∀ j : Nat,j < s.size → i + 1 ≤ j → bt s (j : Int) = 48):=by
    rw [decide_eq_decide];constructor
    ·exact fun H j h2 h1 => H j h2 zo
    ·intro H j h2 h1;rcases Nat.eq_or_lt_of_le h1 with rfl | h3
     ·exact h
     ·exact H j h2 h3
   rw [e];refine Ev.step (fun k => ?_) (ih (i + 1) zo zo);simp only [ZaQ.l0];rw [if_pos zo,if_pos zo,if_pos h,w64s zo]
  ·rw [decide_eq_false (fun H => h (H i zo (Nat.le_refl _)))];refine Ev.step (f:=fun _ => some false) (fun k => ?_) (Ev.now _);simp only [ZaQ.l0];rw [if_pos zo,if_pos zo,if_neg h]
theorem zero_ev (s : ByteArray) (h : Zcd s = true) : Ev (fun k => ZaQ.f k s) (decide (bt s 0 = 48)):=by
 obtain ⟨h1,h2,h3,h4⟩:=ZcR s h
 have e : decide (bt s 0 = 48) = decide (∀ j : Nat,j < s.size → 0 ≤ j → bt s (j : Int) = 48):=by
  rw [decide_eq_decide];constructor
  ·intro h5 j hj _;have : ¬ 1 < s.size:=fun h6 => h4 ⟨h5,h6⟩;(obtain rfl : j = 0:=by omega);exact h5
  ·exact fun H => H 0 zo (Nat.le_refl _)
 rw [e];exact zero_l0 s zo s.size 0 rfl zo
theorem near_l1 (E : Int) (hE1 : -500 ≤ E) (hE2 : E ≤ 500) (a : List Int) (r : Int) : ∀ (d i : Nat) (b : List Int),(-E).toNat - i = d → i ≤ (-E).toNat → ok32 b → b.length ≤ 1 + i →
  (∀ b',ok32 b' → b'.length ≤ 501 → nv b' = nv b * 10 ^ ((-E).toNat - i) → Ev (fun k => Zap.f k a b') r) → Ev (fun k => Zaq.l1 k E a b (i : Int)) r:=by
 have hw : wrap64 (-E) = -E:=w64 zo zo
 have hl1 : ∀ (k : Nat) (b : List Int) (i : Int),Zaq.l1 (k + 1) E a b i = if i < wrap64 (-E) then ((Zau.f k b 10 0).bind fun t196 => (Zaq.l1 k E a t196 (wrap64 (i + 1)))) else ((Zap.f k a b).bind fun t199 => (some t199)):=fun _ _ _ => rfl
 intro d
 induction d with
 | zero =>
  intro i b hd hi hb hbl hc;have h1:=hc b hb zo (by rw [show (-E).toNat - i = 0 by omega,Nat.pow_zero,Nat.mul_one]);exact Ev.step (fun k => hl1 k b _) (Zai (by rw [hw];omega) (Ev.bind h1 (Ev.now _)))
 | succ d ih =>
  intro i b hd hi hb hbl hc;(have hlt : (i : Int) < -E:=by omega);obtain ⟨R,r1,r2,r3,r4,r5⟩:=mul_add b 10 0 hb zo (by decide) (by decide) (by decide) (by decide)
  have hR : nv R = nv b * 10:=by
   have h1:=ZcU r2;have h2:=ZcU hb;omega
  have h':=ih (i + 1) R zo zo r2 zo (fun b' q1 q2 q3 => hc b' q1 q2 (by
   rw [q3,hR,show (-E).toNat - i = ((-E).toNat - (i + 1)) + 1 by omega,Nat.pow_succ];ac_rfl))
  have hi2 : wrap64 ((i : Int) + 1) = ((i + 1 : Nat) : Int):=w64s zo;exact Ev.step (fun k => hl1 k b _) (Zaj (by rw [hw];exact hlt) (Ev.bind r1 (by rw [hi2];exact h')))
theorem near_l0 (E : Int) (hE1 : -500 ≤ E) (hE2 : E ≤ 500) (b : List Int) (r : Int) : ∀ (d i : Nat) (a : List Int),E.toNat - i = d → i ≤ E.toNat → ok32 a → a.length ≤ 60 + i →
  (∀ a',ok32 a' → a'.length ≤ 560 → nv a' = nv a * 10 ^ (E.toNat - i) → Ev (fun k => Zaq.l1 k E a' b 0) r) → Ev (fun k => Zaq.l0 k E a b (i : Int)) r:=by
 have hl0 : ∀ (k : Nat) (a : List Int) (i : Int),Zaq.l0 (k + 1) E a b i = if i < E then ((Zau.f k a 10 0).bind fun t193 => (Zaq.l0 k E t193 b (wrap64 (i + 1)))) else (Zaq.l1 k E a b 0):=fun _ _ _ => rfl
 intro d
 induction d with
 | zero =>
  intro i a hd hi ha hal hc;have h1:=hc a ha zo (by rw [show E.toNat - i = 0 by omega,Nat.pow_zero,Nat.mul_one]);exact Ev.step (fun k => hl0 k a _) (Zai zo h1)
 | succ d ih =>
  intro i a hd hi ha hal hc;(have hlt : (i : Int) < E:=by omega);obtain ⟨R,r1,r2,r3,r4,r5⟩:=mul_add a 10 0 ha zo (by decide) (by decide) (by decide) (by decide)
  have hR : nv R = nv a * 10:=by
   have h1:=ZcU r2;have h2:=ZcU ha;omega
  have h':=ih (i + 1) R zo zo r2 zo (fun b' q1 q2 q3 => hc b' q1 q2 (by
   rw [q3,hR,show E.toNat - i = (E.toNat - (i + 1)) + 1 by omega,Nat.pow_succ];ac_rfl))
  have hi2 : wrap64 ((i : Int) + 1) = ((i + 1 : Nat) : Int):=w64s zo;exact Ev.step (fun k => hl0 k a _) (Zaj hlt (Ev.bind r1 (by rw [hi2];exact h')))
open CQ in
theorem Zc4 {A B : Nat} {E : Int} (hB : 0 < B) : ∃ w,ZbB A B E w:=ZiD (Nat.mul_pos hB (pow_pos _))
theorem ZfM (k : Nat) : 10 ^ k ≤ 2 ^ (4 * k):=by
 rw [Nat.pow_mul];exact Nat.pow_le_pow_left (by decide) k
open CQ in
theorem Zl1 (s : ByteArray) (hs : s.size ≤ 140737488351232) (E : Int) : ∃ w : Nat,Ev (fun k => Zaq.f k s E) (w : Int) ∧ (Zcm s E = false → w = 0) ∧ (Zcm s E = true → ZbB (valD s.data.toList * 10 ^ E.toNat) (10 ^ (-E).toNat) 0 w):=by
 have hj : ∀ k b,Zaq.j0 (k + 1) s E b = if b = true then some 0 else ((Zbm.f k s).bind fun t187 => Zaq.l0 k E t187 [1] 0):=fun _ _ => rfl
 have hbad : Ev (fun k => Zaq.j0 k s E true) ((0 : Nat) : Int):=Ev.step (f:=fun _ => some ((0 : Nat) : Int)) (fun k => by rw [hj,if_pos rfl];rfl) (Ev.now _);have hf:=Zn0 s hs;unfold Zaq.f
 cases h1 : Zcd s with
 | false =>
  rw [h1] at hf;exact ⟨0,Ev.bind hf (Zai (by decide) hbad),fun _ => rfl,fun h => by unfold Zcm at h;rw [h1] at h;simp at h⟩
 | true =>
  rw [h1] at hf;by_cases h2 : s.size ≤ 60
  ·by_cases h3 : -500 ≤ E ∧ E ≤ 500
   ·have hz:=zero_ev s h1;by_cases h4 : bt s 0 = 48
    ·rw [decide_eq_true h4] at hz;refine ⟨0,Ev.bind hf (Zaj rfl (Zai zo (Ev.bind (Zaz (Zho E (-500) 500)) (Zaj (decide_eq_true h3) (Ev.bind hz hbad))))),fun _ => rfl,fun h => ?_⟩;unfold Zcm at h;rw [decide_eq_true h4] at h;simp at h
    ·rw [decide_eq_false h4] at hz;obtain ⟨k1,k2,k3,k4⟩:=ZcR s h1;obtain ⟨A,a1,a2,a3,a4⟩:=bin_ev s zo k3;(have hAv : nv A = valD s.data.toList:=by have:=ZcU a2;omega);have hlt:=Zhk _ k3;rw [size_data] at hlt
     have hpos : 0 < valD s.data.toList:=by
      have h5:=Zm5 s h1;rcases Nat.eq_zero_or_pos (valD s.data.toList) with h6 | h6
      ·exfalso;rw [h6] at h5;rw [← h5] at h4;exact h4 rfl
      ·exact h6
     have h60 : valD s.data.toList < 2 ^ 240:=Nat.lt_of_lt_of_le hlt (Nat.le_trans (ZfM _) (Nat.pow_le_pow_right zo zo));have hp1:=ZfM E.toNat;have hp2:=ZfM (-E).toNat;(have hone : ok32 [1]:=by intro x hx;rw [List.mem_singleton.1 hx];decide);have hnv1 : nv [1] = 1:=by unfold nv valI valI;rfl
     have key : ∀ A' B',ok32 A' → ok32 B' → A'.length ≤ 560 → B'.length ≤ 501 → nv A' = nv A * 10 ^ E.toNat → nv B' = 1 * 10 ^ (-E).toNat → ∃ w : Nat,Ev (fun k => Zap.f k A' B') (w : Int) ∧ ZbB (valD s.data.toList * 10 ^ E.toNat) (10 ^ (-E).toNat) 0 w:=by
      intro A' B' o1 o2 l1 l2 v1 v2;rw [hAv] at v1;rw [Nat.one_mul] at v2
      have q:=quot_ev A' B' o1 o2 zo zo (by rw [v1];exact Nat.ne_of_gt (Nat.mul_pos hpos (Nat.pow_pos zo))) (by rw [v2];exact Nat.ne_of_gt (Nat.pow_pos zo))
       (by
        rw [v1]
        refine Nat.lt_of_lt_of_le (Nat.mul_lt_mul_of_lt_of_le h60 hp1 (Nat.pow_pos zo)) ?_
        rw [← Nat.pow_add];exact ZkB _ zo)
       (by rw [v2];exact Nat.lt_of_le_of_lt hp2 (Nat.lt_of_lt_of_le (Nat.pow_lt_pow_right (show 1 < 2 by omega) (show 4 * (-E).toNat < 4 * (-E).toNat + 1 by omega)) (ZkB _ zo)))
      rw [v1,v2] at q;exact q
     obtain ⟨w,hw⟩:=Zc4 (A:=valD s.data.toList * 10 ^ E.toNat) (B:=10 ^ (-E).toNat) (E:=0) (Nat.pow_pos zo)
     have hmain : Ev (fun k => Zaq.j0 k s E false) (w : Int):=by
      refine Ev.step (fun k => by rw [hj,if_neg (by decide)]) (Ev.bind a1 ?_);refine near_l0 E h3.1 h3.2 [1] w E.toNat 0 A zo zo a2 zo (fun A' o1 l1 v1 => ?_);refine near_l1 E h3.1 h3.2 A' w (-E).toNat 0 [1] zo zo hone (by simp) (fun B' o2 l2 v2 => ?_);obtain ⟨w',e1,e2⟩:=key A' B' o1 o2 l1 l2 (by rw [v1,Nat.sub_zero]) (by rw [v2,hnv1,Nat.sub_zero]);rw [ZdF hw e2];exact e1
     refine ⟨w,Ev.bind hf (Zaj rfl (Zai zo (Ev.bind (Zaz (Zho E (-500) 500)) (Zaj (decide_eq_true h3) (Ev.bind hz hmain))))),fun h => ?_,fun _ => hw⟩;unfold Zcm at h;rw [h1,decide_eq_true h2,decide_eq_true h3,decide_eq_false h4] at h;simp at h
   ·refine ⟨0,Ev.bind hf (Zaj rfl (Zai zo (Ev.bind (Zaz (Zho E (-500) 500)) (Zai (by rw [decide_eq_false h3];decide) hbad)))),fun _ => rfl,fun h => ?_⟩;unfold Zcm at h;rw [decide_eq_false h3] at h;simp at h
  ·refine ⟨0,Ev.bind hf (Zaj rfl (Zaj zo hbad)),fun _ => rfl,fun h => ?_⟩;unfold Zcm at h;rw [decide_eq_false h2] at h;simp at h
theorem Zdd (k : Nat) (x0 : ByteArray) (x3 : Int) : Zba.l0 (k + 1) x0 x3 = if (wrap64 (x3 + 1)) < (x0.size : Int) then (if 0 ≤ x3 then (if x3 < (x0.size : Int) then (if (bt x0 x3) = 48 then (Zba.l0 k x0 (wrap64 (x3 + 1))) else (if (x0.size : Int) = 0 then (some (⟨#[48]⟩ : ByteArray)) else (if x3 ≤ (x0.size : Int) then (some (x0.extract (x3 : Int).toNat x0.size)) else (none)))) else (none)) else (none)) else (if (x0.size : Int) = 0 then (some (⟨#[48]⟩ : ByteArray)) else (if 0 ≤ x3 then (if x3 ≤ (x0.size : Int) then (some (x0.extract (x3 : Int).toNat x0.size)) else (none)) else (none))):=rfl
theorem Zed (k : Nat) (x0 : ByteArray) (x3 : Int) : ZaQ.l0 (k + 1) x0 x3 = if x3 < (x0.size : Int) then (if 0 ≤ x3 then (if (bt x0 x3) = 48 then (ZaQ.l0 k x0 (wrap64 (x3 + 1))) else (some false)) else (none)) else (some true):=rfl
theorem Zeh (k : Nat) (x0 : ByteArray) (x5 : ByteArray) (x6 : Int) (x7 : Int) (x34 : Bool) : Zad.j0 (k + 1) x0 x5 x6 x7 x34 = if x34 = true then ((ZaD.f k x0 (wrap64 (x7 + 1))).bind fun t213 => ((Za6.f t213 1 30).bind fun t214 => (if t214 = true then (if 0 ≤ (wrap64 (x7 + 1)) then (if (wrap64 (x7 + 1)) ≤ (wrap64 ((wrap64 (x7 + 1)) + t213)) then (if (wrap64 ((wrap64 (x7 + 1)) + t213)) ≤ (x0.size : Int) then (if x5.size + (x0.extract ((wrap64 (x7 + 1)) : Int).toNat ((wrap64 ((wrap64 (x7 + 1)) + t213)) : Int).toNat).size ≤ 9223372036854775807 then (Zad.j1 k x0 (x5 ++ (x0.extract ((wrap64 (x7 + 1)) : Int).toNat ((wrap64 ((wrap64 (x7 + 1)) + t213)) : Int).toNat)) (wrap64 (-t213)) (wrap64 ((wrap64 (x7 + 1)) + t213))) else (none)) else (none)) else (none)) else (none)) else (some (0,false))))) else (Zad.j1 k x0 x5 x6 x7):=rfl
theorem ZfU (k : Nat) (x0 : ByteArray) (x5 : ByteArray) (x6 : Int) (x7 : Int) : Zad.j1 (k + 1) x0 x5 x6 x7 = if x7 < (x0.size : Int) then (if 0 ≤ x7 then (Zad.j2 k x0 x5 x6 x7 ((bt x0 x7) == 101)) else (none)) else (Zad.j2 k x0 x5 x6 x7 false):=rfl
theorem ZfT (k : Nat) (x0 : ByteArray) (x5 : ByteArray) (x6 : Int) (x7 : Int) (x67 : Bool) : Zad.j2 (k + 1) x0 x5 x6 x7 x67 = if x67 = true then (if (wrap64 (x7 + 1)) < (x0.size : Int) then (if 0 ≤ (wrap64 (x7 + 1)) then (Zad.j3 k x0 x5 x6 (wrap64 (x7 + 1)) ((bt x0 (wrap64 (x7 + 1))) == 45)) else (none)) else (Zad.j3 k x0 x5 x6 (wrap64 (x7 + 1)) false)) else (Zad.j7 k x0 x5 x6 x7):=rfl
theorem Zdf (k : Nat) (x0 : ByteArray) (x5 : ByteArray) (x6 : Int) (x7 : Int) : Zad.j7 (k + 1) x0 x5 x6 x7 = if x7 = (x0.size : Int) then ((Zba.f k x5).bind fun t217 => ((ZaQ.f k t217).bind fun t218 => (if t218 = true then (some (0,true)) else (if x6 > 500 then (some (9218868437227405312,true)) else (if x6 < (-500) then (some (0,true)) else ((Zaq.f k t217 x6).bind fun t219 => (some (t219,true)))))))) else (some (0,false)):=rfl
theorem Zeg (k : Nat) (x0 : ByteArray) (x5 : ByteArray) (x6 : Int) (x7 : Int) (x9 : Bool) : Zad.j3 (k + 1) x0 x5 x6 x7 x9 = if x7 < (x0.size : Int) then (if 0 ≤ x7 then (if (bt x0 x7) = 45 then (Zad.j4 k x0 x5 x6 x7 x9 true) else (Zad.j4 k x0 x5 x6 x7 x9 ((bt x0 x7) == 43))) else (none)) else (Zad.j4 k x0 x5 x6 x7 x9 false):=rfl
theorem Zef (k : Nat) (x0 : ByteArray) (x5 : ByteArray) (x6 : Int) (x7 : Int) (x9 : Bool) (x95 : Bool) : Zad.j4 (k + 1) x0 x5 x6 x7 x9 x95 = if x95 = true then (Zad.j5 k x0 x5 x6 (wrap64 (x7 + 1)) x9) else (Zad.j5 k x0 x5 x6 x7 x9):=rfl
theorem ZfS (k : Nat) (x0 : ByteArray) (x5 : ByteArray) (x6 : Int) (x7 : Int) (x9 : Bool) : Zad.j5 (k + 1) x0 x5 x6 x7 x9 = (ZaD.f k x0 x7).bind fun t215 => ((Za6.f t215 1 3).bind fun t216 => (if t216 = true then (Zad.l0 k x0 x5 x6 x7 x9 t215 0 0) else (some (0,false)))):=rfl
theorem Zee (k : Nat) (x0 : ByteArray) (x5 : ByteArray) (x6 : Int) (x7 : Int) (x9 : Bool) (x10 : Int) (x11 : Int) (x12 : Int) : Zad.l0 (k + 1) x0 x5 x6 x7 x9 x10 x11 x12 = if x12 < x10 then (if 0 ≤ (wrap64 (x7 + x12)) then (if (wrap64 (x7 + x12)) < (x0.size : Int) then (Zad.l0 k x0 x5 x6 x7 x9 x10 (wrap64 ((wrap64 ((wrap64 (10 * x11)) + (wrap64 (bt x0 (wrap64 (x7 + x12)))))) - 48)) (wrap64 (x12 + 1))) else (none)) else (none)) else (if x9 = true then (Zad.j7 k x0 x5 (wrap64 (x6 + (wrap64 (-x11)))) (wrap64 (x7 + x10))) else (Zad.j7 k x0 x5 (wrap64 (x6 + x11)) (wrap64 (x7 + x10)))):=rfl
theorem Zno : ∀ (L : List UInt8),(∀ b ∈ L,isDg b) → dgN L = L.length
  | [],_ => rfl
  | b :: r,h => by
    have h1:=h b (by simp)
    unfold isDg at h1
    unfold dgN
    rw [if_pos h1,Zno r (fun c hc => h c (by simp [hc])),List.length_cons]
theorem ZiS : ∀ (L : List UInt8),∀ b ∈ L.take (dgN L),isDg b
  | [],b,hb => by cases hb
  | c :: r,b,hb => by
    unfold dgN at hb
    split at hb
    · rename_i hc
      rw [List.take_succ_cons] at hb
      rcases List.mem_cons.1 hb with e | e
      · rw [e];exact hc
      · exact ZiS r b e
    · cases hb
theorem ZhM : ∀ {D R : List UInt8},(∀ b ∈ D,isDg b) → (∀ c,R.head? = some c → ¬ isDg c) → dgN (D ++ R) = D.length
  | [],[],_,_ => rfl
  | [],c :: R,_,hR => by
    rw [List.nil_append]
    unfold dgN
    rw [if_neg (show ¬ (48 ≤ c.toNat ∧ c.toNat ≤ 57) from hR c rfl)]
    rfl
  | b :: D,R,hD,hR => by
    have h1:=hD b (by simp)
    unfold isDg at h1
    rw [List.cons_append]
    unfold dgN
    rw [if_pos h1,ZhM (fun c hc => hD c (by simp [hc])) hR,List.length_cons]
theorem ZdV (a b c : Int) : Za6.f a b c = some (decide (b ≤ a ∧ a ≤ c)):=by
 unfold Za6.f;by_cases h : a ≥ b
 ·rw [if_pos h];simp;omega
 ·rw [if_neg h];simp;omega
theorem ZlN (s : ByteArray) (hs : s.size ≤ 1000) : ∀ (d i : Nat),s.size - i = d → i ≤ s.size → ∃ r : ByteArray,Ev (fun k => Zba.l0 k s (i : Int)) r ∧ r.size ≤ 1000:=by
 have hend : ∀ i : Nat,i ≤ s.size → ∃ r : ByteArray,(if (s.size : Int) = 0 then (some (⟨#[48]⟩ : ByteArray)) else (if (i : Int) ≤ (s.size : Int) then (some (s.extract (i : Int).toNat s.size)) else none)) = some r ∧ r.size ≤ 1000:=by
  intro i hi;by_cases h0 : (s.size : Int) = 0
  ·exact ⟨_,if_pos h0,by show 1 ≤ 1000;omega⟩
  ·refine ⟨s.extract (i : Int).toNat s.size,by rw [if_neg h0,if_pos zo],?_⟩;rw [ByteArray.size_extract];omega
 intro d
 induction d with
 | zero =>
  intro i hd hi;obtain ⟨r,h1,h2⟩:=hend i hi;refine ⟨r,Ev.step (fun k => Zdd k ..) ?_,h2⟩;rw [w64s zo];refine Zai zo ?_;by_cases h0 : (s.size : Int) = 0
  ·rw [if_pos h0] at h1;exact Zaj h0 (Zaz h1)
  ·rw [if_neg h0] at h1;exact Zai h0 (Zaj zo (Zaz h1))
 | succ d ih =>
  intro i hd hi;obtain ⟨r,h1,h2⟩:=hend i hi;by_cases c : i + 1 < s.size
  ·by_cases c48 : bt s (i : Int) = 48
   ·obtain ⟨r2,g1,g2⟩:=ih (i + 1) zo zo;refine ⟨r2,Ev.step (fun k => Zdd k ..) ?_,g2⟩;rw [w64s zo];exact Zaj zo (Zaj zo (Zaj zo (Zaj c48 g1)))
   ·refine ⟨r,Ev.step (fun k => Zdd k ..) ?_,h2⟩;rw [w64s zo];exact Zaj zo (Zaj zo (Zaj zo (Zai c48 (Zaz h1))))
  ·refine ⟨r,Ev.step (fun k => Zdd k ..) ?_,h2⟩;rw [w64s zo];refine Zai zo ?_;by_cases h0 : (s.size : Int) = 0
   ·rw [if_pos h0] at h1;exact Zaj h0 (Zaz h1)
   ·rw [if_neg h0] at h1;exact Zai h0 (Zaj zo (Zaz h1))
theorem ZlB (s : ByteArray) (hs : s.size ≤ 1000) : ∀ (d i : Nat),s.size - i = d → i ≤ s.size → ∃ r : Bool,Ev (fun k => ZaQ.l0 k s (i : Int)) r:=by
 intro d
 induction d with
 | zero =>
  intro i hd hi;exact ⟨true,Ev.step (fun k => Zed k ..) (Zai zo (Ev.now _))⟩
 | succ d ih =>
  intro i hd hi;by_cases c : bt s (i : Int) = 48
  ·obtain ⟨r,h⟩:=ih (i + 1) zo zo;refine ⟨r,Ev.step (fun k => Zed k ..) ?_⟩;rw [w64s zo];exact Zaj zo (Zaj zo (Zaj c h))
  ·exact ⟨false,Ev.step (fun k => Zed k ..) (Zaj zo (Zaj zo (Zai c (Ev.now _))))⟩
theorem Ze0 {t s : ByteArray} (E : Int) (hs : s.size ≤ 1000) : ∃ x : Int,Ev (fun k => Zad.j7 k t s E (t.size : Int)) (x,true):=by
 obtain ⟨r,h1,h2⟩:=ZlN s hs s.size 0 zo zo;obtain ⟨z,h3⟩:=ZlB r h2 r.size 0 zo zo;obtain ⟨w,h4,_⟩:=Zl1 r zo E;have g1 : Ev (fun k => Zba.f k s) r:=h1;have g3 : Ev (fun k => ZaQ.f k r) z:=h3
 cases z with
 | true => exact ⟨0,Ev.step (fun k => Zdf k ..) (Zaj rfl (Ev.bind g1 (Ev.bind g3 (Zaj rfl (Ev.now _)))))⟩
 | false =>
  by_cases c1 : E > 500
  ·exact ⟨_,Ev.step (fun k => Zdf k ..) (Zaj rfl (Ev.bind g1 (Ev.bind g3 (Zai (by decide) (Zaj c1 (Ev.now _))))))⟩
  ·by_cases c2 : E < -500
   ·exact ⟨_,Ev.step (fun k => Zdf k ..) (Zaj rfl (Ev.bind g1 (Ev.bind g3 (Zai (by decide) (Zai c1 (Zaj c2 (Ev.now _)))))))⟩
   ·exact ⟨_,Ev.step (fun k => Zdf k ..) (Zaj rfl (Ev.bind g1 (Ev.bind g3 (Zai (by decide) (Zai c1 (Zai c2 (Ev.bind h4 (Ev.now _))))))))⟩
theorem ZnV {t s : ByteArray} {P n : Nat} (hP : P + n = t.size) (ht : t.size ≤ 1000) (hs : s.size ≤ 1000) (below : Bool) (q : Int) : ∀ (d i : Nat) (v : Int),n - i = d → i ≤ n → ∃ x : Int,Ev (fun k => Zad.l0 k t s q (P : Int) below (n : Int) v (i : Int)) (x,true):=by
 intro d
 induction d with
 | zero =>
  intro i v hd hi;have hz : wrap64 ((P : Int) + (n : Int)) = (t.size : Int):=by rw [wsum zo,hP]
  cases below with
  | true =>
   obtain ⟨x,h⟩:=Ze0 (t:=t) (wrap64 (q + wrap64 (-v))) hs;refine ⟨x,Ev.step (fun k => Zee k ..) ?_⟩;rw [hz];clear hz;exact Zai zo (Zaj rfl h)
  | false =>
   obtain ⟨x,h⟩:=Ze0 (t:=t) (wrap64 (q + v)) hs;refine ⟨x,Ev.step (fun k => Zee k ..) ?_⟩;rw [hz];clear hz;exact Zai zo (Zai (by decide) h)
 | succ d ih =>
  intro i v hd hi;obtain ⟨x,h⟩:=ih (i + 1) (wrap64 ((wrap64 ((wrap64 (10 * v)) + (wrap64 (bt t ((P + i : Nat) : Int))))) - 48)) zo zo;refine ⟨x,Ev.step (fun k => Zee k ..) ?_⟩;rw [wsum zo,w64s zo];exact Zaj zo (Zaj zo (Zaj zo h))
theorem Zih {t s : ByteArray} {H S D3 : List UInt8} {q : Int} (h : t.data.toList = H ++ expS S D3) (hs : t.size ≤ 1000) (hl : s.size ≤ 1000) (hd : ∀ b ∈ D3,isDg b) (hS : Sgn S) :
  ∃ x : Int,Ev (fun k => Zad.j1 k t s q (H.length : Int)) (x,decide (D3.length ≤ 3)):=by
 by_cases hD : D3 = []
 ·subst hD;(have hsz : t.size = H.length:=by rw [← size_data,h,ZfB,List.append_nil]);obtain ⟨x,hx⟩:=Ze0 (t:=t) q hl;refine ⟨x,?_⟩;rw [← hsz];refine Ev.step (fun k => ZfU k ..) (Zai zo ?_);exact Ev.step (fun k => ZfT k ..) (Zai (by decide) hx)
 ·(have h1 : t.data.toList = H ++ 101 :: (S ++ D3):=by rw [h,ZdJ S hD]);have hD1 : 1 ≤ D3.length:=List.length_pos_iff.2 hD;(have hsz : t.size = H.length + (1 + S.length + D3.length):=by rw [← size_data,h1];simp;omega);obtain ⟨b1,b2⟩:=Zbr h1
  have hj5 : ∀ (below : Bool),∃ x : Int,Ev (fun k => Zad.j5 k t s q ((H.length + 1 + S.length : Nat) : Int) below) (x,decide (D3.length ≤ 3)):=by
   intro below;(have h4 : t.data.toList = (H ++ (101 :: S)) ++ D3:=by rw [h1];simp);(have hlen : ((H ++ (101 :: S)).length : Int) = ((H.length + 1 + S.length : Nat) : Int):=by rw [List.length_append,List.length_cons];omega);have hrun:=ZdU hs h4;rw [hlen,Zno D3 hd] at hrun;by_cases c3 : D3.length ≤ 3
   ·obtain ⟨x,hx⟩:=ZnV (t:=t) (s:=s) (P:=H.length + 1 + S.length) (n:=D3.length) zo hs hl below q D3.length 0 0 zo zo;rw [decide_eq_true c3];exact ⟨x,Ev.step (fun k => ZfS k ..) (Ev.bind hrun (Ev.bind (Zaz (ZdV _ _ _)) (Zaj (decide_eq_true ⟨by omega,by omega⟩) hx)))⟩
   ·rw [decide_eq_false c3];refine ⟨0,Ev.step (fun k => ZfS k ..) (Ev.bind hrun (Ev.bind (Zaz (ZdV _ _ _)) (Zai ?_ (Ev.now _))))⟩;rw [decide_eq_true_iff];omega
  obtain ⟨x5,h5⟩:=hj5 false;obtain ⟨x6,h6⟩:=hj5 true
  have hj1 : ∀ r,Ev (fun k => if wrap64 ((H.length : Int) + 1) < (t.size : Int) then (if 0 ≤ wrap64 ((H.length : Int) + 1) then Zad.j3 k t s q (wrap64 ((H.length : Int) + 1)) ((bt t (wrap64 ((H.length : Int) + 1))) == 45) else none) else Zad.j3 k t s q (wrap64 ((H.length : Int) + 1)) false) r → Ev (fun k => Zad.j1 k t s q (H.length : Int)) r:=by
   intro r hr;refine Ev.step (fun k => ZfU k ..) (Zaj zo (Zaj zo ?_));rw [b2];exact Ev.step (fun k => ZfT k ..) (Zaj rfl hr)
  rcases hS with rfl | rfl | rfl
  ·cases D3 with
   | nil => exact absurd rfl hD
   | cons d r3 =>
    have hdd:=hd d (by simp);unfold isDg at hdd;(have h2 : t.data.toList = (H ++ [101]) ++ d :: r3:=by rw [h1];simp);obtain ⟨c1,c2⟩:=Zbr h2;rw [List.length_append,List.length_singleton] at c1 c2;refine ⟨x5,hj1 _ ?_⟩;rw [w64s zo];refine Zaj zo (Zaj zo ?_);rw [c2];(have e45 : (((d.toNat : Nat) : Int) == 45) = false:=by rw [beq_eq_false_iff_ne];omega);(have e43 : (((d.toNat : Nat) : Int) == 43) = false:=by rw [beq_eq_false_iff_ne];omega);rw [e45];refine Ev.step (fun k => Zeg k ..) (Zaj zo (Zaj zo ?_));rw [c2,e43];refine Zai zo ?_;exact Ev.step (fun k => Zef k ..) (Zai (by decide) h5)
  ·(have h2 : t.data.toList = (H ++ [101]) ++ 43 :: D3:=by rw [h1];simp);obtain ⟨c1,c2⟩:=Zbr h2;rw [List.length_append,List.length_singleton] at c1 c2;refine ⟨x5,hj1 _ ?_⟩;rw [w64s zo];refine Zaj zo (Zaj zo ?_);rw [c2];refine Ev.step (fun k => Zeg k ..) (Zaj zo (Zaj zo ?_));rw [c2];refine Zai (by decide) (Ev.step (fun k => Zef k ..) (Zaj rfl ?_));rw [w64s zo];exact h5
  ·(have h2 : t.data.toList = (H ++ [101]) ++ 45 :: D3:=by rw [h1];simp);obtain ⟨c1,c2⟩:=Zbr h2;rw [List.length_append,List.length_singleton] at c1 c2;refine ⟨x6,hj1 _ ?_⟩;rw [w64s zo];refine Zaj zo (Zaj zo ?_);rw [c2];refine Ev.step (fun k => Zeg k ..) (Zaj zo (Zaj zo ?_));rw [c2];refine Zaj rfl (Ev.step (fun k => Zef k ..) (Zaj rfl ?_));rw [w64s zo];exact h6
theorem ZkV {t : ByteArray} {D1 D2 S D3 : List UInt8} (h : t.data.toList = D1 ++ (dotL D2 ++ expS S D3)) (hs : t.size ≤ 1000) (h1 : D1 ≠ []) (d1 : ∀ b ∈ D1,isDg b) (d2 : ∀ b ∈ D2,isDg b) (d3 : ∀ b ∈ D3,isDg b) (hS : Sgn S) :
  ∃ x : Int,Ev (fun k => Zad.f k t) (x,decide (D1.length ≤ 30 ∧ D2.length ≤ 30 ∧ D3.length ≤ 3)):=by
 have hrest : ∀ c,(dotL D2 ++ expS S D3).head? = some c → ¬ isDg c:=by
  intro c hc;by_cases h2 : D2 = []
  ·rw [h2,ZfC,List.nil_append] at hc;rw [ZeO S D3 c hc];exact ZeH
  ·rw [ZdL h2,List.cons_append] at hc;rw [← Option.some.inj hc];exact Zjv
 have hl1 : 1 ≤ D1.length:=List.length_pos_iff.2 h1;have hsl : S.length ≤ 1:=by rcases hS with rfl | rfl | rfl <;> simp
 have hrun : Ev (fun k => ZaD.f k t 0) (D1.length : Int):=by
  have g:=ZdU (A:=[]) (L:=D1 ++ (dotL D2 ++ expS S D3)) hs (by rw [h];rfl);rw [ZhM d1 hrest] at g;exact g
 (have hle : D1.length ≤ t.size:=by rw [← size_data,h,List.length_append];omega);have hcut1 : t.extract 0 D1.length = ⟨D1.toArray⟩:=Zfe (X:=[]) (by rw [h,List.nil_append]) rfl (by simp);by_cases c80 : t.size > 80
 ·have hno : ¬ (D1.length ≤ 30 ∧ D2.length ≤ 30 ∧ D3.length ≤ 3):=by
   intro hh;have e1 : (dotL D2).length ≤ D2.length + 1:=by unfold dotL;split <;> simp
   have e2 : (expS S D3).length ≤ S.length + D3.length + 1:=by
    unfold expS;split
    ·simp
    ·rw [List.length_cons,List.length_append];omega
   rw [← size_data,h,List.length_append,List.length_append] at c80;omega
  rw [decide_eq_false hno];refine ⟨0,?_⟩;unfold Zad.f;exact Zaj zo (Ev.now _)
 ·have hgo : ∀ r,D1.length ≤ 30 → Ev (fun k => if ((D1.length : Nat) : Int) < (t.size : Int) then Zad.j0 k t ⟨D1.toArray⟩ 0 (D1.length : Int) ((bt t (D1.length : Int)) == 46) else Zad.j0 k t ⟨D1.toArray⟩ 0 (D1.length : Int) false) r → Ev (fun k => Zad.f k t) r:=by
   intro r c1 hr;unfold Zad.f;refine Zai zo (Ev.bind hrun (Ev.bind (Zaz (ZdV _ _ _)) (Zaj (decide_eq_true ⟨by omega,by omega⟩) (Zaj zo (Zaj zo ?_)))));rw [Int.toNat_natCast,hcut1];exact hr
  have hsz1 : (⟨D1.toArray⟩ : ByteArray).size = D1.length:=List.size_toArray ..;by_cases c1 : D1.length ≤ 30
  ·by_cases hD : D2 = []
   ·subst hD;rw [ZfC,List.nil_append] at h;obtain ⟨x,hx⟩:=Zih (s:=⟨D1.toArray⟩) (q:=0) h hs zo d3 hS
    have e : decide (D1.length ≤ 30 ∧ ([] : List UInt8).length ≤ 30 ∧ D3.length ≤ 3) = decide (D3.length ≤ 3):=by
     rw [decide_eq_decide];exact ⟨fun hh => hh.2.2,fun hh => ⟨c1,by decide,hh⟩⟩
    rw [e];have hj0 : Ev (fun k => Zad.j0 k t ⟨D1.toArray⟩ 0 (D1.length : Int) false) (x,decide (D3.length ≤ 3)):=Ev.step (fun k => Zeh k ..) (Zai (by decide) hx);refine ⟨x,hgo _ c1 ?_⟩;by_cases hD3 : D3 = []
    ·(have hs2 : t.size = D1.length:=by rw [← size_data,h,hD3,ZfB,List.append_nil]);exact Zai zo hj0
    ·obtain ⟨b1,b2⟩:=Zbr (h.trans (congrArg (D1 ++ ·) (ZdJ S hD3)));refine Zaj zo ?_;rw [b2];exact hj0
   ·(have h2 : t.data.toList = D1 ++ 46 :: (D2 ++ expS S D3):=by rw [h,ZdL hD];simp);(have h3 : t.data.toList = (D1 ++ [46]) ++ (D2 ++ expS S D3):=by rw [h2];simp);(have h4 : t.data.toList = (D1 ++ (46 :: D2)) ++ expS S D3:=by rw [h2];simp);(have hsz2 : D1.length + 1 + D2.length ≤ t.size:=by rw [← size_data,h2];simp;omega);obtain ⟨b1,b2⟩:=Zbr h2;have hrun2:=ZdU hs h3;rw [ZhM d2 (fun c hc => by rw [ZeO S D3 c hc];exact ZeH),List.length_append,List.length_singleton] at hrun2;have hD1 : 1 ≤ D2.length:=List.length_pos_iff.2 hD;by_cases c2 : D2.length ≤ 30
    ·have hcut2 : t.extract (D1.length + 1) (D1.length + 1 + D2.length) = ⟨D2.toArray⟩:=Zfe h3 (by simp) (by simp);have happ : (⟨D1.toArray⟩ : ByteArray) ++ (⟨D2.toArray⟩ : ByteArray) = ⟨(D1 ++ D2).toArray⟩:=by apply Zb0;rw [Zcj]
     have hszA : (⟨(D1 ++ D2).toArray⟩ : ByteArray).size = D1.length + D2.length:=by
      show (D1 ++ D2).toArray.size = _;rw [List.size_toArray,List.length_append]
     obtain ⟨x,hx⟩:=Zih (s:=⟨(D1 ++ D2).toArray⟩) (q := -(D2.length : Int)) h4 hs zo d3 hS;(have hlen : ((D1 ++ (46 :: D2)).length : Int) = ((D1.length + 1 + D2.length : Nat) : Int):=by rw [List.length_append,List.length_cons];omega);rw [hlen] at hx
     have e : decide (D1.length ≤ 30 ∧ D2.length ≤ 30 ∧ D3.length ≤ 3) = decide (D3.length ≤ 3):=by
      rw [decide_eq_decide];exact ⟨fun hh => hh.2.2,fun hh => ⟨c1,c2,hh⟩⟩
     rw [e];refine ⟨x,hgo _ c1 (Zaj zo ?_)⟩;rw [b2];refine Ev.step (fun k => Zeh k ..) (Zaj rfl ?_);rw [w64s zo];refine Ev.bind hrun2 (Ev.bind (Zaz (ZdV _ _ _)) (Zaj (decide_eq_true ⟨by omega,by omega⟩) ?_));rw [wsum zo,Int.toNat_natCast,Int.toNat_natCast,hcut2,happ,w64 (x := -(D2.length : Int)) zo zo];refine Zaj zo (Zaj zo (Zaj zo (Zaj ?_ hx)));show D1.toArray.size + D2.toArray.size ≤ _;rw [List.size_toArray,List.size_toArray];omega
    ·rw [decide_eq_false (fun hh => c2 hh.2.1)];refine ⟨0,hgo _ c1 (Zaj zo ?_)⟩;rw [b2];refine Ev.step (fun k => Zeh k ..) (Zaj rfl ?_);rw [w64s zo];refine Ev.bind hrun2 (Ev.bind (Zaz (ZdV _ _ _)) (Zai ?_ (Ev.now _)));rw [decide_eq_true_iff];omega
  ·rw [decide_eq_false (fun hh => c1 hh.1)];refine ⟨0,?_⟩;unfold Zad.f;refine Zai zo (Ev.bind hrun (Ev.bind (Zaz (ZdV _ _ _)) (Zai ?_ (Ev.now _))));rw [decide_eq_true_iff];omega
theorem Zom (L : List UInt8) (h : 0 < dgN L) : ∃ D1 D2 S D3,L.take (numN L) = D1 ++ (dotL D2 ++ expS S D3) ∧ D1 ≠ [] ∧ (∀ b ∈ D1,isDg b) ∧ (∀ b ∈ D2,isDg b) ∧ (∀ b ∈ D3,isDg b) ∧ Sgn S:=by
 have ha:=ZcH L
 have hdot : ∀ R : List UInt8,∃ D2,R.take (dotN R) = dotL D2 ∧ ∀ b ∈ D2,isDg b:=by
  intro R
  cases R with
  | nil => exact ⟨[],rfl,fun b hb => by cases hb⟩
  | cons b r =>
   rw [ZbR];split
   ·rename_i hc
    refine ⟨r.take (dgN r),?_,ZiS r⟩
    have hne : r.take (dgN r) ≠ []:=fun e => by
     have:=congrArg List.length e;rw [List.length_take] at this;simp only [List.length_nil] at this;have:=ZcH r;omega
    have hb : b = 46:=UInt8.toNat.inj hc.1;rw [ZdL hne,hb,Nat.add_comm,List.take_succ_cons]
   ·exact ⟨[],rfl,fun b hb => by cases hb⟩
 have hexp : ∀ R : List UInt8,∃ S D3,R.take (expN R) = expS S D3 ∧ (∀ b ∈ D3,isDg b) ∧ Sgn S:=by
  intro R
  cases R with
  | nil => exact ⟨[],[],rfl,(fun b hb => by cases hb),.inl rfl⟩
  | cons b r =>
   rw [Zcg];split
   ·rename_i hc
    have hb : b = 101:=UInt8.toNat.inj hc.1;have hle:=ZcH (r.drop (Zbz r));refine ⟨r.take (Zbz r),(r.drop (Zbz r)).take (dgN (r.drop (Zbz r))),?_,ZiS _,?_⟩
    ·have hne : (r.drop (Zbz r)).take (dgN (r.drop (Zbz r))) ≠ []:=fun e => by
      have:=congrArg List.length e;rw [List.length_take] at this;simp only [List.length_nil] at this;omega
     rw [ZdJ _ hne,hb,show 1 + Zbz r + dgN (r.drop (Zbz r)) = Zbz r + dgN (r.drop (Zbz r)) + 1 by omega,List.take_succ_cons,List.take_add]
    ·cases r with
     | nil => exact .inl rfl
     | cons d r =>
      rw [ZbQ];split
      ·rename_i hd
       rcases hd with hd | hd
       ·have : d = 43:=UInt8.toNat.inj hd;subst this;exact .inr (.inl rfl)
       ·have : d = 45:=UInt8.toNat.inj hd;subst this;exact .inr (.inr rfl)
      ·exact .inl rfl
   ·exact ⟨[],[],rfl,(fun b hb => by cases hb),.inl rfl⟩
 obtain ⟨D2,e2,g2⟩:=hdot (L.drop (dgN L));obtain ⟨S,D3,e3,g3,gS⟩:=hexp ((L.drop (dgN L)).drop (dotN (L.drop (dgN L))));refine ⟨L.take (dgN L),D2,S,D3,?_,?_,ZiS L,g2,g3,gS⟩
 ·unfold numN;rw [List.take_add,List.take_add,e2,List.append_assoc,← List.drop_drop,e3]
 ·intro e;have:=congrArg List.length e;rw [List.length_take] at this;simp only [List.length_nil] at this;omega
def Zd4 : List ByteArray:=(Zcn.f).getD []
theorem ZkI : Zcn.f = some Zd4:=rfl
theorem ZkH : ZcZ.f = some Zd4:=rfl
theorem ev_one {α : Type} {g : Nat → Option α} {a b : α} (ha : Ev g a) (hb : Ev g b) : a = b:=by
 obtain ⟨i,hi⟩:=ha;obtain ⟨j,hj⟩:=hb;exact Option.some.inj ((hi (i + j) zo).symm.trans (hj (i + j) zo))
section
open Classical
noncomputable def okB (T : List UInt8) : Bool:=decide (∃ x : Int,Ev (fun k => Zae.f k ⟨T.toArray⟩) (x,true))
noncomputable def numX (T : List UInt8) : Int:=if h : ∃ x : Int,Ev (fun k => Zae.f k ⟨T.toArray⟩) (x,okB T) then Classical.choose h else 0
theorem Zis {L : List UInt8} (h : 0 < dgN L) (hs : L.length ≤ 1000) : Ev (fun k => Zae.f k ⟨(L.take (numN L)).toArray⟩) (numX (L.take (numN L)),okB (L.take (numN L))) ∧ ∃ y : Int,Ev (fun k => Zad.f k ⟨(L.take (numN L)).toArray⟩) (y,okB (L.take (numN L))):=by
 obtain ⟨D1,D2,S,D3,e,g1,g2,g3,g4,g5⟩:=Zom L h
 have hsz : (⟨(L.take (numN L)).toArray⟩ : ByteArray).size ≤ 1000:=by
  show (L.take (numN L)).toArray.size ≤ 1000;rw [List.size_toArray,List.length_take];omega
 have ht : (⟨(L.take (numN L)).toArray⟩ : ByteArray).data.toList = D1 ++ (dotL D2 ++ expS S D3):=e;obtain ⟨x,hx⟩:=Zll ht hsz g1 g2 g3 g4 g5;obtain ⟨y,hy⟩:=ZkV ht hsz g1 g2 g3 g4 g5
 generalize L.take (numN L) = T at *
 generalize decide (D1.length ≤ 30 ∧ D2.length ≤ 30 ∧ D3.length ≤ 3) = b at *
 have hb : b = okB T:=by
  cases b with
  | true => exact (decide_eq_true ⟨_,hx⟩).symm
  | false =>
   refine (decide_eq_false ?_).symm;rintro ⟨x2,h2⟩;have:=ev_one hx h2;cases this
 rw [hb] at hx hy;refine ⟨?_,y,hy⟩;have hex : ∃ x : Int,Ev (fun k => Zae.f k ⟨T.toArray⟩) (x,okB T):=⟨_,hx⟩;unfold numX;rw [dif_pos hex];exact Classical.choose_spec hex
end
noncomputable def tokL : List UInt8 → Option (Int × List UInt8 × Int × Nat)
 | [] => none
 | b :: r =>
  if isLt b then (if 12 < nmN false (b :: r) then none else some (if inB Zd4 ⟨((b :: r).take (nmN false (b :: r))).toArray⟩ = true then 5 else 1,(b :: r).take (nmN false (b :: r)),0,nmN false (b :: r)))
  else if 48 ≤ b.toNat ∧ b.toNat ≤ 57 then (if okB ((b :: r).take (numN (b :: r))) = true then some (2,(b :: r).take (numN (b :: r)),numX ((b :: r).take (numN (b :: r))),numN (b :: r)) else none)
  else if b.toNat = 34 then (match txN r with | none => none | some n => some (3,r.take (n - 1),0,n + 1))
  else if Zce (b :: r) = 0 then none else some (4,(b :: r).take (Zce (b :: r)),0,Zce (b :: r))
theorem ZcP (b : UInt8) (r : List UInt8) : tokL (b :: r) =
  (if isLt b then (if 12 < nmN false (b :: r) then none else some (if inB Zd4 ⟨((b :: r).take (nmN false (b :: r))).toArray⟩ = true then 5 else 1,(b :: r).take (nmN false (b :: r)),0,nmN false (b :: r)))
  else if 48 ≤ b.toNat ∧ b.toNat ≤ 57 then (if okB ((b :: r).take (numN (b :: r))) = true then some (2,(b :: r).take (numN (b :: r)),numX ((b :: r).take (numN (b :: r))),numN (b :: r)) else none)
  else if b.toNat = 34 then (match txN r with | none => none | some n => some (3,r.take (n - 1),0,n + 1))
  else if Zce (b :: r) = 0 then none else some (4,(b :: r).take (Zce (b :: r)),0,Zce (b :: r)) : Option (Int × List UInt8 × Int × Nat)):=rfl
theorem Zki : ∀ (i : Bool) (L : List UInt8),nmN i L ≤ L.length
  | _,[] => Nat.le_refl _
  | i,b :: r => by
    have:=Zki true r
    unfold nmN
    rw [List.length_cons]
    split <;> omega
theorem ZeR {t : ByteArray} {A L : List UInt8} (h : t.data.toList = A ++ L) (n : Nat) : t.extract A.length (A.length + n) = ⟨(L.take n).toArray⟩:=by
 apply Zb0;rw [ByteArray.data_extract,Array.toList_extract,List.extract_eq_take_drop,h,List.drop_left,show A.length + n - A.length = n by omega]
theorem ZcW (b : UInt8) : ZaR.f (b.toNat : Int) = some (decide (48 ≤ b.toNat ∧ b.toNat ≤ 57)) ∧ Za1.f (b.toNat : Int) = some (decide (48 ≤ b.toNat ∧ b.toNat ≤ 57)):=by
 have e : decide ((48 : Int) ≤ (b.toNat : Int) ∧ (b.toNat : Int) ≤ 57) = decide (48 ≤ b.toNat ∧ b.toNat ≤ 57):=by
  rw [decide_eq_decide];omega
 rw [← e];exact ⟨Zgm _,ZeB _⟩
def OneI (p : Int × ByteArray × Int × Int × Int) (a : Nat) : Option (Int × List UInt8 × Int × Nat) → Prop
 | none => p.2.2.2.2 = 0
 | some (c,T,x,n) => p = (c,⟨T.toArray⟩,x,(a : Int),(n : Int))
theorem Zow {t : ByteArray} {A : List UInt8} {b : UInt8} {r : List UInt8} (hs : t.size ≤ 1000) (h : t.data.toList = A ++ b :: r) : ∃ p,Ev (fun k => Zbn.f k t (A.length : Int)) p ∧ OneI p A.length (tokL (b :: r)):=by
 (have hl : t.size = A.length + (r.length + 1):=by rw [← size_data,h,List.length_append,List.length_cons]);obtain ⟨h3,h4⟩:=Zbr h;rw [ZcP];by_cases c1 : isLt b
 ·rw [if_pos c1];have hn:=Zox (A:=A) hs (b :: r) [] (by rw [h,List.nil_append]);rw [List.length_nil,Nat.zero_add,decide_eq_false (show ¬ 0 < 0 by omega)] at hn;have hn2 : Ev (fun k => Zbi.f k t (A.length : Int)) ((nmN false (b :: r) : Nat) : Int):=hn;have hle:=Zki false (b :: r);rw [List.length_cons] at hle
  generalize nmN false (b :: r) = n at *
  by_cases c2 : 12 < n
  ·rw [if_pos c2];refine ⟨(0,(⟨#[]⟩ : ByteArray),0,0,0),?_,rfl⟩;unfold Zbn.f;refine Zaj zo (Zaj zo ?_);rw [h4];exact Ev.bind (Zaz (ZbP b).1) (Zaj (decide_eq_true c1) (Ev.bind hn2 (Zaj zo (Ev.now _))))
  ·rw [if_neg c2];have hw:=ZiL Zd4 ⟨((b :: r).take n).toArray⟩ (by decide);have hcut:=ZeR h n;refine ⟨_,?_,rfl⟩;unfold Zbn.f;refine Zaj zo (Zaj zo ?_);rw [h4];refine Ev.bind (Zaz (ZbP b).1) (Zaj (decide_eq_true c1) (Ev.bind hn2 (Zai zo ?_)));rw [wsum zo,Int.toNat_natCast,Int.toNat_natCast,hcut];refine Zaj zo (Zaj zo (Ev.bind (Zaz ZkI) (Ev.bind hw ?_)))
   cases inB Zd4 ⟨((b :: r).take n).toArray⟩ with
   | true => exact Zaj rfl (Ev.now _)
   | false => exact Zai (by decide) (Ev.now _)
 ·rw [if_neg c1];by_cases c2 : 48 ≤ b.toNat ∧ b.toNat ≤ 57
  ·rw [if_pos c2];have hd : 0 < dgN (b :: r):=Zeq.2 c2;have hn:=Zm0 (A:=A) hs h;have hle:=Zf9 (b :: r);obtain ⟨hr,_⟩:=Zis hd (by rw [List.length_cons];omega);have hcut:=ZeR h (numN (b :: r));rw [List.length_cons] at hle
   generalize numN (b :: r) = n at *
   by_cases c3 : okB ((b :: r).take n) = true
   ·rw [if_pos c3];refine ⟨_,?_,rfl⟩;unfold Zbn.f;refine Zaj zo (Zaj zo ?_);rw [h4];refine Ev.bind (Zaz (ZbP b).1) (Zai (by rw [decide_eq_true_iff];exact c1) (Ev.bind (Zaz (ZcW b).1) (Zaj (decide_eq_true c2) (Ev.bind hn ?_))));rw [wsum zo,Int.toNat_natCast,Int.toNat_natCast,hcut];exact Zaj zo (Zaj zo (Ev.bind hr (Zaj c3 (Ev.now _))))
   ·rw [if_neg c3];refine ⟨(0,(⟨#[]⟩ : ByteArray),0,0,0),?_,rfl⟩;unfold Zbn.f;refine Zaj zo (Zaj zo ?_);rw [h4];refine Ev.bind (Zaz (ZbP b).1) (Zai (by rw [decide_eq_true_iff];exact c1) (Ev.bind (Zaz (ZcW b).1) (Zaj (decide_eq_true c2) (Ev.bind hn ?_))));rw [wsum zo,Int.toNat_natCast,Int.toNat_natCast,hcut];exact Zaj zo (Zaj zo (Ev.bind hr (Zai c3 (Ev.now _))))
  ·rw [if_neg c2];by_cases c3 : b.toNat = 34
   ·rw [if_pos c3];(have h5 : t.data.toList = (A ++ [b]) ++ r:=by rw [h];simp);have hx:=Zov A.length hs zo r (A ++ [b]) h5 (by rw [List.length_append];omega);rw [List.length_append,List.length_singleton] at hx
    have hx2 : Ev (fun k => ZaN.f k t (A.length : Int)) (match txN r with | none => 0 | some n => ((A.length + 1 + n - A.length : Nat) : Int)):=by
     unfold ZaN.f;rw [w64s zo];exact hx
    cases hr : txN r with
    | none =>
     rw [hr] at hx2;refine ⟨(0,(⟨#[]⟩ : ByteArray),0,0,0),?_,rfl⟩;unfold Zbn.f;refine Zaj zo (Zaj zo ?_);rw [h4];exact Ev.bind (Zaz (ZbP b).1) (Zai (by rw [decide_eq_true_iff];exact c1) (Ev.bind (Zaz (ZcW b).1) (Zai (by rw [decide_eq_true_iff];exact c2) (Zaj zo (Ev.bind hx2 (Zaj rfl (Ev.now _)))))))
    | some n =>
     rw [hr] at hx2;have hle:=ZgM r n hr;have e1 : A.length + 1 + n - A.length = n + 1:=by omega
     have hx3 : Ev (fun k => ZaN.f k t (A.length : Int)) ((n + 1 : Nat) : Int):=by
      have g : Ev (fun k => ZaN.f k t (A.length : Int)) ((A.length + 1 + n - A.length : Nat) : Int):=hx2;rw [e1] at g;exact g
     have hcut:=ZeR h5 (n - 1);rw [List.length_append,List.length_singleton] at hcut;refine ⟨(3,⟨(r.take (n - 1)).toArray⟩,0,(A.length : Int),((n + 1 : Nat) : Int)),?_,rfl⟩;unfold Zbn.f;refine Zaj zo (Zaj zo ?_);rw [h4];refine Ev.bind (Zaz (ZbP b).1) (Zai (by rw [decide_eq_true_iff];exact c1) (Ev.bind (Zaz (ZcW b).1) (Zai (by rw [decide_eq_true_iff];exact c2) (Zaj zo (Ev.bind hx3 ?_)))));rw [w64s zo,wsum zo,show ((A.length + (n + 1) : Nat) : Int) = ((A.length + 1 + (n - 1) : Nat) : Int) + 1 by omega,w64 (x:=((A.length + 1 + (n - 1) : Nat) : Int) + 1 - 1) zo zo,show ((A.length + 1 + (n - 1) : Nat) : Int) + 1 - 1 = ((A.length + 1 + (n - 1) : Nat) : Int) by omega,Int.toNat_natCast,Int.toNat_natCast,hcut];exact Zai zo (Zaj zo (Zaj zo (Zaj zo (Ev.now _))))
   ·rw [if_neg c3];have hm:=Zlm hs h (by simp);have hle:=ZhD (b :: r);have hcut:=ZeR h (Zce (b :: r));rw [List.length_cons] at hle
    generalize Zce (b :: r) = n at *
    have hall : Ev (fun k => Zbn.f k t (A.length : Int)) (4,⟨((b :: r).take n).toArray⟩,0,(A.length : Int),(n : Int)):=by
     unfold Zbn.f;refine Zaj zo (Zaj zo ?_);rw [h4];refine Ev.bind (Zaz (ZbP b).1) (Zai (by rw [decide_eq_true_iff];exact c1) (Ev.bind (Zaz (ZcW b).1) (Zai (by rw [decide_eq_true_iff];exact c2) (Zai zo (Ev.bind hm ?_)))));rw [wsum zo,Int.toNat_natCast,Int.toNat_natCast,hcut];exact Zaj zo (Zaj zo (Ev.now _))
    by_cases c4 : n = 0
    ·rw [if_pos c4];exact ⟨_,hall,by show (n : Int) = 0;omega⟩
    ·rw [if_neg c4];exact ⟨_,hall,rfl⟩
def OneS (p : Int × ByteArray × Int × Int × Int) : Option (Int × List UInt8 × Int × Nat) → Prop
 | none => p.2.2.2.2 < 0
 | some (_,_,_,n) => p.2.2.2.2 = (n : Int)
theorem ZnX {t : ByteArray} {A : List UInt8} {b : UInt8} {r : List UInt8} (hs : t.size ≤ 1000) (h : t.data.toList = A ++ b :: r) : ∃ p,Ev (fun k => Zbj.f k t (A.length : Int)) p ∧ OneS p (tokL (b :: r)):=by
 (have hl : t.size = A.length + (r.length + 1):=by rw [← size_data,h,List.length_append,List.length_cons]);obtain ⟨h3,h4⟩:=Zbr h;rw [ZcP];by_cases c1 : isLt b
 ·rw [if_pos c1];have hn:=ZnY (A:=A) hs (b :: r) [] (by rw [h,List.nil_append]);rw [List.length_nil,Nat.zero_add,decide_eq_false (show ¬ 0 < 0 by omega)] at hn;have hn2 : Ev (fun k => Zbg.f k t (A.length : Int)) ((nmN false (b :: r) : Nat) : Int):=hn;have hle:=Zki false (b :: r);rw [List.length_cons] at hle
  generalize nmN false (b :: r) = n at *
  have hw:=Zj7 Zd4 ⟨((b :: r).take n).toArray⟩ (by decide);have hcut:=ZeR h n
  have hgo : ∀ p,Ev (fun k => if inB Zd4 ⟨((b :: r).take n).toArray⟩ = true then (if (n : Int) > 12 then some (5,(⟨((b :: r).take n).toArray⟩ : ByteArray),0,(A.length : Int),-1) else some (5,(⟨((b :: r).take n).toArray⟩ : ByteArray),0,(A.length : Int),(n : Int))) else (if (n : Int) > 12 then some (1,(⟨((b :: r).take n).toArray⟩ : ByteArray),0,(A.length : Int),-1) else some (1,(⟨((b :: r).take n).toArray⟩ : ByteArray),0,(A.length : Int),(n : Int)))) p → Ev (fun k => Zbj.f k t (A.length : Int)) p:=by
   intro p hp;unfold Zbj.f;refine Zaj zo (Zaj zo ?_);rw [h4];refine Ev.bind (Zaz (ZbP b).2) (Zaj (decide_eq_true c1) (Ev.bind hn2 ?_));rw [wsum zo,Int.toNat_natCast,Int.toNat_natCast,hcut];exact Zaj zo (Zaj zo (Ev.bind (Zaz ZkH) (Ev.bind hw hp)))
  by_cases c2 : 12 < n
  ·rw [if_pos c2]
   cases hb : inB Zd4 ⟨((b :: r).take n).toArray⟩ with
   | true => exact ⟨_,hgo _ (Zaj hb (Zaj zo (Ev.now _))),by show (-1 : Int) < 0;decide⟩
   | false => exact ⟨_,hgo _ (Zai (by rw [hb];decide) (Zaj zo (Ev.now _))),by show (-1 : Int) < 0;decide⟩
  ·rw [if_neg c2]
   cases hb : inB Zd4 ⟨((b :: r).take n).toArray⟩ with
   | true => exact ⟨_,hgo _ (Zaj hb (Zai zo (Ev.now _))),rfl⟩
   | false => exact ⟨_,hgo _ (Zai (by rw [hb];decide) (Zai zo (Ev.now _))),rfl⟩
 ·rw [if_neg c1];by_cases c2 : 48 ≤ b.toNat ∧ b.toNat ≤ 57
  ·rw [if_pos c2];have hd : 0 < dgN (b :: r):=Zeq.2 c2;have hn:=Zl0 (A:=A) hs h;have hle:=Zf9 (b :: r);obtain ⟨_,y,hr⟩:=Zis hd (by rw [List.length_cons];omega);have hcut:=ZeR h (numN (b :: r));rw [List.length_cons] at hle
   generalize numN (b :: r) = n at *
   have hgo : ∀ p,Ev (fun k => if okB ((b :: r).take n) = true then some (2,(⟨((b :: r).take n).toArray⟩ : ByteArray),y,(A.length : Int),(n : Int)) else some (2,(⟨((b :: r).take n).toArray⟩ : ByteArray),y,(A.length : Int),-1)) p → Ev (fun k => Zbj.f k t (A.length : Int)) p:=by
    intro p hp;unfold Zbj.f;refine Zaj zo (Zaj zo ?_);rw [h4];refine Ev.bind (Zaz (ZbP b).2) (Zai (by rw [decide_eq_true_iff];exact c1) (Ev.bind (Zaz (ZcW b).2) (Zaj (decide_eq_true c2) (Ev.bind hn ?_))));rw [wsum zo,Int.toNat_natCast,Int.toNat_natCast,hcut];exact Zaj zo (Zaj zo (Ev.bind hr hp))
   by_cases c3 : okB ((b :: r).take n) = true
   ·rw [if_pos c3];exact ⟨_,hgo _ (Zaj c3 (Ev.now _)),rfl⟩
   ·rw [if_neg c3];exact ⟨_,hgo _ (Zai c3 (Ev.now _)),by show (-1 : Int) < 0;decide⟩
  ·rw [if_neg c2];by_cases c3 : b.toNat = 34
   ·rw [if_pos c3];(have h5 : t.data.toList = (A ++ [b]) ++ r:=by rw [h];simp);have hx:=ZnW A.length hs zo r (A ++ [b]) h5 (by rw [List.length_append];omega);rw [List.length_append,List.length_singleton] at hx
    have hx2 : Ev (fun k => Zbd.f k t (A.length : Int)) (match txN r with | none => -1 | some n => ((A.length + 1 + n - A.length : Nat) : Int)):=by
     unfold Zbd.f;rw [w64s zo];exact hx
    cases hr : txN r with
    | none =>
     rw [hr] at hx2;refine ⟨(3,(⟨#[]⟩ : ByteArray),0,(A.length : Int),-1),?_,by show (-1 : Int) < 0;decide⟩;unfold Zbj.f;refine Zaj zo (Zaj zo ?_);rw [h4];exact Ev.bind (Zaz (ZbP b).2) (Zai (by rw [decide_eq_true_iff];exact c1) (Ev.bind (Zaz (ZcW b).2) (Zai (by rw [decide_eq_true_iff];exact c2) (Zaj zo (Ev.bind hx2 (Zai (by show ¬ (-1 : Int) > 0;decide) (Ev.now _)))))))
    | some n =>
     rw [hr] at hx2;have hle:=ZgM r n hr;have e1 : A.length + 1 + n - A.length = n + 1:=by omega
     have hx3 : Ev (fun k => Zbd.f k t (A.length : Int)) ((n + 1 : Nat) : Int):=by
      have g : Ev (fun k => Zbd.f k t (A.length : Int)) ((A.length + 1 + n - A.length : Nat) : Int):=hx2;rw [e1] at g;exact g
     have hcut:=ZeR h5 (n - 1);rw [List.length_append,List.length_singleton] at hcut;refine ⟨(3,⟨(r.take (n - 1)).toArray⟩,0,(A.length : Int),((n + 1 : Nat) : Int)),?_,rfl⟩;unfold Zbj.f;refine Zaj zo (Zaj zo ?_);rw [h4];refine Ev.bind (Zaz (ZbP b).2) (Zai (by rw [decide_eq_true_iff];exact c1) (Ev.bind (Zaz (ZcW b).2) (Zai (by rw [decide_eq_true_iff];exact c2) (Zaj zo (Ev.bind hx3 (Zaj zo ?_))))));rw [w64s zo,wsum zo,show ((A.length + (n + 1) : Nat) : Int) = ((A.length + 1 + (n - 1) : Nat) : Int) + 1 by omega,w64 (x:=((A.length + 1 + (n - 1) : Nat) : Int) + 1 - 1) zo zo,show ((A.length + 1 + (n - 1) : Nat) : Int) + 1 - 1 = ((A.length + 1 + (n - 1) : Nat) : Int) by omega,Int.toNat_natCast,Int.toNat_natCast,hcut];exact Zaj zo (Zaj zo (Zaj zo (Ev.now _)))
   ·rw [if_neg c3];have hm:=ZkX hs h (by simp);have hle:=ZhD (b :: r);have hcut:=ZeR h (Zce (b :: r));rw [List.length_cons] at hle
    generalize Zce (b :: r) = n at *
    by_cases c4 : n = 0
    ·rw [if_pos c4];rw [if_pos c4] at hm;refine ⟨(4,(⟨#[]⟩ : ByteArray),0,(A.length : Int),-1),?_,by show (-1 : Int) < 0;decide⟩;unfold Zbj.f;refine Zaj zo (Zaj zo ?_);rw [h4];exact Ev.bind (Zaz (ZbP b).2) (Zai (by rw [decide_eq_true_iff];exact c1) (Ev.bind (Zaz (ZcW b).2) (Zai (by rw [decide_eq_true_iff];exact c2) (Zai zo (Ev.bind hm (Zai (by decide) (Ev.now _)))))))
    ·rw [if_neg c4];rw [if_neg c4] at hm;refine ⟨(4,⟨((b :: r).take n).toArray⟩,0,(A.length : Int),(n : Int)),?_,rfl⟩;unfold Zbj.f;refine Zaj zo (Zaj zo ?_);rw [h4];refine Ev.bind (Zaz (ZbP b).2) (Zai (by rw [decide_eq_true_iff];exact c1) (Ev.bind (Zaz (ZcW b).2) (Zai (by rw [decide_eq_true_iff];exact c2) (Zai zo (Ev.bind hm (Zaj zo ?_))))));rw [wsum zo,Int.toNat_natCast,Int.toNat_natCast,hcut];exact Zaj zo (Zaj zo (Ev.now _))
theorem Zew {b : UInt8} {r : List UInt8} {c x : Int} {T : List UInt8} {m : Nat} (h : tokL (b :: r) = some (c,T,x,m)) : 1 ≤ m ∧ m ≤ (b :: r).length:=by
 rw [ZcP] at h;split at h
 ·rename_i c1
  split at h
  ·cases h
  ·have h1:=Zki false (b :: r);(have h2 : 0 < nmN false (b :: r):=by unfold nmN;rw [if_pos (.inl c1)];omega);injection h with h;injection h with _ h;injection h with _ h;injection h with _ h;omega
 ·split at h
  ·rename_i c2
   split at h
   ·have h1:=Zf9 (b :: r);have h2 : 0 < dgN (b :: r):=Zeq.2 c2;(have h3 : dgN (b :: r) ≤ numN (b :: r):=by unfold numN;omega);injection h with h;injection h with _ h;injection h with _ h;injection h with _ h;omega
   ·cases h
  ·split at h
   ·cases hr : txN r with
    | none => rw [hr] at h;cases h
    | some n =>
     rw [hr] at h;have h1:=ZgM r n hr;injection h with h;injection h with _ h;injection h with _ h;injection h with _ h;rw [List.length_cons];omega
   ·split at h
    ·cases h
    ·have h1:=ZhD (b :: r);injection h with h;injection h with _ h;injection h with _ h;injection h with _ h;omega
def isBl (b : UInt8) : Prop:=b.toNat = 32 ∨ b.toNat = 10 ∨ b.toNat = 9
instance (b : UInt8) : Decidable (isBl b):=inferInstanceAs (Decidable (_ ∨ _))
noncomputable def Zcq : Nat → Nat → Nat → List UInt8 → Nat ⊕ List (Int × List UInt8 × Int × Nat)
  | 0,a,_,_ => .inl a
  | _ + 1,_,_,[] => .inr []
  | f + 1,a,n,b :: r => if isBl b then Zcq f (a + 1) n r else match tokL (b :: r) with
    | none => .inl a
    | some (c,T,x,m) => if n = 200 then .inl a else match Zcq f (a + m) (n + 1) ((b :: r).drop m) with
      | .inl p => .inl p
      | .inr l => .inr ((c,T,x,a) :: l)
def toS (p : Int × List UInt8 × Int × Nat) : S30:=⟨p.1,⟨p.2.1.toArray⟩,p.2.2.1,(p.2.2.2 : Int)⟩
theorem Zgj (k : Nat) (x0 : ByteArray) (x4 : List (S30)) (x5 : Int) : ZaY.l0 (k + 1) x0 x4 x5 = if x5 < (x0.size : Int) then (if 0 ≤ x5 then (if (bt x0 x5) = 32 then (ZaY.j1 k x0 x4 x5 true) else (if (bt x0 x5) = 10 then (ZaY.j1 k x0 x4 x5 true) else (ZaY.j1 k x0 x4 x5 ((bt x0 x5) == 9)))) else (none)) else (some (x4,(-1))):=rfl
theorem Zgk (k : Nat) (x0 : ByteArray) (x4 : List (S30)) (x5 : Int) (x29 : Bool) : ZaY.j1 (k + 1) x0 x4 x5 x29 = if x29 = true then (ZaY.l0 k x0 x4 (wrap64 (x5 + 1))) else ((Zbn.f k x0 x5).bind fun bt302 => (if bt302.2.2.2.2 = 0 then (some (([] : List (S30)),x5)) else (if (x4.length : Int) = 200 then (some (([] : List (S30)),x5)) else (if x4.length < 3518437208883 then (ZaY.l0 k x0 (x4 ++ [(⟨bt302.1,bt302.2.1,bt302.2.2.1,bt302.2.2.2.1⟩ : S30)]) (wrap64 (x5 + bt302.2.2.2.2))) else (none))))):=rfl
theorem ZfR (k : Nat) (x0 : ByteArray) (x4 : List (S30)) (x5 : Int) : Za5.l0 (k + 1) x0 x4 x5 = if x5 < (x0.size : Int) then (if 0 ≤ x5 then (if (bt x0 x5) = 32 then (Za5.j1 k x0 x4 x5 true) else (if (bt x0 x5) = 10 then (Za5.j1 k x0 x4 x5 true) else (Za5.j1 k x0 x4 x5 ((bt x0 x5) == 9)))) else (none)) else (some (x4,(-1))):=rfl
theorem Zde (k : Nat) (x0 : ByteArray) (x4 : List (S30)) (x5 : Int) (x32 : Bool) : Za5.j1 (k + 1) x0 x4 x5 x32 = if x32 = true then (Za5.l0 k x0 x4 (wrap64 (x5 + 1))) else ((Zbj.f k x0 x5).bind fun bt241 => (if bt241.2.2.2.2 < 0 then (some ((([] : List (S30))),x5)) else (if (x4.length : Int) = 200 then (some ((([] : List (S30))),x5)) else (if x4.length < 3518437208883 then (Za5.l0 k x0 (x4 ++ [(⟨bt241.1,bt241.2.1,bt241.2.2.1,bt241.2.2.2.1⟩ : S30)]) (wrap64 (x5 + bt241.2.2.2.2))) else (none))))):=rfl
theorem ZiJ {t : ByteArray} (hs : t.size ≤ 1000) : ∀ (f : Nat) (L A : List UInt8) (acc : List S30),L.length < f → t.data.toList = A ++ L → acc.length ≤ 200 →
  Ev (fun k => ZaY.l0 k t acc (A.length : Int)) (match Zcq f A.length acc.length L with | .inl p => (([] : List S30),(p : Int)) | .inr l => (acc ++ l.map toS,-1)):=by
 intro f
 induction f with
 | zero => intro L A acc h;omega
 | succ f ih =>
  intro L A acc hf h hacc;have hl : t.size = A.length + L.length:=by rw [← size_data,h,List.length_append]
  cases L with
  | nil =>
   refine Ev.step (fun k => Zgj k ..) (Zai (by simp at hl;omega) ?_);show Ev _ (acc ++ ([] : List (Int × List UInt8 × Int × Nat)).map toS,-1);rw [List.map_nil,List.append_nil];exact Ev.now _
  | cons b r =>
   rw [List.length_cons] at hl hf;obtain ⟨h3,h4⟩:=Zbr h
   have hgo : ∀ p,Ev (fun k => ZaY.j1 k t acc (A.length : Int) (decide (isBl b))) p → Ev (fun k => ZaY.l0 k t acc (A.length : Int)) p:=by
    intro p hp;refine Ev.step (fun k => Zgj k ..) (Zaj zo (Zaj zo ?_));rw [h4];by_cases c1 : b.toNat = 32
    ·rw [decide_eq_true (show isBl b from .inl c1)] at hp;exact Zaj zo hp
    ·refine Zai zo ?_;by_cases c2 : b.toNat = 10
     ·rw [decide_eq_true (show isBl b from .inr (.inl c2))] at hp;exact Zaj zo hp
     ·refine Zai zo ?_
      have e : ((b.toNat : Int) == 9) = decide (isBl b):=by
       rw [Bool.eq_iff_iff,beq_iff_eq,decide_eq_true_iff];unfold isBl;omega
      rw [e];exact hp
   refine hgo _ ?_;by_cases cb : isBl b
   ·have g:=ih r (A ++ [b]) acc zo (by rw [h];simp) hacc;rw [List.length_append,List.length_singleton] at g;rw [decide_eq_true cb];refine Ev.step (fun k => Zgk k ..) (Zaj rfl ?_);rw [w64s zo];unfold Zcq;rw [if_pos cb];exact g
   ·rw [decide_eq_false cb];obtain ⟨p,hp,ho⟩:=Zow hs h;refine Ev.step (fun k => Zgk k ..) (Zai (by decide) (Ev.bind hp ?_));unfold Zcq;rw [if_neg cb]
    cases ht : tokL (b :: r) with
    | none =>
     rw [ht] at ho;exact Zaj ho (Ev.now _)
    | some q =>
     obtain ⟨c,T,x,m⟩:=q;rw [ht] at ho;obtain rfl : p = (c,⟨T.toArray⟩,x,(A.length : Int),(m : Int)):=ho;obtain ⟨m1,m2⟩:=Zew ht;refine Zai (by show ¬ (m : Int) = 0;omega) ?_;by_cases c200 : acc.length = 200
     ·refine Zaj zo ?_;show Ev _ (match (if acc.length = 200 then Sum.inl A.length else _ : Nat ⊕ List (Int × List UInt8 × Int × Nat)) with | .inl p => (([] : List S30),(p : Int)) | .inr l => (acc ++ l.map toS,-1));rw [if_pos c200];exact Ev.now _
     ·obtain ⟨s1,s2⟩:=ZdT t m m2 h;have g:=ih ((b :: r).drop m) (A ++ (b :: r).take m) (acc ++ [⟨c,⟨T.toArray⟩,x,(A.length : Int)⟩]) (by rw [List.length_drop,List.length_cons];omega) s1 (by rw [List.length_append,List.length_singleton];omega);rw [s2,List.length_append,List.length_singleton] at g;rw [List.length_cons] at m2;refine Zai zo (Zaj zo ?_);show Ev (fun k => ZaY.l0 k t (acc ++ [⟨c,⟨T.toArray⟩,x,(A.length : Int)⟩]) (wrap64 ((A.length : Int) + (m : Int)))) _;rw [wsum zo];show Ev _ (match (if acc.length = 200 then Sum.inl A.length else (match Zcq f (A.length + m) (acc.length + 1) ((b :: r).drop m) with | .inl p => .inl p | .inr l => .inr ((c,T,x,A.length) :: l)) : Nat ⊕ List (Int × List UInt8 × Int × Nat)) with | .inl p => (([] : List S30),(p : Int)) | .inr l => (acc ++ l.map toS,-1));rw [if_neg c200]
      cases hsc : Zcq f (A.length + m) (acc.length + 1) ((b :: r).drop m) with
      | inl p => rw [hsc] at g;exact g
      | inr l =>
       rw [hsc] at g
       have e : acc ++ ((c,T,x,A.length) :: l).map toS = (acc ++ [⟨c,⟨T.toArray⟩,x,(A.length : Int)⟩]) ++ l.map toS:=by
        rw [List.map_cons,List.append_assoc];rfl
       show Ev _ (acc ++ ((c,T,x,A.length) :: l).map toS,-1);rw [e];exact g
theorem Zie {t : ByteArray} (hs : t.size ≤ 1000) : ∀ (f : Nat) (L A : List UInt8) (acc : List S30),L.length < f → t.data.toList = A ++ L → acc.length ≤ 200 →
  ∃ R : List S30,Ev (fun k => Za5.l0 k t acc (A.length : Int)) (R,match Zcq f A.length acc.length L with | .inl p => (p : Int) | .inr _ => -1):=by
 intro f
 induction f with
 | zero => intro L A acc h;omega
 | succ f ih =>
  intro L A acc hf h hacc;have hl : t.size = A.length + L.length:=by rw [← size_data,h,List.length_append]
  cases L with
  | nil => exact ⟨acc,Ev.step (fun k => ZfR k ..) (Zai (by simp at hl;omega) (Ev.now _))⟩
  | cons b r =>
   rw [List.length_cons] at hl hf;obtain ⟨h3,h4⟩:=Zbr h
   have hgo : ∀ p,Ev (fun k => Za5.j1 k t acc (A.length : Int) (decide (isBl b))) p → Ev (fun k => Za5.l0 k t acc (A.length : Int)) p:=by
    intro p hp;refine Ev.step (fun k => ZfR k ..) (Zaj zo (Zaj zo ?_));rw [h4];by_cases c1 : b.toNat = 32
    ·rw [decide_eq_true (show isBl b from .inl c1)] at hp;exact Zaj zo hp
    ·refine Zai zo ?_;by_cases c2 : b.toNat = 10
     ·rw [decide_eq_true (show isBl b from .inr (.inl c2))] at hp;exact Zaj zo hp
     ·refine Zai zo ?_
      have e : ((b.toNat : Int) == 9) = decide (isBl b):=by
       rw [Bool.eq_iff_iff,beq_iff_eq,decide_eq_true_iff];unfold isBl;omega
      rw [e];exact hp
   by_cases cb : isBl b
   ·obtain ⟨R,g⟩:=ih r (A ++ [b]) acc zo (by rw [h];simp) hacc;rw [List.length_append,List.length_singleton] at g;refine ⟨R,hgo _ ?_⟩;rw [decide_eq_true cb];refine Ev.step (fun k => Zde k ..) (Zaj rfl ?_);rw [w64s zo];unfold Zcq;rw [if_pos cb];exact g
   ·obtain ⟨p,hp,ho⟩:=ZnX hs h
    cases ht : tokL (b :: r) with
    | none =>
     rw [ht] at ho;refine ⟨[],hgo _ ?_⟩;rw [decide_eq_false cb];unfold Zcq;rw [if_neg cb,ht];exact Ev.step (fun k => Zde k ..) (Zai (by decide) (Ev.bind hp (Zaj ho (Ev.now _))))
    | some q =>
     obtain ⟨c,T,x,m⟩:=q;rw [ht] at ho;have ho : p.2.2.2.2 = (m : Int):=ho;obtain ⟨m1,m2⟩:=Zew ht;by_cases c200 : acc.length = 200
     ·refine ⟨[],hgo _ ?_⟩;rw [decide_eq_false cb];unfold Zcq;rw [if_neg cb,ht];refine Ev.step (fun k => Zde k ..) (Zai (by decide) (Ev.bind hp (Zai zo (Zaj zo ?_))));show Ev _ (([] : List S30),match (if acc.length = 200 then Sum.inl A.length else _ : Nat ⊕ List (Int × List UInt8 × Int × Nat)) with | .inl p => (p : Int) | .inr _ => -1);rw [if_pos c200];exact Ev.now _
     ·obtain ⟨s1,s2⟩:=ZdT t m m2 h;obtain ⟨R,g⟩:=ih ((b :: r).drop m) (A ++ (b :: r).take m) (acc ++ [⟨p.1,p.2.1,p.2.2.1,p.2.2.2.1⟩]) (by rw [List.length_drop,List.length_cons];omega) s1 (by rw [List.length_append,List.length_singleton];omega);rw [s2,List.length_append,List.length_singleton] at g;rw [List.length_cons] at m2;refine ⟨R,hgo _ ?_⟩;rw [decide_eq_false cb];unfold Zcq;rw [if_neg cb,ht];refine Ev.step (fun k => Zde k ..) (Zai (by decide) (Ev.bind hp (Zai zo (Zai zo (Zaj zo ?_)))));rw [ho,wsum zo];show Ev _ (R,match (if acc.length = 200 then Sum.inl A.length else (match Zcq f (A.length + m) (acc.length + 1) ((b :: r).drop m) with | .inl p => .inl p | .inr l => .inr ((c,T,x,A.length) :: l)) : Nat ⊕ List (Int × List UInt8 × Int × Nat)) with | .inl p => (p : Int) | .inr _ => -1);rw [if_neg c200]
      cases hsc : Zcq f (A.length + m) (acc.length + 1) ((b :: r).drop m) with
      | inl p => rw [hsc] at g;exact g
      | inr l => rw [hsc] at g;exact g
noncomputable def ZfZ (t : ByteArray) : Nat ⊕ List (Int × List UInt8 × Int × Nat):=if 600 < t.size then .inl 600 else Zcq (t.size + 1) 0 0 t.data.toList
theorem ZiK (t : ByteArray) : Ev (fun k => ZaY.f k t) (match ZfZ t with | .inl p => (([] : List S30),(p : Int)) | .inr l => (l.map toS,-1)):=by
 unfold ZaY.f ZfZ;by_cases c : 600 < t.size
 ·rw [if_pos c];exact Zaj zo (Ev.now _)
 ·rw [if_neg c];exact Zai zo (ZiJ (t:=t) zo (t.size + 1) t.data.toList [] [] (by rw [size_data];omega) rfl (by decide))
theorem ZlY (t : ByteArray) : ∃ R : List S30,Ev (fun k => Za5.f k t) (R,match ZfZ t with | .inl p => (p : Int) | .inr _ => -1):=by
 unfold Za5.f ZfZ;by_cases c : 600 < t.size
 ·rw [if_pos c];exact ⟨_,Ev.bind (Ev.now _) (Zaj zo (Ev.now _))⟩
 ·rw [if_neg c];obtain ⟨R,g⟩:=Zie (t:=t) zo (t.size + 1) t.data.toList [] [] (by rw [size_data];omega) rfl (by decide);exact ⟨R,Ev.bind (Ev.now _) (Zai zo g)⟩
def Zcf (c : Int) (T : List UInt8) : List UInt8:=if c = 3 then 34 :: (T ++ [34]) else T
theorem ZlL : ∀ (L : List UInt8) (n : Nat),txN L = some n → L.take n = L.take (n - 1) ++ [34]
  | [],n,h => by cases h
  | b :: r,n,h => by
    unfold txN at h
    split at h
    · rename_i hb
      obtain rfl:=Option.some.inj h
      have : b = 34:=UInt8.toNat.inj hb
      rw [this]
      rfl
    · split at h
      · cases hr : txN r with
        | none => rw [hr] at h;cases h
        | some m =>
          rw [hr] at h
          obtain rfl : m + 1 = n:=Option.some.inj h
          have h1:=ZgM r m hr
          have h2:=ZlL r m hr
          rw [List.take_succ_cons,h2,show m + 1 - 1 = m - 1 + 1 by omega,List.take_succ_cons,List.cons_append]
      · cases h
theorem ZfJ {b : UInt8} {r : List UInt8} {c x : Int} {T : List UInt8} {m : Nat} (h : tokL (b :: r) = some (c,T,x,m)) : (b :: r).take m = Zcf c T:=by
 rw [ZcP] at h;unfold Zcf;split at h
 ·split at h
  ·cases h
  ·injection h with h;injection h with h1 h;injection h with h2 h;injection h with _ h4;rw [if_neg (by rw [← h1];split <;> decide),← h4,h2]
 ·split at h
  ·split at h
   ·injection h with h;injection h with h1 h;injection h with h2 h;injection h with _ h4;rw [if_neg (by rw [← h1];decide),← h4,h2]
   ·cases h
  ·split at h
   ·rename_i c3
    cases hr : txN r with
    | none => rw [hr] at h;cases h
    | some n =>
     rw [hr] at h;injection h with h;injection h with h1 h;injection h with h2 h;injection h with _ h4;have hb : b = 34:=UInt8.toNat.inj c3;rw [if_pos h1.symm,← h4,List.take_succ_cons,ZlL r n hr,← h2,hb]
   ·split at h
    ·cases h
    ·injection h with h;injection h with h1 h;injection h with h2 h;injection h with _ h4;rw [if_neg (by rw [← h1];decide),← h4,h2]
def Zfj (t : List UInt8) : Nat → List (Int × List UInt8 × Int × Nat) → Prop
 | _,[] => True
 | e,(c,T,_,a) :: l => e ≤ a ∧ (t.drop a).take (Zcf c T).length = Zcf c T ∧ a + (Zcf c T).length ≤ t.length ∧ Zfj t (a + (Zcf c T).length) l
theorem Zk1 : ∀ (f : Nat) (L A : List UInt8) (n e : Nat) (l : List (Int × List UInt8 × Int × Nat)),L.length < f → e ≤ A.length → Zcq f A.length n L = .inr l → Zfj (A ++ L) e l:=by
 intro f
 induction f with
 | zero => intro L A n e l h;omega
 | succ f ih =>
  intro L A n e l hf he h
  cases L with
  | nil =>
   have : ([] : List (Int × List UInt8 × Int × Nat)) = l:=Sum.inr.inj h;subst this
   trivial
  | cons b r =>
   rw [List.length_cons] at hf;unfold Zcq at h;by_cases cb : isBl b
   ·rw [if_pos cb] at h;have g:=ih r (A ++ [b]) n e l zo (by rw [List.length_append];omega) (by rw [List.length_append,List.length_singleton];exact h);rw [List.append_assoc] at g;exact g
   ·rw [if_neg cb] at h
    cases ht : tokL (b :: r) with
    | none => rw [ht] at h;cases h
    | some q =>
     obtain ⟨c,T,x,m⟩:=q;rw [ht] at h;obtain ⟨m1,m2⟩:=Zew ht;have htx:=ZfJ ht;(have hlen : (Zcf c T).length = m:=by rw [← htx,List.length_take];omega);have h : (if n = 200 then Sum.inl A.length else (match Zcq f (A.length + m) (n + 1) ((b :: r).drop m) with | .inl p => .inl p | .inr l => .inr ((c,T,x,A.length) :: l)) : Nat ⊕ List (Int × List UInt8 × Int × Nat)) = .inr l:=h;split at h
     ·cases h
     ·cases hsc : Zcq f (A.length + m) (n + 1) ((b :: r).drop m) with
      | inl p => rw [hsc] at h;cases h
      | inr l2 =>
       rw [hsc] at h;have hl2 : (c,T,x,A.length) :: l2 = l:=Sum.inr.inj h;subst hl2;(have hA : (A ++ (b :: r).take m).length = A.length + m:=by rw [List.length_append,List.length_take];omega);have g:=ih ((b :: r).drop m) (A ++ (b :: r).take m) (n + 1) (A.length + m) l2 (by rw [List.length_drop,List.length_cons];omega) zo (by rw [hA];exact hsc);rw [List.append_assoc,List.take_append_drop] at g;refine ⟨he,?_,?_,?_⟩
       ·rw [List.drop_left,hlen,htx]
       ·rw [hlen,List.length_append];omega
       ·rw [hlen];exact g
def Blk (X : List UInt8) : Prop:=X = [] ∨ ∃ r,X = 32 :: r
theorem ZmJ {X : List UInt8} (h : Blk X) (i : Bool) : nmN i X = 0:=by
 rcases h with rfl | ⟨r,rfl⟩
 ·cases i <;> rfl
 ·unfold nmN;rw [if_neg];rintro (hc | ⟨_,hc⟩)
  ·unfold isLt at hc
   revert hc
   decide
  ·exact absurd hc.1 (by decide)
theorem ZhA (i : Bool) (b : UInt8) (r : List UInt8) : nmN i (b :: r) = if isLt b ∨ (i = true ∧ 48 ≤ b.toNat ∧ b.toNat ≤ 57) then nmN true r + 1 else 0:=by
 rw [nmN]
theorem Zkh {X : List UInt8} (h : Blk X) : ∀ (i : Bool) (L : List UInt8),nmN i (L.take (nmN i L) ++ X) = nmN i L
  | i,[] => by
    show nmN i ([] ++ X) = nmN i []
    rw [List.nil_append,ZmJ h]
    cases i <;> rfl
  | i,b :: r => by
    by_cases c : isLt b ∨ (i = true ∧ 48 ≤ b.toNat ∧ b.toNat ≤ 57)
    · have e : nmN i (b :: r) = nmN true r + 1:=by rw [ZhA,if_pos c]
      have e2 : nmN i (b :: (r.take (nmN true r) ++ X)) = nmN true (r.take (nmN true r) ++ X) + 1:=by rw [ZhA,if_pos c]
      rw [e,List.take_succ_cons,List.cons_append,e2,Zkh h true r]
    · have e : nmN i (b :: r) = 0:=by rw [ZhA,if_neg c]
      rw [e,List.take_zero,List.nil_append,ZmJ h]
theorem ZhL {X : List UInt8} (h : ∀ c,X.head? = some c → ¬ isDg c) (L : List UInt8) : dgN (L.take (dgN L) ++ X) = dgN L:=by
 rw [ZhM (ZiS L) h,List.length_take];have:=ZcH L;omega
theorem ZhQ {X : List UInt8} (h : Blk X) : ∀ c,X.head? = some c → c = 32:=by
 rcases h with rfl | ⟨r,rfl⟩
 ·intro c hc;cases hc
 ·intro c hc;exact (Option.some.inj hc).symm
theorem ZmI : ¬ isDg 32:=fun h => absurd h.1 (by decide)
theorem Zj4 : ∀ (L : List UInt8) (n : Nat) (X : List UInt8),txN L = some n → txN (L.take n ++ X) = some n
  | [],n,X,h => by cases h
  | b :: r,n,X,h => by
    have h0:=h
    unfold txN at h
    split at h
    · rename_i hb
      obtain rfl:=Option.some.inj h
      show txN (b :: ([] ++ X)) = some 1
      unfold txN
      rw [if_pos hb]
    · rename_i hb
      split at h
      · rename_i hc
        cases hr : txN r with
        | none => rw [hr] at h;cases h
        | some m =>
          rw [hr] at h
          obtain rfl : m + 1 = n:=Option.some.inj h
          rw [List.take_succ_cons,List.cons_append]
          unfold txN
          rw [if_neg hb,if_pos hc,Zj4 r m X hr]
          rfl
      · cases h
theorem ZnT (b : UInt8) {X : List UInt8} (h : Blk X) : twoB (b :: X) = false:=by
 rcases h with rfl | ⟨r,rfl⟩
 ·rfl
 ·unfold twoB inB twoL;simp [ByteArray.toList_eq]
theorem Zli {X : List UInt8} (h : Blk X) (b : UInt8) (r : List UInt8) (hm : Zce (b :: r) ≠ 0) : Zce ((b :: r).take (Zce (b :: r)) ++ X) = Zce (b :: r):=by
 rw [Zcb] at hm ⊢;by_cases c : twoB (b :: r) = true
 ·rw [if_pos c]
  have hl : 2 ≤ (b :: r).length:=by
   unfold twoB at c;rw [Bool.and_eq_true,decide_eq_true_iff] at c;exact c.1
  cases r with
  | nil => exact absurd hl (by simp)
  | cons d r =>
   show Zce (b :: (d :: X)) = 2;rw [Zcb,if_pos];unfold twoB at c ⊢;rw [Bool.and_eq_true,decide_eq_true_iff] at c ⊢;exact ⟨by rw [List.length_cons,List.length_cons];omega,c.2⟩
 ·rw [if_neg c] at hm ⊢;by_cases c2 : oneL.contains b = true
  ·rw [if_pos c2];show Zce (b :: X) = 1;rw [Zcb,ZnT b h,if_neg (by decide),if_pos c2]
  ·rw [if_neg c2] at hm;exact absurd rfl hm
theorem ZjF {X : List UInt8} (k : UInt8) (hk : k ≠ 32) (h : Blk X) : ∀ c,X.head? = some c → c ≠ k:=fun c hc e => hk (e ▸ ZhQ h c hc)
theorem Zni {Z : List UInt8} (h : ∀ c,Z.head? = some c → c ≠ 46) : dotN Z = 0:=by
 cases Z with
 | nil => rfl
 | cons b r => rw [ZbR,if_neg (fun hc => h b rfl (UInt8.toNat.inj hc.1))]
theorem Znb {Z : List UInt8} (h : ∀ c,Z.head? = some c → c ≠ 101) : expN Z = 0:=by
 cases Z with
 | nil => rfl
 | cons b r => rw [Zcg,if_neg (fun hc => h b rfl (UInt8.toNat.inj hc.1))]
theorem Znh {Z : List UInt8} (h1 : ∀ c,Z.head? = some c → c ≠ 46) (h2 : ∀ c,Z.head? = some c → ¬ isDg c) (L : List UInt8) : dotN (L.take (dotN L) ++ Z) = dotN L:=by
 cases L with
 | nil => exact Zni h1
 | cons b r =>
  by_cases c : b.toNat = 46 ∧ 0 < dgN r
  ·(have e : dotN (b :: r) = 1 + dgN r:=by rw [ZbR,if_pos c]);rw [e,Nat.add_comm,List.take_succ_cons,List.cons_append,ZbR,ZhL h2,if_pos c,Nat.add_comm]
  ·(have e : dotN (b :: r) = 0:=by rw [ZbR,if_neg c]);rw [e,List.take_zero,List.nil_append,Zni h1]
theorem Zna {X : List UInt8} (h : Blk X) (L : List UInt8) : expN (L.take (expN L) ++ X) = expN L:=by
 have hX : ∀ c,X.head? = some c → ¬ isDg c:=fun c hc => by rw [ZhQ h c hc];exact ZmI
 cases L with
 | nil => exact Znb (ZjF 101 (by decide) h)
 | cons b r =>
  by_cases c : b.toNat = 101 ∧ 0 < dgN (r.drop (Zbz r))
  ·have e : expN (b :: r) = Zbz r + dgN (r.drop (Zbz r)) + 1:=by rw [Zcg,if_pos c];omega
   have hq : Zbz (r.take (Zbz r) ++ ((r.drop (Zbz r)).take (dgN (r.drop (Zbz r))) ++ X)) = Zbz r ∧ (r.take (Zbz r)).length = Zbz r:=by
    cases r with
    | nil => exact absurd c.2 (by decide)
    | cons d r =>
     by_cases hs : d.toNat = 43 ∨ d.toNat = 45
     ·(have e1 : Zbz (d :: r) = 1:=by rw [ZbQ,if_pos hs]);rw [e1];refine ⟨?_,rfl⟩;show Zbz (d :: _) = 1;rw [ZbQ,if_pos hs]
     ·(have e1 : Zbz (d :: r) = 0:=by rw [ZbQ,if_neg hs]);have c2:=c.2;rw [e1,List.drop_zero] at c2;rw [e1,List.drop_zero,List.take_zero,List.nil_append];refine ⟨?_,rfl⟩;obtain ⟨n,hn⟩ : ∃ n,dgN (d :: r) = n + 1:=⟨dgN (d :: r) - 1,by omega⟩;rw [hn,List.take_succ_cons,List.cons_append,ZbQ,if_neg hs]
   rw [e,List.take_succ_cons,List.take_add,List.cons_append,List.append_assoc,Zcg,hq.1];have hd : (r.take (Zbz r) ++ ((r.drop (Zbz r)).take (dgN (r.drop (Zbz r))) ++ X)).drop (Zbz r) = (r.drop (Zbz r)).take (dgN (r.drop (Zbz r))) ++ X:=List.drop_left' hq.2;rw [hd,ZhL hX,if_pos c];omega
  ·(have e : expN (b :: r) = 0:=by rw [Zcg,if_neg c]);rw [e,List.take_zero,List.nil_append,Znb (ZjF 101 (by decide) h)]
theorem Zia {k : UInt8} {Z : List UInt8} (b0 : UInt8) (L : List UInt8) (n : Nat) (h1 : ∀ c,(L.take n).head? = some c → c = b0) (hk : b0 ≠ k) (h2 : ∀ c,Z.head? = some c → c ≠ k) : ∀ c,(L.take n ++ Z).head? = some c → c ≠ k:=by
 intro c hc
 cases hL : L.take n with
 | nil => rw [hL,List.nil_append] at hc;exact h2 c hc
 | cons d r =>
  rw [hL,List.cons_append] at hc;have e : d = c:=Option.some.inj hc;have h3:=h1 d (by rw [hL];rfl);rw [← e,h3];exact hk
theorem ZeN (L : List UInt8) : ∀ c,(L.take (expN L)).head? = some c → c = 101:=by
 cases L with
 | nil => intro c hc;cases hc
 | cons b r =>
  rw [Zcg];split
  ·rename_i h
   intro c hc;rw [show 1 + Zbz r + dgN (r.drop (Zbz r)) = Zbz r + dgN (r.drop (Zbz r)) + 1 by omega,List.take_succ_cons] at hc;rw [← Option.some.inj hc];exact UInt8.toNat.inj h.1
  ·intro c hc;cases hc
theorem ZhJ (L : List UInt8) : ∀ c,(L.take (dotN L)).head? = some c → c = 46:=by
 cases L with
 | nil => intro c hc;cases hc
 | cons b r =>
  rw [ZbR];split
  ·rename_i h
   intro c hc;rw [Nat.add_comm,List.take_succ_cons] at hc;rw [← Option.some.inj hc];exact UInt8.toNat.inj h.1
  ·intro c hc;cases hc
theorem ZmH {X : List UInt8} (h : Blk X) (L : List UInt8) : numN (L.take (numN L) ++ X) = numN L:=by
 (have hX : ∀ c,X.head? = some c → ¬ isDg c:=fun c hc => by rw [ZhQ h c hc];exact ZmI);obtain ⟨a,ha⟩ : ∃ a,a = dgN L:=⟨_,rfl⟩;obtain ⟨L1,hL1⟩ : ∃ L1,L1 = L.drop a:=⟨_,rfl⟩;obtain ⟨p,hp⟩ : ∃ p,p = dotN L1:=⟨_,rfl⟩;obtain ⟨L2,hL2⟩ : ∃ L2,L2 = L1.drop p:=⟨_,rfl⟩;obtain ⟨e,he⟩ : ∃ e,e = expN L2:=⟨_,rfl⟩;(have hn : numN L = a + p + e:=by unfold numN;rw [← ha,← hL1,← hp,← hL2,← he]);(have hal : (L.take a).length = a:=by rw [List.length_take,ha];have:=ZcH L;omega);have hpl : (L1.take p).length = p:=by rw [List.length_take,hp];have:=Znj L1;omega
 have hT : L.take (numN L) ++ X = L.take a ++ (L1.take p ++ (L2.take e ++ X)):=by
  rw [hn,List.take_add,List.take_add,← hL1,← List.drop_drop,← hL1,← hL2,List.append_assoc,List.append_assoc]
 have z46 : ∀ c,(L2.take e ++ X).head? = some c → c ≠ 46:=he ▸ Zia 101 L2 (expN L2) (ZeN L2) (by decide) (ZjF 46 (by decide) h)
 have zdg : ∀ c,(L2.take e ++ X).head? = some c → ¬ isDg c:=by
  intro c hc
  cases hx : L2.take e with
  | nil => rw [hx,List.nil_append] at hc;exact hX c hc
  | cons d r =>
   rw [hx,List.cons_append] at hc;have h3:=ZeN L2 d (by rw [← he,hx];rfl);have e1 : d = c:=Option.some.inj hc;rw [← e1,h3];exact ZeH
 have ydg : ∀ c,(L1.take p ++ (L2.take e ++ X)).head? = some c → ¬ isDg c:=by
  intro c hc
  cases hx : L1.take p with
  | nil => rw [hx,List.nil_append] at hc;exact zdg c hc
  | cons d r =>
   rw [hx,List.cons_append] at hc;have h3:=ZhJ L1 d (by rw [← hp,hx];rfl);have e1 : d = c:=Option.some.inj hc;rw [← e1,h3];exact Zjv
 have d1 : dgN (L.take a ++ (L1.take p ++ (L2.take e ++ X))) = a:=by
  have g:=ZhL ydg L;rw [← ha] at g;exact g
 have d2 : dotN (L1.take p ++ (L2.take e ++ X)) = p:=by
  have g:=Znh z46 zdg L1;rw [← hp] at g;exact g
 have d3 : expN (L2.take e ++ X) = e:=by
  have g:=Zna h L2;rw [← he] at g;exact g
 rw [hT,hn];unfold numN;rw [d1,List.drop_left' hal,d2,List.drop_left' hpl,d3]
theorem ZkR {X : List UInt8} (hX : Blk X) {b : UInt8} {r : List UInt8} {c x : Int} {T : List UInt8} {m : Nat} (h : tokL (b :: r) = some (c,T,x,m)) : tokL (Zcf c T ++ X) = some (c,T,x,m):=by
 have hm:=Zew h;have ht:=ZfJ h;obtain ⟨k,hk⟩ : ∃ k,m = k + 1:=⟨m - 1,by omega⟩
 have hsplit : Zcf c T ++ X = b :: (r.take k ++ X):=by
  rw [← ht,hk,List.take_succ_cons,List.cons_append]
 (have hsame : b :: (r.take k ++ X) = (b :: r).take m ++ X:=by rw [hk,List.take_succ_cons,List.cons_append]);rw [hsplit,ZcP];rw [ZcP] at h;by_cases c1 : isLt b
 ·rw [if_pos c1] at h ⊢;split at h
  ·cases h
  ·rename_i c12
   injection h with h;injection h with h1 h;injection h with h2 h;injection h with h3 h4
   have e : nmN false (b :: (r.take k ++ X)) = nmN false (b :: r):=by
    rw [hsame,← h4];exact Zkh hX false (b :: r)
   have e2 : (b :: (r.take k ++ X)).take (nmN false (b :: r)) = (b :: r).take (nmN false (b :: r)):=by
    rw [hsame,← h4];exact List.take_left' (by rw [List.length_take];omega)
   rw [e,if_neg c12,e2,h1,h2,h3,h4]
 ·rw [if_neg c1] at h ⊢;by_cases c2 : 48 ≤ b.toNat ∧ b.toNat ≤ 57
  ·rw [if_pos c2] at h ⊢;split at h
   ·rename_i cok
    injection h with h;injection h with h1 h;injection h with h2 h;injection h with h3 h4
    have e : numN (b :: (r.take k ++ X)) = numN (b :: r):=by
     rw [hsame,← h4];exact ZmH hX (b :: r)
    have e2 : (b :: (r.take k ++ X)).take (numN (b :: r)) = (b :: r).take (numN (b :: r)):=by
     rw [hsame,← h4];exact List.take_left' (by rw [List.length_take];omega)
    rw [e,e2,if_pos cok,h3,h1,h2,h4]
   ·cases h
  ·rw [if_neg c2] at h ⊢;by_cases c3 : b.toNat = 34
   ·rw [if_pos c3] at h ⊢
    cases hr : txN r with
    | none => rw [hr] at h;cases h
    | some n =>
     rw [hr] at h;injection h with h;injection h with h1 h;injection h with h2 h;injection h with h3 h4;(obtain rfl : n = k:=by omega);have hle:=ZgM r n hr;rw [Zj4 r n X hr]
     have e2 : (r.take n ++ X).take (n - 1) = r.take (n - 1):=by
      rw [List.take_append_of_le_length (by rw [List.length_take];omega),List.take_take,Nat.min_eq_left zo]
     show some ((3 : Int),(r.take n ++ X).take (n - 1),(0 : Int),n + 1) = _;rw [e2,h1,h2,h3,h4]
   ·rw [if_neg c3] at h ⊢;split at h
    ·cases h
    ·rename_i c4
     injection h with h;injection h with h1 h;injection h with h2 h;injection h with h3 h4
     have e : Zce (b :: (r.take k ++ X)) = Zce (b :: r):=by
      rw [hsame,← h4];exact Zli hX b r c4
     have e2 : (b :: (r.take k ++ X)).take (Zce (b :: r)) = (b :: r).take (Zce (b :: r)):=by
      rw [hsame,← h4];exact List.take_left' (by rw [List.length_take];omega)
     rw [e,if_neg c4,e2,h1,h2,h3,h4]
def ZcX : List (Int × List UInt8 × Int × Nat) → List UInt8
 | [] => []
 | p :: l => 32 :: (Zcf p.1 p.2.1 ++ ZcX l)
theorem ZhZ : ∀ l1 l2,ZcX (l1 ++ l2) = ZcX l1 ++ ZcX l2
 | [],_ => rfl
 | p :: l1,l2 => by rw [List.cons_append,ZcX,ZcX,ZhZ l1 l2,List.cons_append,List.append_assoc]
theorem ZlD (l : List (Int × List UInt8 × Int × Nat)) : Blk (ZcX l):=by
 cases l with
 | nil => exact Or.inl rfl
 | cons p l => exact Or.inr ⟨_,rfl⟩
def Toks (l : List (Int × List UInt8 × Int × Nat)) : Prop := ∀ p ∈ l,∃ b r m,tokL (b :: r) = some (p.1,p.2.1,p.2.2.1,m)
theorem Zij : ∀ (f a n : Nat) (L : List UInt8) (l : List (Int × List UInt8 × Int × Nat)),n ≤ 200 → Zcq f a n L = .inr l → Toks l ∧ n + l.length ≤ 200:=by
 intro f
 induction f with
 | zero => intro a n L l hn h;cases h
 | succ f ih =>
  intro a n L l hn h
  cases L with
  | nil =>
   have e : ([] : List (Int × List UInt8 × Int × Nat)) = l:=Sum.inr.inj h;subst e;exact ⟨fun p hp => (by cases hp),by simpa using hn⟩
  | cons b r =>
   unfold Zcq at h;by_cases cb : isBl b
   ·rw [if_pos cb] at h;exact ih _ _ _ _ hn h
   ·rw [if_neg cb] at h
    cases ht : tokL (b :: r) with
    | none => rw [ht] at h;cases h
    | some q =>
     obtain ⟨c,T,x,m⟩:=q;rw [ht] at h;have h : (if n = 200 then Sum.inl a else (match Zcq f (a + m) (n + 1) ((b :: r).drop m) with | .inl p => .inl p | .inr l => .inr ((c,T,x,a) :: l)) : Nat ⊕ List (Int × List UInt8 × Int × Nat)) = .inr l:=h;split at h
     ·cases h
     ·rename_i hn2
      cases hsc : Zcq f (a + m) (n + 1) ((b :: r).drop m) with
      | inl p => rw [hsc] at h;cases h
      | inr l2 =>
       rw [hsc] at h;have e : (c,T,x,a) :: l2 = l:=Sum.inr.inj h;subst e;obtain ⟨h1,h2⟩:=ih _ _ _ _ zo hsc;refine ⟨fun p hp => ?_,by rw [List.length_cons];omega⟩;rcases List.mem_cons.1 hp with e | hp
       ·subst e;exact ⟨b,r,m,ht⟩
       ·exact h1 p hp
theorem mark_bl {b : UInt8} (r : List UInt8) (hb : isBl b) : Zce (b :: r) = 0:=by
 have e : b = 32 ∨ b = 10 ∨ b = 9:=by
  rcases hb with h | h | h
  ·exact Or.inl (UInt8.toNat.inj h)
  ·exact Or.inr (Or.inl (UInt8.toNat.inj h))
  ·exact Or.inr (Or.inr (UInt8.toNat.inj h))
 rw [Zcb]
 have ht : twoB (b :: r) = false:=by
  cases r with
  | nil => rcases e with rfl | rfl | rfl <;> rfl
  | cons d r => rcases e with rfl | rfl | rfl <;> (unfold twoB inB twoL;simp [ByteArray.toList_eq])
 rw [ht,if_neg (by decide),if_neg];rcases e with rfl | rfl | rfl <;> decide
theorem ZlP {b : UInt8} {r : List UInt8} {q : Int × List UInt8 × Int × Nat} (h : tokL (b :: r) = some q) : ¬ isBl b:=by
 intro hb;have h0:=mark_bl r hb;rw [ZcP,if_neg,if_neg,if_neg,if_pos h0] at h
 ·cases h
 ·rcases hb with h1 | h1 | h1 <;> omega
 ·rcases hb with h1 | h1 | h1 <;> omega
 ·unfold isLt;rcases hb with h1 | h1 | h1 <;> omega
def keyT (p : Int × List UInt8 × Int × Nat) : Int × List UInt8 × Int:=(p.1,p.2.1,p.2.2.1)
theorem ZhY : ∀ (l : List (Int × List UInt8 × Int × Nat)),Toks l → ∀ (f a n : Nat),n + l.length ≤ 200 → (ZcX l).length < f → ∃ l',Zcq f a n (ZcX l) = .inr l' ∧ l'.map keyT = l.map keyT
  | [],_,f,a,n,_,hf => by
    obtain ⟨f,rfl⟩ : ∃ g,f = g + 1:=⟨f - 1,by omega⟩
    exact ⟨[],rfl,rfl⟩
  | (c,T,x,q) :: l,ht,f,a,n,hn,hf => by
    obtain ⟨b,r,m,hb⟩:=ht _ List.mem_cons_self
    have hb : tokL (b :: r) = some (c,T,x,m):=hb
    obtain ⟨hm1,hm2⟩:=Zew hb
    have htx:=ZfJ hb
    have hlen : (Zcf c T).length = m:=by rw [← htx,List.length_take];omega
    obtain ⟨k,hk⟩ : ∃ k,m = k + 1:=⟨m - 1,by omega⟩
    have hcons : Zcf c T = b :: r.take k:=by rw [← htx,hk,List.take_succ_cons]
    have ha:=ZkR (ZlD l) hb
    rw [List.length_cons] at hn
    have hw : ZcX ((c,T,x,q) :: l) = 32 :: (Zcf c T ++ ZcX l):=rfl
    rw [hw,List.length_cons,List.length_append] at hf
    obtain ⟨f1,rfl⟩ : ∃ g,f = g + 1 + 1:=⟨f - 2,by omega⟩
    obtain ⟨l',h1,h2⟩:=ZhY l (fun p hp => ht p (List.mem_cons_of_mem _ hp)) f1 (a + 1 + m) (n + 1) zo zo
    refine ⟨(c,T,x,a + 1) :: l',?_,by rw [List.map_cons,List.map_cons,h2];rfl⟩
    rw [hw]
    have e1 : Zcq (f1 + 1 + 1) a n (32 :: (Zcf c T ++ ZcX l)) = Zcq (f1 + 1) (a + 1) n (Zcf c T ++ ZcX l):=by
      conv => lhs;unfold Zcq
      rw [if_pos (show isBl 32 from Or.inl rfl)]
    rw [e1]
    have hd : (Zcf c T ++ ZcX l).drop m = ZcX l:=List.drop_left' hlen
    rw [hcons,List.cons_append] at ha hd ⊢
    unfold Zcq
    rw [if_neg (ZlP hb),ha]
    show (if n = 200 then Sum.inl (a + 1) else (match Zcq f1 (a + 1 + m) (n + 1) ((b :: (r.take k ++ ZcX l)).drop m) with | .inl p => .inl p | .inr l => .inr ((c,T,x,a + 1) :: l)) : Nat ⊕ List (Int × List UInt8 × Int × Nat)) = _
    rw [if_neg zo,hd,h1]
theorem ZkK {t w : ByteArray} {l : List (Int × List UInt8 × Int × Nat)} (h : ZfZ t = .inr l) (hw : w.data.toList = ZcX l) (hs : w.size ≤ 600) : ∃ l',ZfZ w = .inr l' ∧ l'.map keyT = l.map keyT:=by
 unfold ZfZ at h;split at h
 ·cases h
 ·obtain ⟨h1,h2⟩:=Zij _ _ _ _ _ zo h;obtain ⟨l',h3,h4⟩:=ZhY l h1 (w.size + 1) 0 0 h2 (by rw [← hw,size_data];omega);refine ⟨l',?_,h4⟩;unfold ZfZ;rw [if_neg zo,hw];exact h3
theorem Zl8 {t : ByteArray} {l : List (Int × List UInt8 × Int × Nat)} (h : ZfZ t = .inr l) : t.size ≤ 600 ∧ l.length ≤ 200 ∧ Zfj t.data.toList 0 l:=by
 unfold ZfZ at h;split at h
 ·cases h
 ·obtain ⟨_,h2⟩:=Zij _ _ _ _ _ zo h;exact ⟨by omega,by omega,Zk1 _ t.data.toList [] 0 0 l (by rw [size_data];omega) (Nat.le_refl _) h⟩
end Go.Proofs.YtfoekmfpcahmiabGreatDoor.Pure
