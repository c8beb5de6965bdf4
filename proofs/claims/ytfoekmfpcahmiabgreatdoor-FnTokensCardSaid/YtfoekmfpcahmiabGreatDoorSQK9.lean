/- This session's text, made small by mini.py. No condition beyond those typed. -/
import Derived.Test.YtfoekmfpcahmiabGreatDoorSQMFnTokensx2
namespace Go.Proofs.YtfoekmfpcahmiabGreatDoor.Gen
open Go Go.RowKit MFnTokens YtfoekmfpcahmiabGreatDoorW.PrintWords YtfoekmfpcahmiabGreatDoorW.PrintLast YtfoekmfpcahmiabGreatDoorW.PrintMore CB
theorem Zaz {α : Type} {x : Option α} {r : α} (h : x = some r) : Ev (fun _ => x) r:=by rw [h];exact Ev.now r
theorem Zaj {α : Type} {c : Prop} [Decidable c] {f g : Nat → Option α} {r : α} (h : c) (k : Ev f r) : Ev (fun n => if c then f n else g n) r:=Ev.congr (fun _ => if_pos h) k
theorem Zai {α : Type} {c : Prop} [Decidable c] {f g : Nat → Option α} {r : α} (h : ¬ c) (k : Ev g r) : Ev (fun n => if c then f n else g n) r:=Ev.congr (fun _ => if_neg h) k
theorem Zhe (x : Int) : 0 ≤ Go.bits .and .i64 x 255 ∧ Go.bits .and .i64 x 255 ≤ 255:=by
 have e : Go.bits .and .i64 x 255 = wrap64 (((BitVec.ofInt 64 x).toNat &&& 255 : Nat) : Int):=by
  simp only [Go.bits,wi64];show wrap64 (((BitVec.ofInt 64 x &&& BitVec.ofInt 64 255).toNat : Int)) = _;rw [BitVec.toNat_and];rfl
 have h : (BitVec.ofInt 64 x).toNat &&& 255 ≤ 255:=Nat.and_le_right;rw [e,w64 (by omega) (by omega)];omega
theorem ZcY (l : List Int) (i h : Int) (hl : l.length ≤ 140737488351232) (hi : 0 ≤ i) : ∃ v i' h',Za3.f l i h = some (v,i',h') ∧ (0 ≤ v ∧ v ≤ 255) ∧ 0 ≤ i':=by
 unfold Za3.f;by_cases h1 : i < (l.length : Int)
 ·rw [if_pos h1,if_pos hi];refine ⟨_,_,_,rfl,Zhe _,?_⟩;rw [w64 (by omega) (by omega)];omega
 ·rw [if_neg h1];exact ⟨_,_,_,rfl,Zhe _,hi⟩
theorem ZcM (l : List Int) (i h n : Int) (hl : l.length ≤ 140737488351232) (hi : 0 ≤ i) (hn : 0 < n) : ∃ v i' h',ZaZ.f l i h n = some (v,i',h') ∧ (0 ≤ v ∧ v < n) ∧ 0 ≤ i':=by
 unfold ZaZ.f;rw [if_neg (by omega)];by_cases h1 : n ≤ 256
 ·rw [if_pos h1];obtain ⟨v,i',h',e,hv,hi'⟩:=ZcY l i h hl hi;rw [e];simp only [Option.bind_some];rw [if_neg (by omega),ZgB hv.1];exact ⟨_,_,_,rfl,⟨Int.emod_nonneg _ (by omega),Int.emod_lt_of_pos _ hn⟩,hi'⟩
 ·rw [if_neg h1];obtain ⟨v1,i1,h1,e1,r1,p1⟩:=ZcY l i h hl hi;obtain ⟨v2,i2,h2,e2,r2,p2⟩:=ZcY l i1 h1 hl p1;obtain ⟨v3,i3,h3,e3,r3,p3⟩:=ZcY l i2 h2 hl p2;obtain ⟨v4,i4,h4,e4,r4,p4⟩:=ZcY l i3 h3 hl p3;rw [e1];simp only [Option.bind_some];rw [e2];simp only [Option.bind_some];rw [e3];simp only [Option.bind_some];rw [e4];simp only [Option.bind_some];rw [if_neg (by omega),w64 (x:=v1 * 16777216) (by omega) (by omega),w64 (x:=v2 * 65536) (by omega) (by omega),w64 (x:=v3 * 256) (by omega) (by omega),w64 (x:=v1 * 16777216 + v2 * 65536) (by omega) (by omega),w64 (x:=v1 * 16777216 + v2 * 65536 + v3 * 256) (by omega) (by omega),w64 (by omega) (by omega),ZgB (by omega)];exact ⟨_,_,_,rfl,⟨Int.emod_nonneg _ (by omega),Int.emod_lt_of_pos _ hn⟩,p4⟩
theorem Zjf (l : List Int) (_hl : l.length ≤ 140737488351232) : ∀ (d i : Nat) (x : Int),4000 - i = d → i ≤ 4000 → ∃ h,Ev (fun k => Zbu.l0 k l x (i : Int)) (l,0,h):=by
 have hr : ∀ (k i : Nat) (x : Int),Zbu.l0 (k + 1) l x (i : Int) = if (i : Int) < (l.length : Int) then (if (i : Int) < 4000 then (if 0 ≤ (i : Int) then (Zbu.l0 k l (Go.bits .and .i64 (wrap64 ((wrap64 ((wrap64 (x * 131)) + (wrap64 (rd l i)))) + 7)) 1073741823) (wrap64 ((i : Int) + 1))) else (none)) else (some (l,0,x))) else (some (l,0,x)):=fun _ _ _ => rfl
 intro d
 induction d with
 | zero =>
  intro i x hd hi;refine ⟨x,Ev.step (f:=fun _ => some (l,0,x)) (fun k => ?_) (Ev.now _)⟩;rw [hr];split
  ·rw [if_neg (by omega)]
  ·rfl
 | succ d ih =>
  intro i x hd hi;by_cases h1 : i < l.length
  ·obtain ⟨h,e⟩:=ih (i + 1) (Go.bits .and .i64 (wrap64 ((wrap64 ((wrap64 (x * 131)) + (wrap64 (rd l i)))) + 7)) 1073741823) (by omega) (by omega);exact ⟨h,Ev.step (fun k => by rw [hr,if_pos (by omega),if_pos (by omega),if_pos (by omega),w64s (by omega)]) e⟩
  ·exact ⟨x,Ev.step (f:=fun _ => some (l,0,x)) (fun k => by rw [hr,if_neg (by omega)]) (Ev.now _)⟩
theorem ZnZ (l : List Int) (hl : l.length ≤ 140737488351232) : ∃ h,Ev (fun k => Zbu.f k l) (l,0,h):=Zjf l hl 4000 0 _ (by omega) (by omega)
theorem ZlZ (l : List Int) (i h n : Int) (hl : l.length ≤ 140737488351232) (hi : 0 ≤ i) (hn : 0 < n) : ∃ (b : Bool) (i' h' : Int),Zcz.f l i h n = some (b,i',h') ∧ 0 ≤ i':=by
 obtain ⟨v,i',h',e,_,p⟩:=ZcM l i h n hl hi hn;refine ⟨v == 0,i',h',?_,p⟩;unfold Zcz.f;rw [e];rfl
theorem Zfs (l : List Int) (hl : l.length ≤ 140737488351232) (n : Nat) (hn : n ≤ 5000) : ∀ (d j : Nat) (T : List Int) (i h : Int),n - j = d → j ≤ n → T.length = j → 0 ≤ i →
  ∃ s i' h',Ev (fun k => ZaI.l0 k (n : Int) T (j : Int) l i h) (s,i',h') ∧ s.size = n ∧ 0 ≤ i':=by
 have hr : ∀ (k j : Nat) (T : List Int) (i h : Int),ZaI.l0 (k + 1) (n : Int) T (j : Int) l i h = if (j : Int) < (n : Int) then ((Za3.f l i h).bind fun bt178 => (if T.length < 140737488355328 then (ZaI.l0 k (n : Int) (T ++ [(bt178.1) % 256]) (wrap64 ((j : Int) + 1)) l bt178.2.1 bt178.2.2) else (none))) else (some (strOfNums T,i,h)):=fun _ _ _ _ _ => rfl
 intro d
 induction d with
 | zero =>
  intro j T i h hd hj hT hi;refine ⟨strOfNums T,i,h,Ev.step (f:=fun _ => some (strOfNums T,i,h)) (fun k => ?_) (Ev.now _),by rw [Zch];omega,hi⟩;rw [hr,if_neg (by omega)]
 | succ d ih =>
  intro j T i h hd hj hT hi;obtain ⟨v,i1,h1,e1,_,p1⟩:=ZcY l i h hl hi;obtain ⟨s,i',h',e,r⟩:=ih (j + 1) (T ++ [v % 256]) i1 h1 (by omega) (by omega) (by simp;omega) p1;refine ⟨s,i',h',Ev.step (fun k => ?_) e,r⟩;rw [hr,if_pos (by omega),e1];simp only [Option.bind_some];rw [if_pos (by omega),w64s (by omega)]
theorem ZeA (l : List Int) (i h : Int) (n : Nat) (hl : l.length ≤ 140737488351232) (hi : 0 ≤ i) (hn : n ≤ 5000) : ∃ s i' h',Ev (fun k => ZaI.f k l i h (n : Int)) (s,i',h') ∧ s.size = n ∧ 0 ≤ i':=by
 obtain ⟨s,i',h',e,r⟩:=Zfs l hl n hn n 0 [] i h (by omega) (by omega) rfl hi;refine ⟨s,i',h',?_,r⟩;unfold ZaI.f;simp only [if_neg (show ¬ (n : Int) > 5000 by omega)];exact Ev.step (f:=fun k => ZaI.l0 k (n : Int) [] 0 l i h) (fun k => rfl) e
theorem Zif (n : Nat) (v : Int) (hn : n ≤ 100000) : ∀ (d j : Nat) (T : List Int),n - j = d → j ≤ n → T.length = n →
  ∃ s,Ev (fun k => Zbh.l0 k (n : Int) v T (j : Int)) s ∧ s.size = n:=by
 have hr : ∀ (k j : Nat) (T : List Int),Zbh.l0 (k + 1) (n : Int) v T (j : Int) = if (j : Int) < (n : Int) then (if 0 ≤ (j : Int) then (if (j : Int) < (T.length : Int) then (Zbh.l0 k (n : Int) v (T.set (j : Int).toNat v) (wrap64 ((j : Int) + 1))) else (none)) else (none)) else (some (strOfNums T)):=fun _ _ _ => rfl
 intro d
 induction d with
 | zero =>
  intro j T hd hj hT;exact ⟨strOfNums T,Ev.step (f:=fun _ => some (strOfNums T)) (fun k => by rw [hr,if_neg (by omega)]) (Ev.now _),by rw [Zch];omega⟩
 | succ d ih =>
  intro j T hd hj hT;obtain ⟨s,e,r⟩:=ih (j + 1) (T.set j v) (by omega) (by omega) (by rw [List.length_set];omega);exact ⟨s,Ev.step (fun k => by rw [hr,if_pos (by omega),if_pos (by omega),if_pos (by omega),w64s (by omega),Int.toNat_natCast]) e,r⟩
theorem Zl2 (n : Nat) (v : Int) (hn : n ≤ 100000) : ∃ s,Ev (fun k => Zbh.f k (n : Int) v) s ∧ s.size = n:=by
 obtain ⟨s,e,r⟩:=Zif n v hn n 0 (List.replicate n 0) (by omega) (by omega) (by simp);refine ⟨s,?_,r⟩;unfold Zbh.f;simp only [if_pos (show (0 : Int) ≤ (n : Int) by omega),Int.toNat_natCast,if_pos (show n ≤ 281474976710656 by omega)];exact e
theorem Zez (x : Nat) (h : x < 10) : ZbM.f (x : Int) = some (48 + (x : Int)):=by
 unfold ZbM.f;rw [if_pos (by omega),w64 (by omega) (by omega),show (48 + (x : Int)) % 256 = 48 + x by omega]
def dgs (m : Nat) (s : ByteArray) : ByteArray:=if m = 0 then s else dgs (m / 10) (strOfNums [48 + ((m % 10 : Nat) : Int)] ++ s)
termination_by m
decreasing_by omega
theorem Zcw (s : ByteArray) : dgs 0 s = s:=by rw [dgs];rfl
theorem Zdr (m : Nat) (s : ByteArray) (h : m ≠ 0) : dgs m s = dgs (m / 10) (strOfNums [48 + ((m % 10 : Nat) : Int)] ++ s):=by rw [dgs,if_neg h]
def decT (n : Int) : ByteArray:=if n = 0 then ⟨#[48]⟩ else if n < 0 then ⟨#[45]⟩ ++ dgs n.natAbs ⟨#[]⟩ else dgs n.natAbs ⟨#[]⟩
def sgn (b : Bool) (s : ByteArray) : ByteArray:=if b = true then ⟨#[45]⟩ ++ s else s
theorem ZeP (n : Int) (h : n ≠ 0) : decT n = sgn (decide (n < 0)) (dgs n.natAbs ⟨#[]⟩):=by
 unfold decT sgn;rw [if_neg h];by_cases h1 : n < 0 <;> simp [h1]
theorem ZhK : ∀ (d m : Nat) (s : ByteArray),m < 10 ^ d → (dgs m s).size ≤ s.size + d:=by
  intro d
  induction d with
  | zero => intro m s h; obtain rfl : m = 0 := by omega
            rw [Zcw];omega
  | succ d ih =>
    intro m s h;by_cases h0 : m = 0
    · subst h0;rw [Zcw];omega
    · rw [Zdr m s h0];have:=ih (m / 10) (strOfNums [48 + ((m % 10 : Nat) : Int)] ++ s) (by rw [Nat.pow_succ] at h;omega);rw [ByteArray.size_append,Zch] at this;simp only [List.length_cons,List.length_nil] at this;omega
theorem ZlV (b : Bool) (m : Nat) : Int.tdiv (if b then -(m : Int) else m) 10 = if b then -((m / 10 : Nat) : Int) else ((m / 10 : Nat) : Int):=by
 cases b with
 | false => simp only [Bool.false_eq_true,if_false];rw [Zh9 (Int.natCast_nonneg m)];rfl
 | true => simp only [if_true];rw [Int.neg_tdiv,Zh9 (Int.natCast_nonneg m)];rfl
theorem ZlQ (b : Bool) (m : Nat) : Int.tmod (if b then -(m : Int) else m) 10 = if b then -((m % 10 : Nat) : Int) else ((m % 10 : Nat) : Int):=by
 cases b with
 | false => simp only [Bool.false_eq_true,if_false];rw [ZgB (Int.natCast_nonneg m)];rfl
 | true => simp only [if_true];rw [Int.neg_tmod,ZgB (Int.natCast_nonneg m)];rfl
theorem ZfY (n : Int) : n = if decide (n < 0) then -(n.natAbs : Int) else (n.natAbs : Int):=by
 by_cases h : n < 0
 ·rw [decide_eq_true h];simp only [if_true];omega
 ·rw [decide_eq_false h];simp only [Bool.false_eq_true,if_false];omega
theorem Zjj (below b : Bool) : ∀ (d m : Nat) (s : ByteArray),m < 10 ^ d → m ≤ 9223372036854775808 → s.size + d ≤ 1000 →
    Ev (fun k => Zbb.l0 k (if b then -(m : Int) else m) below s) (sgn below (dgs m s)):=by
  have hz : ∀ s : ByteArray,s.size ≤ 1000 → Ev (fun k => Zbb.l0 k (if b then -((0 : Nat) : Int) else ((0 : Nat) : Int)) below s) (sgn below (dgs 0 s)):=by
    intro s hs;rw [Zcw,show (if b then -((0 : Nat) : Int) else ((0 : Nat) : Int)) = 0 by cases b <;> rfl];refine Ev.step (f:=fun _ => some (sgn below s)) (fun k => ?_) (Ev.now _);simp only [Zbb.l0,if_true];unfold sgn;cases below
    · rfl
    · simp only [if_true];rw [if_pos (by omega)]
  intro d
  induction d with
  | zero => intro m s h hm hs; obtain rfl : m = 0 := by omega
            exact hz s (by omega)
  | succ d ih =>
    intro m s h hm hs;by_cases h0 : m = 0
    · subst h0;exact hz s (by omega)
    · rw [Zdr m s h0];have h':=ih (m / 10) (strOfNums [48 + ((m % 10 : Nat) : Int)] ++ s) (by rw [Nat.pow_succ] at h;omega) (by omega) (by rw [ByteArray.size_append,Zch];simp;omega);refine Ev.step (fun k => ?_) h';simp only [Zbb.l0];rw [ZlV b m,ZlQ b m,if_neg (by cases b <;> simp <;> omega)]
      have hw : wrap64 (if b then -((m / 10 : Nat) : Int) else ((m / 10 : Nat) : Int)) = if b then -((m / 10 : Nat) : Int) else ((m / 10 : Nat) : Int):=by
        apply w64 <;> (cases b <;> simp <;> omega)
      rw [hw];by_cases hd : b = true ∧ m % 10 ≠ 0
      · obtain ⟨rfl,hd⟩:=hd;simp only [if_true];rw [if_pos (by omega),w64 (by omega) (by omega),Int.neg_neg,Zez _ (by omega)];simp only [Option.bind_some];rw [if_pos (by rw [Zch];simp;omega)]
      · have e : (if b then -((m % 10 : Nat) : Int) else ((m % 10 : Nat) : Int)) = ((m % 10 : Nat) : Int):=by
          cases b
          · rfl
          · (simp only [if_true];have : m % 10 = 0:=by simp at hd;exact hd);rw [this];rfl
        rw [e,if_neg (by omega),Zez _ (by omega)];simp only [Option.bind_some];rw [if_pos (by rw [Zch];simp;omega)]
theorem Zn2 (n : Int) (h0 : -9223372036854775808 ≤ n) (h1 : n < 9223372036854775808) : Ev (fun k => Zbb.f k n) (decT n):=by
 unfold Zbb.f;by_cases h : n = 0
 ·subst h;simp only [if_true];have e : decT 0 = ⟨#[48]⟩:=rfl;rw [e];exact Ev.now _
 ·simp only [if_neg h];rw [ZeP n h];have h':=Zjj (decide (n < 0)) (decide (n < 0)) 20 n.natAbs ⟨#[]⟩ (Nat.lt_of_le_of_lt (show n.natAbs ≤ 9223372036854775808 by omega) (by decide)) (by omega) (by simp [ByteArray.size]);rw [← ZfY n] at h';exact h'
theorem in_l0 (l : List ByteArray) (x : ByteArray) (hl : l.length ≤ 140737488351232) : ∀ (d i : Nat),l.length - i = d → i ≤ l.length → ∃ r,Ev (fun k => Za0.l0 k l x (i : Int)) r:=by
 intro d
 induction d with
 | zero =>
  intro i hd hi;refine ⟨false,Ev.step (f:=fun _ => some false) (fun k => ?_) (Ev.now _)⟩;simp only [Za0.l0];rw [if_neg (by omega)]
 | succ d ih =>
  intro i hd hi;by_cases h : (rdOf ByteArray.empty l (i : Int)).toList = x.toList
  ·refine ⟨true,Ev.step (f:=fun _ => some true) (fun k => ?_) (Ev.now _)⟩;simp only [Za0.l0];rw [if_pos (by omega),if_pos (by omega),if_pos h]
  ·obtain ⟨r,e⟩:=ih (i + 1) (by omega) (by omega);refine ⟨r,Ev.step (fun k => ?_) e⟩;simp only [Za0.l0];rw [if_pos (by omega),if_pos (by omega),if_neg h,w64s (by omega)]
theorem in_any (l : List ByteArray) (x : ByteArray) (hl : l.length ≤ 140737488351232) : ∃ (r : Bool) (k : Nat),Za0.f k l x = some r:=by
 obtain ⟨r,k,e⟩:=in_l0 l x hl l.length 0 (by omega) (by omega);exact ⟨r,k,e k (Nat.le_refl _)⟩
theorem Za4 (a : Array UInt8) : (⟨a⟩ : ByteArray).size = a.size:=rfl
abbrev Two (gb cb : Nat) : Nat → Prop:=fun k => k = gb ∨ k = cb
abbrev One (cb : Nat) : Nat → Prop:=fun k => k = cb
structure St (w0 : World) (gb cb : Nat) (L : List Int) (m : Nat) (W : World) : Prop where
 out : ∃ (i h left : Int) (A : Option Addr) (c : Nat) (l : List ByteArray),Zam w0 W cb L i h ∧ 0 ≤ i ∧ W.heap[gb]? = some (.cells #[.pointer (some ⟨cb,0,none⟩),.slice A l.length c,.int .i64 left] 40 (0,0)) ∧ w0.heap.size ≤ gb ∧
  Kd.C Kd.string W A l.length l ∧ l.length ≤ c ∧ l.length ≤ m ∧ (∀ t ∈ l,t.size ≤ 30) ∧ (∀ ad,A = some ad → 0 < l.length → ¬ Two gb cb ad.block) ∧ Below w0.heap.size w0 W
section
variable {w0 W W1 w w' : World} {gb cb m n : Nat} {L : List Int} {A : Option Addr} {c : Nat} {l : List ByteArray}
theorem St.more (h : St w0 gb cb L m W) (hm : m ≤ n) : St w0 gb cb L n W:=by
 obtain ⟨i,hh,left,A,c,l,h1,h2,h3,h4,h5,h6,h7,h8,h9,h10⟩:=h.out;exact ⟨i,hh,left,A,c,l,h1,h2,h3,h4,h5,h6,Nat.le_trans h7 hm,h8,h9,h10⟩
theorem St.ge (h : St w0 gb cb L m W) : w0.heap.size ≤ gb ∧ w0.heap.size ≤ cb ∧ gb < W.heap.size ∧ cb < W.heap.size ∧ gb ≠ cb:=by
 obtain ⟨i,hh,left,A,c,l,h1,h2,h3,h4,h5,h6,h7,h8,h9,h10⟩:=h.out;obtain ⟨A0,c0,hb,hg,_⟩:=h1;exact ⟨h4,hg,Zd9 h3,Zd9 hb,blk_ne h3 hb (by decide)⟩
theorem Zec {S : Nat → Prop} (h : Kd.C Kd.string W A l.length l) (hk : Kept W W1 S) (hf : ∀ ad,A = some ad → 0 < l.length → ¬ S ad.block) : Kd.C Kd.string W1 A l.length l:=by
 have h' : Zdt Value.string ByteArray.empty W A l.length l:=Kd.Zc0 h;refine Kd.Zd0 (d:=ByteArray.empty) ⟨h'.1,h'.2.1,fun hn => ?_⟩;obtain ⟨ad,e,hc⟩:=h'.2.2 hn;exact ⟨ad,e,fun j hj => ZiW (hc j hj) hk (by rw [Zc5];exact hf ad e hn)⟩
theorem St.keep {i h : Int} (hs : St w0 gb cb L m W) (h1 : Zam w0 W1 cb L i h) (h2 : 0 ≤ i) (hb : Below w0.heap.size w0 W1) (hk : Zat W W1 cb none) : St w0 gb cb L m W1 ∧ Kept W W1 (One cb):=by
 have hge:=hs.ge;obtain ⟨_,_,left,A,c,l,_,_,h3,h4,h5,h6,h7,h8,h9,_⟩:=hs.out;have hk' : Kept W W1 (One cb):=⟨hk.1,fun k hlt hn => hk.2 k hlt hn (by simp)⟩;exact ⟨⟨i,h,left,A,c,l,h1,h2,(hk.2 gb (Zd9 h3) hge.2.2.2.2 (by simp)).trans h3,h4,Zec h5 hk' (fun ad e hn he => h9 ad e hn (Or.inr he)),h6,h7,h8,h9,hb⟩,hk'⟩
theorem St.below (hs : St w0 gb cb L m W) (hb : Below W.heap.size W W1) : St w0 gb cb L m W1:=by
 have hge:=hs.ge;obtain ⟨i,h,left,A,c,l,h1,h2,h3,h4,h5,h6,h7,h8,h9,h10⟩:=hs.out;exact ⟨i,h,left,A,c,l,h1.below hb,h2,(hb.block gb hge.2.2.1).trans h3,h4,Kd.ZbX h5 hb,h6,h7,h8,h9,ZbC h10 h10.size hb⟩
theorem St.alloc (hs : St w0 gb cb L m W) (o : Obj) : St w0 gb cb L m (W.alloc o):=hs.below (Zag (Below.refl _ _) o)
theorem St.drewN (hs : St w0 gb cb L m W) (k : Nat) : St w0 gb cb L m (W.drewN k):=hs.below (Zac (Below.refl _ _) k)
theorem St.drew (hs : St w0 gb cb L m W) : St w0 gb cb L m W.drew:=hs.below (Zak (Below.refl _ _))
theorem St.names (hs : St w0 gb cb L m W) (hC : Kd.C Kd.string W A l.length l) (hc : l.length ≤ c) (hn : l.length ≤ n) (hz : ∀ t ∈ l,t.size ≤ 30) (hf : ∀ ad,A = some ad → 0 < l.length → ¬ Two gb cb ad.block) :
  St w0 gb cb L n (W.setCell ⟨gb,1,none⟩ (.slice A l.length c)) ∧ Kept W (W.setCell ⟨gb,1,none⟩ (.slice A l.length c)) (Two gb cb):=by
 have hge:=hs.ge;obtain ⟨i,h,left,A2,c2,l2,h1,h2,h3,h4,h5,h6,h7,h8,h9,h10⟩:=hs.out;have hk : Kept W (W.setCell ⟨gb,1,none⟩ (.slice A l.length c)) (Two gb cb):=(Kept.refl W _).setCell (Or.inl (Or.inl rfl)) _;have hk2 : Kept W (W.setCell ⟨gb,1,none⟩ (.slice A l.length c)) (fun k => k = gb):=Kept.setCell (p:=⟨gb,1,none⟩) (Kept.refl W (fun k => k = gb)) (Or.inl (show gb = gb from rfl)) _;exact ⟨⟨i,h,left,A,c,l,h1.kept hk2 (Ne.symm hge.2.2.2.2),h2,Zds h3 1 _ rfl,h4,Zec hC hk hf,hc,hn,hz,hf,h10.setCell h4 _⟩,hk⟩
theorem St.left (hs : St w0 gb cb L m W) (x : Int) : St w0 gb cb L m (W.setCell ⟨gb,2,none⟩ (.int .i64 x)) ∧ Kept W (W.setCell ⟨gb,2,none⟩ (.int .i64 x)) (Two gb cb):=by
 have hge:=hs.ge;obtain ⟨i,h,left,A,c,l,h1,h2,h3,h4,h5,h6,h7,h8,h9,h10⟩:=hs.out;have hk : Kept W (W.setCell ⟨gb,2,none⟩ (.int .i64 x)) (Two gb cb):=(Kept.refl W _).setCell (Or.inl (Or.inl rfl)) _;have hk2 : Kept W (W.setCell ⟨gb,2,none⟩ (.int .i64 x)) (fun k => k = gb):=Kept.setCell (p:=⟨gb,2,none⟩) (Kept.refl W (fun k => k = gb)) (Or.inl (show gb = gb from rfl)) _;exact ⟨⟨i,h,x,A,c,l,h1.kept hk2 (Ne.symm hge.2.2.2.2),h2,Zds h3 2 _ rfl,h4,Zec h5 hk h9,h6,h7,h8,h9,h10.setCell h4 _⟩,hk⟩
theorem St.cells (hs : St w0 gb cb L m W) : ∃ (A : Option Addr) (c : Nat) (left : Int) (l : List ByteArray),W.cell? ⟨gb,0,none⟩ = some (.pointer (some ⟨cb,0,none⟩)) ∧ W.cell? ⟨gb,1,none⟩ = some (.slice A l.length c) ∧ W.cell? ⟨gb,2,none⟩ = some (.int .i64 left) ∧
  W.frozen? ⟨gb,1,none⟩ = false ∧ W.frozen? ⟨gb,2,none⟩ = false ∧ Kd.C Kd.string W A l.length l ∧ l.length ≤ c ∧ l.length ≤ m ∧ (∀ t ∈ l,t.size ≤ 30) ∧ (∀ ad,A = some ad → 0 < l.length → ¬ Two gb cb ad.block):=by
 obtain ⟨i,h,left,A,c,l,h1,h2,h3,h4,h5,h6,h7,h8,h9,h10⟩:=hs.out;exact ⟨A,c,left,l,(Zbq h3 0).trans rfl,(Zbq h3 1).trans rfl,(Zbq h3 2).trans rfl,ZbF h3 1,ZbF h3 2,h5,h6,h7,h8,h9⟩
theorem to2 (h : Kept w W (One cb)) : Kept w W (Two gb cb):=h.mono (fun _ e => Or.inr e)
theorem stay (hs : St w0 gb cb L m w) (hk : Kept w w' (One cb)) {i : Nat} {v : Value} (hc : w.cell? ⟨gb,i,none⟩ = some v) : w'.cell? ⟨gb,i,none⟩ = some v:=ZiW hc hk (fun e => hs.ge.2.2.2.2 e)
theorem ZlW (hk : Kept w w' (One cb)) (hC : Kd.C Kd.string w A l.length l) (hf : ∀ ad,A = some ad → 0 < l.length → ¬ Two gb cb ad.block) : Kd.C Kd.string w' A l.length l:=Zec hC hk (fun ad e hn he => hf ad e hn (Or.inr he))
theorem rowC (hC : Kd.C Kd.string w A l.length l) (h : 0 < l.length) : ∃ ad,A = some ad ∧ ∀ j : Int,0 ≤ j → j < (l.length : Int) → w.cell? (ad.add j.toNat) = some (.string (rdOf ByteArray.empty l j)):=by
 obtain ⟨ad,e,_⟩:=Kd.Zcs hC 0 (by omega) (by omega);refine ⟨ad,e,fun j h0 h1 => ?_⟩;obtain ⟨ad',e',hx⟩:=Kd.Zcs hC j h0 h1;cases e.symm.trans e';exact hx
theorem rd_mem (l : List ByteArray) (v : Int) (h0 : 0 ≤ v) (h1 : v < (l.length : Int)) : rdOf ByteArray.empty l v ∈ l:=by
 unfold rdOf;rw [List.getD_eq_getElem?_getD,List.getElem?_eq_getElem (by omega)];exact List.getElem_mem _
theorem two_ {W2 : World} (h : Kept w W (Two gb cb)) (k : Kept W W2 (Two gb cb)) : Kept w W2 (Two gb cb):=h.then_ k (fun _ h2 => Or.inl h2)
theorem St.c0 (hs : St w0 gb cb L m W) : W.cell? ⟨gb,0,none⟩ = some (.pointer (some ⟨cb,0,none⟩)):=by
 obtain ⟨_,_,_,_,h,_⟩:=hs.cells;exact h
theorem Zci (hL : L.length ≤ 140737488351232) (hs : St w0 gb cb L m w) (k : Int) (hk : 0 < k) :
  Calls Tryz.prog 13 #[.pointer (some ⟨cb,0,none⟩),.int .i64 k] w fun e w' => ∃ v : Int,e = .returned (.int .i64 v) ∧ (0 ≤ v ∧ v < k) ∧ St w0 gb cb L m w' ∧ Kept w w' (One cb):=by
 obtain ⟨i,h,left,A,c,l,h1,h2,h3,h4,h5,h6,h7,h8,h9,h10⟩:=hs.out;obtain ⟨v,i',h',e,hv,hi⟩:=ZcM L i h k hL h2 hk;refine (ZaZ.calls cb L i h k v i' h' w0 w h1 h10 e).mono ?_;rintro e w' ⟨rfl,hi',hb,hkb⟩;exact ⟨v,rfl,hv,hs.keep hi' hi hb hkb⟩
theorem Zfa (hL : L.length ≤ 140737488351232) (hs : St w0 gb cb L m w) (k : Int) (hk : 0 < k) :
  Calls Tryz.prog 17 #[.pointer (some ⟨cb,0,none⟩),.int .i64 k] w fun e w' => ∃ v : Bool,e = .returned (.bool v) ∧ St w0 gb cb L m w' ∧ Kept w w' (One cb):=by
 obtain ⟨i,h,left,A,c,l,h1,h2,h3,h4,h5,h6,h7,h8,h9,h10⟩:=hs.out;obtain ⟨v,i',h',e,hi⟩:=ZlZ L i h k hL h2 hk;refine (Zcz.calls cb L i h k v i' h' w0 w h1 h10 e).mono ?_;rintro e w' ⟨rfl,hi',hb,hkb⟩;exact ⟨v,rfl,hs.keep hi' hi hb hkb⟩
theorem Ze6 (hL : L.length ≤ 140737488351232) (hs : St w0 gb cb L m w) {z : Nat} (hz : ∀ t ∈ l,t.size ≤ z) (hl : 0 < l.length) (hC : Kd.C Kd.string w A l.length l) (hc : l.length ≤ c) (hf : ∀ ad,A = some ad → 0 < l.length → ¬ Two gb cb ad.block) :
  Calls Tryz.prog 16 #[.pointer (some ⟨cb,0,none⟩),.slice A l.length c] w fun e w' => ∃ t : ByteArray,e = .returned (.string t) ∧ t.size ≤ z ∧ St w0 gb cb L m w' ∧ Kept w w' (One cb):=by
 obtain ⟨i,h,left,A2,c2,l2,h1,h2,h3,h4,h5,h6,h7,h8,h9,h10⟩:=hs.out;obtain ⟨v,i',h',e,hv,hi⟩:=ZcM L i h (l.length : Int) hL h2 (by omega)
 have e2 : Zcy.f L i h l = some (rdOf ByteArray.empty l v,i',h'):=by
  unfold Zcy.f;rw [e];simp only [Option.bind_some];rw [if_pos hv.1,if_pos hv.2]
 refine (Zcy.calls cb L i h A c l _ i' h' w0 w h1 h10 hC hc (fun ad e hn he => hf ad e hn (Or.inr he)) e2).mono ?_;rintro e w' ⟨rfl,hi',hb,hkb⟩;refine ⟨_,rfl,hz _ ?_,hs.keep hi' hi hb hkb⟩;unfold rdOf;rw [List.getD_eq_getElem?_getD,List.getElem?_eq_getElem (by omega)];exact List.getElem_mem _
theorem Zpd (hs : St w0 gb cb L m w) (k : Int) (h0 : 0 ≤ k) (h1 : k < 100000000) :
  Calls Tryz.prog 41 #[.int .i64 k] w fun e w' => ∃ t : ByteArray,e = .returned (.string t) ∧ t.size ≤ 20 ∧ St w0 gb cb L m w' ∧ Kept w w' (Two gb cb):=by
 obtain ⟨r,hr⟩:=Zn2 k (by omega) (by omega);refine (Zbb.calls r k (decT k) w (hr r (Nat.le_refl _))).mono ?_;rintro e w' ⟨rfl,hb⟩;refine ⟨_,rfl,?_,hs.below hb,Kept.ZdW hb _⟩;unfold decT;split
 ·decide
 ·rw [if_neg (by omega)];exact Nat.le_trans (ZhK 20 k.natAbs ⟨#[]⟩ (Nat.lt_of_lt_of_le (show k.natAbs < 100000000 by omega) (by decide))) (by decide)
theorem Zd7 (xs : List ByteArray) (hm : xs.length ≤ 100) : Kd.C Kd.string (W.alloc (.cells (xs.map Value.string).toArray 9)) (some ⟨W.heap.size,0,none⟩) xs.length xs:=by
 refine Kd.Zd0 (d:=ByteArray.empty) ⟨rfl,by omega,fun hn => ⟨_,rfl,fun j hj => ?_⟩⟩;(have hadd : (⟨W.heap.size,0,none⟩ : Addr).add j = ⟨W.heap.size,j,none⟩:=by unfold Addr.add;split <;> simp_all);rw [hadd,Zbq (Zer W _) j,List.getD_eq_getElem?_getD,List.getElem?_eq_getElem hj];simp [List.getElem?_eq_getElem hj]
theorem ZcV (hs : St w0 gb cb L m W) : ¬ Two gb cb W.heap.size:=fun h => by
 have hge:=hs.ge
 rcases h with h | h <;> omega
theorem Zhu (hL : L.length ≤ 140737488351232) (hs : St w0 gb cb L m W) {z : Nat} {xs : List ByteArray} (hz : ∀ t ∈ xs,t.size ≤ z) (h0 : 0 < xs.length) (h1 : xs.length ≤ 100) :
  Calls Tryz.prog 16 #[.pointer (some ⟨cb,0,none⟩),.slice (some ⟨W.heap.size,0,none⟩) xs.length xs.length] (W.alloc (.cells (xs.map Value.string).toArray 9)) fun e w' => ∃ t : ByteArray,e = .returned (.string t) ∧ t.size ≤ z ∧ St w0 gb cb L m w' ∧ Kept W w' (One cb):=by
 refine (Ze6 hL (hs.alloc _) hz h0 (Zd7 xs h1) (Nat.le_refl _) (fun ad e _ => by cases e;exact ZcV hs)).mono ?_;rintro e w' ⟨t,h1,h2,h3,h4⟩;exact ⟨t,h1,h2,h3,⟨Nat.le_trans (Zag (Below.refl _ W) _).size h4.1,fun k hlt hn => (h4.2 k (Nat.lt_of_lt_of_le hlt (Zag (Below.refl _ W) (.cells (xs.map Value.string).toArray 9)).size) hn).trans ((Zag (Below.refl _ W) (.cells (xs.map Value.string).toArray 9)).block k hlt)⟩⟩
theorem Zc2 (hL : L.length ≤ 140737488351232) (hs : St w0 gb cb L m W) {z k : Nat} {cells : Array Value} (xs : List ByteArray) (hx : (xs.map Value.string).toArray = cells) (hk : xs.length = k) (hz : ∀ t ∈ xs,t.size ≤ z) (h0 : 0 < xs.length) (h1 : xs.length ≤ 100) :
  Calls Tryz.prog 16 #[.pointer (some ⟨cb,0,none⟩),.slice (some ⟨W.heap.size,0,none⟩) k k] (W.alloc (.cells cells 9)) fun e w' => ∃ t : ByteArray,e = .returned (.string t) ∧ t.size ≤ z ∧ St w0 gb cb L m w' ∧ Kept W w' (One cb):=by
 subst hx hk;exact Zhu hL hs hz h0 h1
theorem Ze7 (hL : L.length ≤ 140737488351232) (hs : St w0 gb cb L m w) {z k b : Nat} {xs : List ByteArray} (hC : Kd.C Kd.string w (some ⟨b,0,none⟩) k xs) (hf : ¬ Two gb cb b) (hz : ∀ t ∈ xs,t.size ≤ z) (h0 : 0 < xs.length) :
  Calls Tryz.prog 16 #[.pointer (some ⟨cb,0,none⟩),.slice (some ⟨b,0,none⟩) k k] w fun e w' => ∃ t : ByteArray,e = .returned (.string t) ∧ t.size ≤ z ∧ St w0 gb cb L m w' ∧ Kept w w' (One cb):=by
 obtain rfl:=Kd.C_len hC;exact Ze6 hL hs hz h0 hC (Nat.le_refl _) (fun ad e _ => by cases e;exact hf)
theorem Zeo {b k : Nat} {xs : List ByteArray} (hC : Kd.C Kd.string W (some ⟨b,0,none⟩) k xs) (hk : Kept W W1 (Two gb cb)) (hf : ¬ Two gb cb b) : Kd.C Kd.string W1 (some ⟨b,0,none⟩) k xs:=by
 obtain rfl:=Kd.C_len hC;exact Zec hC hk (fun ad e _ => by cases e;exact hf)
theorem ZeS {P : Program} {ops : Array Oper} {Q : Exit → Act → World → Prop} {rest : List Oper} {o : Oper} {a : Act} (hs : St w0 gb cb L m W) (hgd : o.guard = none) {N : Tmp} (_hd : o.dst = some N) (xs : List ByteArray) (hm : xs.length ≤ 100)
  (hrun : (execOp a.eval o).run P W = .ok (.value (.slice (some ⟨W.heap.size,0,none⟩) xs.length xs.length)) (W.alloc (.cells (xs.map Value.string).toArray 9)))
  (h : ∀ b w1,Kd.C Kd.string w1 (some ⟨b,0,none⟩) xs.length xs → ¬ Two gb cb b → St w0 gb cb L m w1 → Kept W w1 (One cb) → (∀ g i,W.cell? ⟨g,i,none⟩ ≠ none → w1.cell? ⟨g,i,none⟩ = W.cell? ⟨g,i,none⟩) → wpList P ops Q rest (a.put o.dst (.slice (some ⟨b,0,none⟩) xs.length xs.length)) w1) : wpList P ops Q (o :: rest) a W:=by
 have hb:=Zag (Below.refl _ W) (.cells (xs.map Value.string).toArray 9);refine Kd.ZdK hgd hrun (h _ _ (Zd7 xs hm) (ZcV hs) (hs.below hb) (Kept.ZdW hb _) (fun g i hne => ?_))
 cases hc : W.cell? ⟨g,i,none⟩ with
 | none => exact absurd hc hne
 | some v => rw [← hc];exact hb.cell (World.block_lt_of_cell? W _ hc)
theorem Zfg {P : Program} {ops : Array Oper} {Q : Exit → Act → World → Prop} {rest : List Oper} {o : Oper} {a : Act} (hgd : o.guard = none) {N : Tmp} (_hd : o.dst = some N) (xs : List ByteArray) (hm : xs.length ≤ 100)
  (hrun : (execOp a.eval o).run P W = .ok (.value (.slice (some ⟨W.heap.size,0,none⟩) xs.length xs.length)) (W.alloc (.cells (xs.map Value.string).toArray 9)))
  (h : ∀ b w1,Kd.C Kd.string w1 (some ⟨b,0,none⟩) xs.length xs → Below W.heap.size W w1 → wpList P ops Q rest (a.put o.dst (.slice (some ⟨b,0,none⟩) xs.length xs.length)) w1) : wpList P ops Q (o :: rest) a W :=
 Kd.ZdK hgd hrun (h _ _ (Zd7 xs hm) (Zag (Below.refl _ W) _))
theorem Zdl {ok : Nat → Prop} (hs : St w0 gb cb L m w) (hB : Below w.heap.size w W) (hR : Kd.R Kd.string 9 W w.heap.size ok (.slice A l.length c) l) (hn : l.length ≤ n) (hz : ∀ t ∈ l,t.size ≤ 30) :
  St w0 gb cb L n (W.setCell ⟨gb,1,none⟩ (.slice A l.length c)) ∧ Kept w (W.setCell ⟨gb,1,none⟩ (.slice A l.length c)) (Two gb cb):=by
 have hge:=hs.ge;obtain ⟨_,h1,h2⟩:=Kd.ZaP hR
 obtain ⟨h3,h4⟩:=(hs.below hB).names h2 h1 hn hz (fun ad e _ h => by
  subst e;rcases Kd.ZnN hR with h5 | ⟨k,h5,h6⟩
  ·simp [Value.ownBlock] at h5
  ·have h7 : ad.block = k:=by simpa [Value.ownBlock] using h5
   rcases h with h | h <;> omega)
 exact ⟨h3,two_ (Kept.ZdW hB _) h4⟩
theorem Zi7 {v : Value} {base : Nat} {ok : Nat → Prop} (hR : Kd.R Kd.string 9 W base ok v l) (hB : Below W.heap.size W W1) : Kd.R Kd.string 9 W1 base ok v l:=Kd.ZnM hR (fun k _ hlt => hB.block k hlt)
theorem Zff {P : Program} {ops : Array Oper} {Q : Exit → Act → World → Prop} {o : Oper} {a : Act} {Kc : Act → World → Prop} (hw : Region.wanted o (yielded ops a.tmps) = true) (xs : List ByteArray) (hm : xs.length ≤ 100)
  (hrun : (execOp a.eval o).run P W = .ok (.value (.slice (some ⟨W.heap.size,0,none⟩) xs.length xs.length)) (W.alloc (.cells (xs.map Value.string).toArray 9)))
  (h : ∀ b w1,b < w1.heap.size → W.heap.size ≤ b → Kd.C Kd.string w1 (some ⟨b,0,none⟩) xs.length xs → Below W.heap.size W w1 → Kc (a.put o.dst (.slice (some ⟨b,0,none⟩) xs.length xs.length)) w1) : if Region.wanted o (yielded ops a.tmps) = true then Oper.wp P o a W Kc Q else Kc (a.put o.dst undef) W :=
 Zha hw hrun (h _ _ (Zd9 (Zer W _)) (Nat.le_refl _) (Zd7 xs hm) (Zag (Below.refl _ W) _))
theorem Zj2 {k b : Nat} {row : Option Nat} (hC : Kd.C Kd.string W (some ⟨b,0,none⟩) k l) (hg : W.grownBy W1 row) (hne : row ≠ some b) : Kd.C Kd.string W1 (some ⟨b,0,none⟩) k l:=by
 obtain rfl:=Kd.C_len hC;have h' : Zdt Value.string ByteArray.empty W (some ⟨b,0,none⟩) l.length l:=Kd.Zc0 hC;refine Kd.Zd0 (d:=ByteArray.empty) ⟨h'.1,h'.2.1,fun hn => ?_⟩;obtain ⟨ad,e,hc⟩:=h'.2.2 hn;cases e;refine ⟨_,rfl,fun j hj => ?_⟩;have h1:=hc j hj;have h2:=hg.block _ (World.block_lt_of_cell? _ _ h1) (by rw [Zc5];exact fun h => hne h.symm)
 simpa [World.cell?,h2] using h1
end
section
variable {w0 w : World} {gb cb m : Nat} {L : List Int}
set_option maxHeartbeats 4000000 in
set_option maxRecDepth 100000 in
theorem ZgK (hL : L.length ≤ 140737488351232) (hs : St w0 gb cb L m w) :
  Calls Tryz.prog 39 #[.pointer (some ⟨gb,0,none⟩)] w fun e w' => ∃ t : ByteArray,e = .returned (.string t) ∧ t.size ≤ 30 ∧ St w0 gb cb L m w' ∧ Kept w w' (Two gb cb):=by
 obtain ⟨A,c,left,l,c0,c1,c2,f1,f2,hC,hc,hm,hz,hf⟩:=hs.cells;by_cases hl : l.length = 0
 ·(have hl' : ((l.length : Int) == 0) = true:=by rw [hl];rfl);go_enter Tryz.func39,Tryz.ntmps39;have hs0:=hs
  go_wp2_with (first
   | ((with_reducible refine Zay (N:=20) rfl ?_);refine ZeS hs0 ?hg (N:=20) ?hd [⟨#[120]⟩,⟨#[121]⟩,⟨#[110,111,110,101]⟩] (by decide) ?hr ?_;(case hd => rfl);(case hg => rfl);(case hr => first | (go_simp;done) | (go_simp;rfl));intro b w1 hC1 hf1 hs1 hk1 hx1)
   | (go_at_call 16;refine (Ze6 (z:=30) hL hs1 (by decide) (by decide) hC1 (Nat.le_refl _) (fun ad e _ => by cases e;exact hf1)).mono ?_;rintro e w2 ⟨t,rfl,ht,hs2,hk2⟩))
  go_ret;exact ⟨t,rfl,ht,hs2,two_ (to2 hk1) (to2 hk2)⟩
 ·(have hl' : ((l.length : Int) == 0) = false:=by rw [beq_eq_false_iff_ne];omega);go_enter Tryz.func39,Tryz.ntmps39
  go_upto_if 15 with (first
   | (go_at_call 17;refine (Zfa hL hs 30 (by decide)).mono ?_;rintro e w0' ⟨b0,rfl,hs0,hk0⟩;have c0':=stay hs hk0 c0;have c1':=stay hs hk0 c1))
  cases b0
  ·go_upto_region 3 with (fail);obtain ⟨ad,e0,hx0⟩:=rowC (ZlW hk0 hC hf) (by omega);cases e0;have hx0' : ∀ j : Int,0 ≤ j → j < (l.length : Int) → w0'.drew.cell? (ad.add j.toNat) = some (.string (rdOf ByteArray.empty l j)):=hx0
   go_region_held3 (fun w' => w'.cell? ⟨gb,0,none⟩ = some (.pointer (some ⟨cb,0,none⟩)) ∧ w'.cell? ⟨gb,1,none⟩ = some (.slice (some ad) l.length c) ∧ ∀ j : Int,0 ≤ j → j < (l.length : Int) → w'.cell? (ad.add j.toNat) = some (.string (rdOf ByteArray.empty l j)))
    (first | exact ⟨by assumption,by assumption,by assumption⟩ | go_keep)
    (first | (go_at_call 13;refine (Zci hL hs0.drew (l.length : Int) (by omega)).mono ?_;rintro e w2 ⟨v,rfl,hv,hs2,hk2⟩;have d0:=stay hs0.drew hk2 c0';have d1:=stay hs0.drew hk2 c1';have pv:=hv.1;have qv:=hv.2;have hx2 : ∀ j : Int,0 ≤ j → j < (l.length : Int) → w2.cell? (ad.add j.toNat) = some (.string (rdOf ByteArray.empty l j)):=(fun j h0 h1 => by obtain ⟨ad',e',hx⟩:=Kd.Zcs (ZlW hk2 (ZlW hk0 hC hf) hf) j h0 h1;cases e';exact hx)))
   go_wp2;go_ret;exact ⟨_,rfl,hz _ (rd_mem l v hv.1 hv.2),hs2,two_ (to2 hk0) (to2 hk2)⟩
  ·go_wp2_with (first
    | ((with_reducible refine Zay (N:=20) rfl ?_);refine ZeS hs0 ?hg (N:=20) ?hd [⟨#[120]⟩,⟨#[121]⟩,⟨#[110,111,110,101]⟩] (by decide) ?hr ?_;(case hd => rfl);(case hg => rfl);(case hr => first | (go_simp;done) | (go_simp;rfl));intro b w1 hC1 hf1 hs1 hk1 hx1)
    | (go_at_call 16;refine (Ze6 (z:=30) hL hs1 (by decide) (by decide) hC1 (Nat.le_refl _) (fun ad e _ => by cases e;exact hf1)).mono ?_;rintro e w2 ⟨t,rfl,ht,hs2,hk2⟩))
   go_ret;exact ⟨t,rfl,ht,hs2,two_ (to2 hk0) (two_ (to2 hk1) (to2 hk2))⟩
set_option maxHeartbeats 4000000 in
set_option maxRecDepth 100000 in
theorem ZdY (hL : L.length ≤ 140737488351232) (hm0 : m ≤ 10000000) (hs : St w0 gb cb L m w) :
  Calls Tryz.prog 37 #[.pointer (some ⟨gb,0,none⟩)] w fun e w' => ∃ t : ByteArray,e = .returned (.string t) ∧ t.size ≤ 30 ∧ St w0 gb cb L m w' ∧ Kept w w' (Two gb cb):=by
 obtain ⟨A,c,left,l,c0,c1,c2,f1,f2,hC,hc,hm,hz,hf⟩:=hs.cells;go_enter Tryz.func37,Tryz.ntmps37
 go_upto_region 2 with (first
   | ((with_reducible refine Zay (N:=8) rfl ?_);refine ZeS hs ?hg (N:=8) ?hd [⟨#[97]⟩,⟨#[98]⟩,⟨#[99]⟩,⟨#[100]⟩,⟨#[101]⟩,⟨#[102]⟩,⟨#[103]⟩] (by decide) ?hr ?_;(case hd => rfl);(case hg => rfl);(case hr => first | (go_simp;done) | (go_simp;rfl));intro b w1 hC1 hf1 hs1 hk1 hx1)
   | (go_at_call 16;refine (Ze6 (z:=1) hL hs1 (by decide) (by decide) hC1 (Nat.le_refl _) (fun ad e _ => by cases e;exact hf1)).mono ?_;rintro e w2 ⟨t,rfl,ht,hs2,hk2⟩))
 have d0:=stay hs1 hk2 (stay hs hk1 c0);have d1:=stay hs1 hk2 (stay hs hk1 c1);have hC2:=ZlW hk2 (ZlW hk1 hC hf) hf;obtain ⟨r,k,hr⟩:=in_any l t (by omega);cases r
 ·go_wp2_with (first
   | (go_at_call 29;refine (Za0.calls k A c l t false _ hC2 hc hr).mono ?_;rintro e w' ⟨rfl,⟨nd,rfl⟩⟩))
  go_ret;exact ⟨t,rfl,by omega,hs2.drewN nd,two_ (to2 hk1) (to2 hk2)⟩
 ·go_upto_if 23 with (first
   | (go_at_call 29;refine (Za0.calls k A c l t true _ hC2 hc hr).mono ?_;rintro e w' ⟨rfl,⟨nd,rfl⟩⟩)
   | (go_at_call 17;refine (Zfa hL (hs2.drewN nd) 12 (by decide)).mono ?_;rintro e w3 ⟨b0,rfl,hs3,hk3⟩;have e0:=stay (hs2.drewN nd) hk3 d0;have e1:=stay (hs2.drewN nd) hk3 d1))
  cases b0
  ·have hz2 : ∀ x : ByteArray,x.size ≤ 20 → ¬ 9223372036854775807 < t.size + x.size:=fun x hx => by omega
   go_wp2_with (first
    | (go_at_call 41;refine (Zpd hs3 (l.length : Int) (by omega) (by omega)).mono ?_;rintro e w4 ⟨x,rfl,hx,hs4,hk4⟩;have hz3:=hz2 x hx))
   go_ret;exact ⟨_,rfl,by rw [ByteArray.size_append];omega,hs4,two_ (to2 hk1) (two_ (to2 hk2) (two_ (to2 hk3) hk4))⟩
  ·go_wp2;go_ret;exact ⟨t,rfl,by omega,hs3,two_ (to2 hk1) (two_ (to2 hk2) (to2 hk3))⟩
end
set_option linter.unusedSimpArgs false
set_option linter.unusedVariables false
def top (d : Nat) : Nat:=1000 * 100 ^ d
theorem Zda (d : Nat) : top (d + 1) = 100 * top d:=by unfold top;rw [Nat.pow_succ];omega
theorem ZcG (d : Nat) : 1000 ≤ top d:=by unfold top;have:=Nat.pow_pos (n:=d) (show 0 < 100 by decide);omega
theorem ZgN (d : Nat) (h : d ≤ 3) : top d ≤ 1000000000:=by
 rcases (by omega : d = 0 ∨ d = 1 ∨ d = 2 ∨ d = 3) with rfl | rfl | rfl | rfl <;> decide
def Zeb (w0 : World) (gb cb : Nat) (L : List Int) (d : Nat) : Prop := ∀ (m : Nat) (w : World),m + 20 * d ≤ 1000000 → St w0 gb cb L m w →
 Calls Tryz.prog 38 #[.pointer (some ⟨gb,0,none⟩),.int .i64 (d : Int)] w fun e w' => ∃ t : ByteArray,e = .returned (.string t) ∧ t.size ≤ top d ∧ St w0 gb cb L m w' ∧ Kept w w' (Two gb cb)
def ZlA (w0 : World) (gb cb : Nat) (L : List Int) (d : Nat) : Prop := ∀ (m : Nat) (w : World),m + 20 * d + 15 ≤ 1000000 → St w0 gb cb L m w →
 Calls Tryz.prog 42 #[.pointer (some ⟨gb,0,none⟩),.int .i64 (d : Int)] w fun e w' => ∃ t : ByteArray,e = .returned (.string t) ∧ t.size ≤ 7 * top d ∧ 4 ≤ t.size ∧ St w0 gb cb L m w' ∧ Kept w w' (Two gb cb)
def Zfk (w0 : World) (gb cb : Nat) (L : List Int) (d : Nat) : Prop := ∀ (m : Nat) (w : World),m + 20 * d + 13 ≤ 1000000 → St w0 gb cb L m w →
 Calls Tryz.prog 40 #[.pointer (some ⟨gb,0,none⟩),.int .i64 (d : Int)] w fun e w' => ∃ t : ByteArray,e = .returned (.string t) ∧ t.size ≤ 6 * top d ∧ St w0 gb cb L m w' ∧ Kept w w' (Two gb cb)
def Zhf (w0 : World) (gb cb : Nat) (L : List Int) (d : Nat) : Prop := ∀ (m : Nat) (i : Int) (w : World),m + 20 * d + 5 ≤ 1000000 → St w0 gb cb L m w →
 Calls Tryz.prog 14 #[.pointer (some ⟨gb,0,none⟩),.int .i64 (d : Int),.int .i64 i] w fun e w' => ∃ t : ByteArray,e = .returned (.string t) ∧ t.size ≤ 2 * top d ∧ St w0 gb cb L (m + d + 1) w' ∧ Kept w w' (Two gb cb)
theorem ZdR {a b : Nat} (h : a ≤ b) : top a ≤ top b:=by unfold top;exact Nat.mul_le_mul_left _ (Nat.pow_le_pow_right (by decide) h)
section
variable {w0 w : World} {gb cb m d : Nat} {L : List Int}
theorem Zeb.at_ (h : Zeb w0 gb cb L d) (x : Int) (m : Nat) (w : World) (hx : x = (d : Int)) (hm : m + 20 * d ≤ 1000000) (hs : St w0 gb cb L m w) :
  Calls Tryz.prog 38 #[.pointer (some ⟨gb,0,none⟩),.int .i64 x] w fun e w' => ∃ t : ByteArray,e = .returned (.string t) ∧ t.size ≤ top d ∧ St w0 gb cb L m w' ∧ Kept w w' (Two gb cb):=by subst hx;exact h m w hm hs
theorem ZlA.at_ (h : ZlA w0 gb cb L d) (x : Int) (m : Nat) (w : World) (hx : x = (d : Int)) (hm : m + 20 * d + 15 ≤ 1000000) (hs : St w0 gb cb L m w) :
  Calls Tryz.prog 42 #[.pointer (some ⟨gb,0,none⟩),.int .i64 x] w fun e w' => ∃ t : ByteArray,e = .returned (.string t) ∧ t.size ≤ 7 * top d ∧ 4 ≤ t.size ∧ St w0 gb cb L m w' ∧ Kept w w' (Two gb cb):=by subst hx;exact h m w hm hs
theorem Zfk.at_ (h : Zfk w0 gb cb L d) (x : Int) (m : Nat) (w : World) (hx : x = (d : Int)) (hm : m + 20 * d + 13 ≤ 1000000) (hs : St w0 gb cb L m w) :
  Calls Tryz.prog 40 #[.pointer (some ⟨gb,0,none⟩),.int .i64 x] w fun e w' => ∃ t : ByteArray,e = .returned (.string t) ∧ t.size ≤ 6 * top d ∧ St w0 gb cb L m w' ∧ Kept w w' (Two gb cb):=by subst hx;exact h m w hm hs
theorem Zhf.at_ (h : Zhf w0 gb cb L d) (x : Int) (m : Nat) (i : Int) (w : World) (hx : x = (d : Int)) (hm : m + 20 * d + 5 ≤ 1000000) (hs : St w0 gb cb L m w) :
  Calls Tryz.prog 14 #[.pointer (some ⟨gb,0,none⟩),.int .i64 x,.int .i64 i] w fun e w' => ∃ t : ByteArray,e = .returned (.string t) ∧ t.size ≤ 2 * top d ∧ St w0 gb cb L (m + d + 1) w' ∧ Kept w w' (Two gb cb):=by subst hx;exact h m i w hm hs
end
theorem Zg3 : ∀ t1 : ByteArray,t1.size ≤ 30 → ∀ t2 : ByteArray,t2.size ≤ 30 → ∀ t3 : ByteArray,t3.size ≤ 30 → ∀ t ∈ [⟨#[49]⟩,⟨#[50]⟩,⟨#[48,46,53]⟩,⟨#[55]⟩,⟨#[34,97,34]⟩,⟨#[116,114,117,101]⟩,⟨#[110,111,110,101]⟩,t1,t2,t3],t.size ≤ 30:=by
 intro t1 h1 t2 h2 t3 h3 t ht;simp only [List.mem_cons,List.not_mem_nil,or_false] at ht;rcases ht with rfl | rfl | rfl | rfl | rfl | rfl | rfl | rfl | rfl | rfl <;> first | assumption | decide
theorem ZdX {i P a b c : Nat} (h : a ≤ c + i * P) (hb : b ≤ a + P) : b ≤ c + (i + 1) * P:=by rw [Nat.succ_mul];omega
section
variable {w0 w : World} {gb cb m : Nat} {L : List Int}
set_option maxHeartbeats 4000000 in
set_option maxRecDepth 100000 in
theorem ZiQ (hL : L.length ≤ 140737488351232) (d : Nat) (hd : d ≤ 3) (hE0 : d ≠ 0 → Zeb w0 gb cb L 0) (hE : ∀ d',d = d' + 1 → Zeb w0 gb cb L d' ∧ ZlA w0 gb cb L d') : Zeb w0 gb cb L d:=by
 intro m w hm hs;obtain ⟨A,c,left,l,c0,c1,c2,f1,f2,hC,hc,hm',hz,hf⟩:=hs.cells;obtain ⟨D,hD⟩ : ∃ D : Int,D = (d : Int):=⟨_,rfl⟩;rw [← hD];have HD:=Zaa.mk hD;clear hD;have hT0:=ZcG d;have hT1:=ZgN d hd;go_enter Tryz.func38,Tryz.ntmps38;go_upto_region 2 with (fail);obtain ⟨hs1,hk1⟩:=hs.left (wrap64 (left - 1));generalize w.setCell ⟨gb,2,none⟩ (.int .i64 (wrap64 (left - 1))) = w1 at hs1 hk1 ⊢;clear c0 c1 c2 f1 f2 hC hc hm' hz hf;obtain ⟨A,c,left1,l,c0,c1,c2,f1,f2,hC,hc,hm',hz,hf⟩:=hs1.cells;by_cases q0 : D ≤ 0
 ·have q0b : decide (D ≤ 0) = true:=decide_eq_true q0;go_upto_region 3 with (fail);have HK:=hk1;have HS:=hs1;have c0:=HS.c0;have hh:=Zg3
  go_region_held3 (fun w' => w'.cell? ⟨gb,0,none⟩ = some (.pointer (some ⟨cb,0,none⟩))) (first | assumption | go_keep)
   (first
    | (go_at_call 39;refine (ZgK hL (by first | exact HS | exact HS.drew | exact HS.alloc _ | exact HS.drew.alloc _ | exact (HS.alloc _).drew)).mono ?_;rintro e wn ⟨tv,rfl,htv,hsn,hkn⟩;have hh:=hh tv htv;have HK:=two_ (by first | exact HK | exact Kept.alloc HK _ | exact Kept.alloc (Kept.drew HK) _ | exact Kept.drew (Kept.alloc HK _)) hkn;have HS:=hsn;have c0:=HS.c0)
    | (go_at_call 16;refine (Zhu hL HS hh (Nat.succ_pos _) (Nat.le_of_ble_eq_true rfl)).mono ?_;rintro e wn ⟨tp,rfl,htp,hsn,hkn⟩;have HK:=two_ (by first | exact HK | exact Kept.alloc HK _ | exact Kept.alloc (Kept.drew HK) _ | exact Kept.drew (Kept.alloc HK _)) (to2 hkn);have HS:=hsn;have c0:=HS.c0))
  go_wp2;go_ret;exact ⟨tp,rfl,by omega,HS,HK⟩
 ·have q0b : decide (D ≤ 0) = false:=decide_eq_false q0;by_cases q1 : left1 ≤ 0
  ·have q1b : decide (left1 ≤ 0) = true:=decide_eq_true q1;go_upto_region 3 with (fail);have HK:=hk1;have HS:=hs1;have c0:=HS.c0;have hh:=Zg3
   go_region_held3 (fun w' => w'.cell? ⟨gb,0,none⟩ = some (.pointer (some ⟨cb,0,none⟩))) (first | assumption | go_keep)
    (first
     | (go_at_call 39;refine (ZgK hL (by first | exact HS | exact HS.drew | exact HS.alloc _ | exact HS.drew.alloc _ | exact (HS.alloc _).drew)).mono ?_;rintro e wn ⟨tv,rfl,htv,hsn,hkn⟩;have hh:=hh tv htv;have HK:=two_ (by first | exact HK | exact Kept.alloc HK _ | exact Kept.alloc (Kept.drew HK) _ | exact Kept.drew (Kept.alloc HK _)) hkn;have HS:=hsn;have c0:=HS.c0)
     | (go_at_call 16;refine (Zhu hL HS hh (Nat.succ_pos _) (Nat.le_of_ble_eq_true rfl)).mono ?_;rintro e wn ⟨tp,rfl,htp,hsn,hkn⟩;have HK:=two_ (by first | exact HK | exact Kept.alloc HK _ | exact Kept.alloc (Kept.drew HK) _ | exact Kept.drew (Kept.alloc HK _)) (to2 hkn);have HS:=hsn;have c0:=HS.c0))
   go_wp2;go_ret;exact ⟨tp,rfl,by omega,HS,HK⟩
  ·have q1b : decide (left1 ≤ 0) = false:=decide_eq_false q1;obtain ⟨d',rfl⟩ : ∃ d',d = d' + 1:=⟨d - 1,by have:=HD.out;omega⟩;have hE1:=(hE d' rfl).1;have hF1:=(hE d' rfl).2;have hE0:=hE0 (by omega);have htd:=Zda d';(have hmd : m + 20 * d' ≤ 1000000:=by omega);have htd':=ZcG d';(have hw : wrap64 (D - 1) = (d' : Int):=by have:=HD.out;rw [w64 (by omega) (by omega)];omega);have hw2 : IntKind.i64.wrap (D - 1) = (d' : Int):=(ZaU _).trans hw;have hT00 : top 0 = 1000:=rfl;(have hmf : m + 20 * d' + 15 ≤ 1000000:=by omega);have e0 : ∀ (m : Nat) (w : World),m ≤ 1000000 → St w0 gb cb L m w → Calls Tryz.prog 38 #[.pointer (some ⟨gb,0,none⟩),.int .i64 0] w fun e w' => ∃ t : ByteArray,e = .returned (.string t) ∧ t.size ≤ top 0 ∧ St w0 gb cb L m w' ∧ Kept w w' (Two gb cb):=fun m w h => hE0 m w (by omega)
   have e1 : ∀ (x : Int) (m : Nat) (w : World),x = (d' : Int) → m + 20 * d' ≤ 1000000 → St w0 gb cb L m w → Calls Tryz.prog 38 #[.pointer (some ⟨gb,0,none⟩),.int .i64 x] w fun e w' => ∃ t : ByteArray,e = .returned (.string t) ∧ t.size ≤ top d' ∧ St w0 gb cb L m w' ∧ Kept w w' (Two gb cb):=by
    rintro x m w rfl;exact hE1 m w
   have f1' : ∀ (x : Int) (m : Nat) (w : World),x = (d' : Int) → m + 20 * d' + 15 ≤ 1000000 → St w0 gb cb L m w → Calls Tryz.prog 42 #[.pointer (some ⟨gb,0,none⟩),.int .i64 x] w fun e w' => ∃ t : ByteArray,e = .returned (.string t) ∧ t.size ≤ 7 * top d' ∧ 4 ≤ t.size ∧ St w0 gb cb L m w' ∧ Kept w w' (Two gb cb):=by
    rintro x m w rfl;exact hF1 m w
   go_upto_region 5 with (first
    | (go_at_call 13;refine (Zci hL hs1 11 (by decide)).mono ?_;rintro e w2 ⟨v,rfl,hv,HS,hk2⟩;have HK:=two_ hk1 (to2 hk2)))
   have c0:=HS.c0;clear q0b q1b c1 c2 f1 f2 hC hc hm' hz hf hk1 hk2 hs hs1;rcases (by omega : v = 0 ∨ v = 1 ∨ v = 2 ∨ v = 3 ∨ v = 4 ∨ v = 5 ∨ v = 6 ∨ v = 7 ∨ v = 8 ∨ v = 9 ∨ v = 10) with rfl | rfl | rfl | rfl | rfl | rfl | rfl | rfl | rfl | rfl | rfl
   ·go_upto_region 8 with (fail);have hB : Kd.C Kd.string (w2.alloc (.cells #[.string ⟨#[43]⟩,.string ⟨#[45]⟩,.string ⟨#[42]⟩,.string ⟨#[47]⟩,.string ⟨#[37]⟩,.string ⟨#[43]⟩,.string ⟨#[45]⟩] 9)).drew (some ⟨w2.heap.size,0,none⟩) 7 [⟨#[43]⟩,⟨#[45]⟩,⟨#[42]⟩,⟨#[47]⟩,⟨#[37]⟩,⟨#[43]⟩,⟨#[45]⟩]:=Zd7 (W:=w2) [⟨#[43]⟩,⟨#[45]⟩,⟨#[42]⟩,⟨#[47]⟩,⟨#[37]⟩,⟨#[43]⟩,⟨#[45]⟩] (by decide);have hfar:=ZcV HS
    go_region_held3 (fun w' => w'.cell? ⟨gb,0,none⟩ = some (.pointer (some ⟨cb,0,none⟩))) (first | assumption | go_keep)
     (first
      | (go_at_call 38;have hq:=htp;(with_reducible refine (e1 _ m _ (by first | rfl | exact hw | exact hw2) hmd (by first | exact HS | exact HS.drew | exact HS.alloc _ | exact HS.drew.alloc _ | exact (HS.alloc _).drew)).mono ?_);rintro e wn ⟨t2,rfl,ht2,hsn,hkn⟩;have HK:=two_ (by first | exact HK | exact Kept.alloc HK _ | exact Kept.alloc (Kept.drew HK) _ | exact Kept.drew (Kept.alloc HK _)) hkn;have HS:=hsn;have c0:=HS.c0;have s2 : ¬ 9223372036854775807 < t1.size + tp.size + t2.size:=(by omega);have s2j : ¬ 9223372036854775807 < (t1 ++ tp).size + t2.size:=(by simp only [ByteArray.size_append];omega))
      | (go_at_call 38;(with_reducible refine (e1 _ m _ (by first | rfl | exact hw | exact hw2) hmd (by first | exact HS | exact HS.drew | exact HS.alloc _ | exact HS.drew.alloc _ | exact (HS.alloc _).drew)).mono ?_);rintro e wn ⟨t1,rfl,ht1,hsn,hkn⟩;(try (have hBw:=(by with_reducible exact Zeo hB hkn hfar)));have HK:=two_ (by first | exact HK | exact Kept.alloc HK _ | exact Kept.alloc (Kept.drew HK) _ | exact Kept.drew (Kept.alloc HK _)) hkn;have HS:=hsn;have c0:=HS.c0;skip)
      | (go_at_call 16;have hq:=hBw;(with_reducible refine (Ze7 (z:=1) hL HS hBw hfar ?c3 ?c4).mono ?_);(case c3 => decide);(case c4 => decide);rintro e wn ⟨tp,rfl,htp,hsn,hkn⟩;have HK:=two_ (by first | exact HK | exact Kept.alloc HK _ | exact Kept.alloc (Kept.drew HK) _ | exact Kept.drew (Kept.alloc HK _)) (to2 hkn);have HS:=hsn;have c0:=HS.c0;have s1 : ¬ 9223372036854775807 < t1.size + tp.size:=(by omega))
      | (go_at_call 16;(with_reducible refine (Zc2 (z:=1) hL HS [⟨#[43]⟩,⟨#[45]⟩,⟨#[42]⟩,⟨#[47]⟩,⟨#[37]⟩,⟨#[43]⟩,⟨#[45]⟩] ?c1 ?c2 ?c3 ?c4 ?c5).mono ?_);(case c1 => rfl);(case c2 => rfl);(case c3 => decide);(case c4 => decide);(case c5 => decide);rintro e wn ⟨tp,rfl,htp,hsn,hkn⟩;have HK:=two_ (by first | exact HK | exact Kept.alloc HK _ | exact Kept.alloc (Kept.drew HK) _ | exact Kept.drew (Kept.alloc HK _)) (to2 hkn);have HS:=hsn;have c0:=HS.c0;have s1 : ¬ 9223372036854775807 < t1.size + tp.size:=(by omega)))
    all_goals (go_wp2;go_ret;exact ⟨_,rfl,by simp only [ByteArray.size_append,Za4,List.size_toArray,List.length_cons,List.length_nil];omega,HS,HK⟩)
   ·go_upto_region 8 with (fail);have hB : Kd.C Kd.string (w2.alloc (.cells #[.string ⟨#[43]⟩,.string ⟨#[45]⟩,.string ⟨#[42]⟩,.string ⟨#[47]⟩,.string ⟨#[37]⟩,.string ⟨#[43]⟩,.string ⟨#[45]⟩] 9)).drew (some ⟨w2.heap.size,0,none⟩) 7 [⟨#[43]⟩,⟨#[45]⟩,⟨#[42]⟩,⟨#[47]⟩,⟨#[37]⟩,⟨#[43]⟩,⟨#[45]⟩]:=Zd7 (W:=w2) [⟨#[43]⟩,⟨#[45]⟩,⟨#[42]⟩,⟨#[47]⟩,⟨#[37]⟩,⟨#[43]⟩,⟨#[45]⟩] (by decide);have hfar:=ZcV HS
    go_region_held3 (fun w' => w'.cell? ⟨gb,0,none⟩ = some (.pointer (some ⟨cb,0,none⟩))) (first | assumption | go_keep)
     (first
      | (go_at_call 38;have hq:=htp;(with_reducible refine (e1 _ m _ (by first | rfl | exact hw | exact hw2) hmd (by first | exact HS | exact HS.drew | exact HS.alloc _ | exact HS.drew.alloc _ | exact (HS.alloc _).drew)).mono ?_);rintro e wn ⟨t2,rfl,ht2,hsn,hkn⟩;have HK:=two_ (by first | exact HK | exact Kept.alloc HK _ | exact Kept.alloc (Kept.drew HK) _ | exact Kept.drew (Kept.alloc HK _)) hkn;have HS:=hsn;have c0:=HS.c0;have s2 : ¬ 9223372036854775807 < t1.size + tp.size + t2.size:=(by omega);have s2j : ¬ 9223372036854775807 < (t1 ++ tp).size + t2.size:=(by simp only [ByteArray.size_append];omega))
      | (go_at_call 38;(with_reducible refine (e1 _ m _ (by first | rfl | exact hw | exact hw2) hmd (by first | exact HS | exact HS.drew | exact HS.alloc _ | exact HS.drew.alloc _ | exact (HS.alloc _).drew)).mono ?_);rintro e wn ⟨t1,rfl,ht1,hsn,hkn⟩;(try (have hBw:=(by with_reducible exact Zeo hB hkn hfar)));have HK:=two_ (by first | exact HK | exact Kept.alloc HK _ | exact Kept.alloc (Kept.drew HK) _ | exact Kept.drew (Kept.alloc HK _)) hkn;have HS:=hsn;have c0:=HS.c0;skip)
      | (go_at_call 16;have hq:=hBw;(with_reducible refine (Ze7 (z:=1) hL HS hBw hfar ?c3 ?c4).mono ?_);(case c3 => decide);(case c4 => decide);rintro e wn ⟨tp,rfl,htp,hsn,hkn⟩;have HK:=two_ (by first | exact HK | exact Kept.alloc HK _ | exact Kept.alloc (Kept.drew HK) _ | exact Kept.drew (Kept.alloc HK _)) (to2 hkn);have HS:=hsn;have c0:=HS.c0;have s1 : ¬ 9223372036854775807 < t1.size + tp.size:=(by omega))
      | (go_at_call 16;(with_reducible refine (Zc2 (z:=1) hL HS [⟨#[43]⟩,⟨#[45]⟩,⟨#[42]⟩,⟨#[47]⟩,⟨#[37]⟩,⟨#[43]⟩,⟨#[45]⟩] ?c1 ?c2 ?c3 ?c4 ?c5).mono ?_);(case c1 => rfl);(case c2 => rfl);(case c3 => decide);(case c4 => decide);(case c5 => decide);rintro e wn ⟨tp,rfl,htp,hsn,hkn⟩;have HK:=two_ (by first | exact HK | exact Kept.alloc HK _ | exact Kept.alloc (Kept.drew HK) _ | exact Kept.drew (Kept.alloc HK _)) (to2 hkn);have HS:=hsn;have c0:=HS.c0;have s1 : ¬ 9223372036854775807 < t1.size + tp.size:=(by omega)))
    all_goals (go_wp2;go_ret;exact ⟨_,rfl,by simp only [ByteArray.size_append,Za4,List.size_toArray,List.length_cons,List.length_nil];omega,HS,HK⟩)
   ·go_upto_region 8 with (fail);have hB : Kd.C Kd.string (w2.alloc (.cells #[.string ⟨#[43]⟩,.string ⟨#[45]⟩,.string ⟨#[42]⟩,.string ⟨#[47]⟩,.string ⟨#[37]⟩,.string ⟨#[43]⟩,.string ⟨#[45]⟩] 9)).drew (some ⟨w2.heap.size,0,none⟩) 7 [⟨#[43]⟩,⟨#[45]⟩,⟨#[42]⟩,⟨#[47]⟩,⟨#[37]⟩,⟨#[43]⟩,⟨#[45]⟩]:=Zd7 (W:=w2) [⟨#[43]⟩,⟨#[45]⟩,⟨#[42]⟩,⟨#[47]⟩,⟨#[37]⟩,⟨#[43]⟩,⟨#[45]⟩] (by decide);have hfar:=ZcV HS
    go_region_held3 (fun w' => w'.cell? ⟨gb,0,none⟩ = some (.pointer (some ⟨cb,0,none⟩))) (first | assumption | go_keep)
     (first
      | (go_at_call 38;have hq:=htp;(with_reducible refine (e1 _ m _ (by first | rfl | exact hw | exact hw2) hmd (by first | exact HS | exact HS.drew | exact HS.alloc _ | exact HS.drew.alloc _ | exact (HS.alloc _).drew)).mono ?_);rintro e wn ⟨t2,rfl,ht2,hsn,hkn⟩;have HK:=two_ (by first | exact HK | exact Kept.alloc HK _ | exact Kept.alloc (Kept.drew HK) _ | exact Kept.drew (Kept.alloc HK _)) hkn;have HS:=hsn;have c0:=HS.c0;have s2 : ¬ 9223372036854775807 < t1.size + tp.size + t2.size:=(by omega);have s2j : ¬ 9223372036854775807 < (t1 ++ tp).size + t2.size:=(by simp only [ByteArray.size_append];omega))
      | (go_at_call 38;(with_reducible refine (e1 _ m _ (by first | rfl | exact hw | exact hw2) hmd (by first | exact HS | exact HS.drew | exact HS.alloc _ | exact HS.drew.alloc _ | exact (HS.alloc _).drew)).mono ?_);rintro e wn ⟨t1,rfl,ht1,hsn,hkn⟩;(try (have hBw:=(by with_reducible exact Zeo hB hkn hfar)));have HK:=two_ (by first | exact HK | exact Kept.alloc HK _ | exact Kept.alloc (Kept.drew HK) _ | exact Kept.drew (Kept.alloc HK _)) hkn;have HS:=hsn;have c0:=HS.c0;skip)
      | (go_at_call 16;have hq:=hBw;(with_reducible refine (Ze7 (z:=1) hL HS hBw hfar ?c3 ?c4).mono ?_);(case c3 => decide);(case c4 => decide);rintro e wn ⟨tp,rfl,htp,hsn,hkn⟩;have HK:=two_ (by first | exact HK | exact Kept.alloc HK _ | exact Kept.alloc (Kept.drew HK) _ | exact Kept.drew (Kept.alloc HK _)) (to2 hkn);have HS:=hsn;have c0:=HS.c0;have s1 : ¬ 9223372036854775807 < t1.size + tp.size:=(by omega))
      | (go_at_call 16;(with_reducible refine (Zc2 (z:=1) hL HS [⟨#[43]⟩,⟨#[45]⟩,⟨#[42]⟩,⟨#[47]⟩,⟨#[37]⟩,⟨#[43]⟩,⟨#[45]⟩] ?c1 ?c2 ?c3 ?c4 ?c5).mono ?_);(case c1 => rfl);(case c2 => rfl);(case c3 => decide);(case c4 => decide);(case c5 => decide);rintro e wn ⟨tp,rfl,htp,hsn,hkn⟩;have HK:=two_ (by first | exact HK | exact Kept.alloc HK _ | exact Kept.alloc (Kept.drew HK) _ | exact Kept.drew (Kept.alloc HK _)) (to2 hkn);have HS:=hsn;have c0:=HS.c0;have s1 : ¬ 9223372036854775807 < t1.size + tp.size:=(by omega)))
    all_goals (go_wp2;go_ret;exact ⟨_,rfl,by simp only [ByteArray.size_append,Za4,List.size_toArray,List.length_cons,List.length_nil];omega,HS,HK⟩)
   ·go_upto_region 10 with (fail);have hB : Kd.C Kd.string (w2.alloc (.cells #[.string ⟨#[60]⟩,.string ⟨#[60,61]⟩,.string ⟨#[62]⟩,.string ⟨#[62,61]⟩,.string ⟨#[61,61]⟩,.string ⟨#[33,61]⟩] 9)).drew (some ⟨w2.heap.size,0,none⟩) 6 [⟨#[60]⟩,⟨#[60,61]⟩,⟨#[62]⟩,⟨#[62,61]⟩,⟨#[61,61]⟩,⟨#[33,61]⟩]:=Zd7 (W:=w2) [⟨#[60]⟩,⟨#[60,61]⟩,⟨#[62]⟩,⟨#[62,61]⟩,⟨#[61,61]⟩,⟨#[33,61]⟩] (by decide);have hfar:=ZcV HS
    go_region_held3 (fun w' => w'.cell? ⟨gb,0,none⟩ = some (.pointer (some ⟨cb,0,none⟩))) (first | assumption | go_keep)
     (first
      | (go_at_call 38;have hq:=htp;(with_reducible refine (e1 _ m _ (by first | rfl | exact hw | exact hw2) hmd (by first | exact HS | exact HS.drew | exact HS.alloc _ | exact HS.drew.alloc _ | exact (HS.alloc _).drew)).mono ?_);rintro e wn ⟨t2,rfl,ht2,hsn,hkn⟩;have HK:=two_ (by first | exact HK | exact Kept.alloc HK _ | exact Kept.alloc (Kept.drew HK) _ | exact Kept.drew (Kept.alloc HK _)) hkn;have HS:=hsn;have c0:=HS.c0;have s2 : ¬ 9223372036854775807 < t1.size + tp.size + t2.size:=(by omega);have s2j : ¬ 9223372036854775807 < (t1 ++ tp).size + t2.size:=(by simp only [ByteArray.size_append];omega))
      | (go_at_call 38;(with_reducible refine (e1 _ m _ (by first | rfl | exact hw | exact hw2) hmd (by first | exact HS | exact HS.drew | exact HS.alloc _ | exact HS.drew.alloc _ | exact (HS.alloc _).drew)).mono ?_);rintro e wn ⟨t1,rfl,ht1,hsn,hkn⟩;(try (have hBw:=(by with_reducible exact Zeo hB hkn hfar)));have HK:=two_ (by first | exact HK | exact Kept.alloc HK _ | exact Kept.alloc (Kept.drew HK) _ | exact Kept.drew (Kept.alloc HK _)) hkn;have HS:=hsn;have c0:=HS.c0;skip)
      | (go_at_call 16;have hq:=hBw;(with_reducible refine (Ze7 (z:=2) hL HS hBw hfar ?c3 ?c4).mono ?_);(case c3 => decide);(case c4 => decide);rintro e wn ⟨tp,rfl,htp,hsn,hkn⟩;have HK:=two_ (by first | exact HK | exact Kept.alloc HK _ | exact Kept.alloc (Kept.drew HK) _ | exact Kept.drew (Kept.alloc HK _)) (to2 hkn);have HS:=hsn;have c0:=HS.c0;have s1 : ¬ 9223372036854775807 < t1.size + tp.size:=(by omega))
      | (go_at_call 16;(with_reducible refine (Zc2 (z:=2) hL HS [⟨#[60]⟩,⟨#[60,61]⟩,⟨#[62]⟩,⟨#[62,61]⟩,⟨#[61,61]⟩,⟨#[33,61]⟩] ?c1 ?c2 ?c3 ?c4 ?c5).mono ?_);(case c1 => rfl);(case c2 => rfl);(case c3 => decide);(case c4 => decide);(case c5 => decide);rintro e wn ⟨tp,rfl,htp,hsn,hkn⟩;have HK:=two_ (by first | exact HK | exact Kept.alloc HK _ | exact Kept.alloc (Kept.drew HK) _ | exact Kept.drew (Kept.alloc HK _)) (to2 hkn);have HS:=hsn;have c0:=HS.c0;have s1 : ¬ 9223372036854775807 < t1.size + tp.size:=(by omega)))
    all_goals (go_wp2;go_ret;exact ⟨_,rfl,by simp only [ByteArray.size_append,Za4,List.size_toArray,List.length_cons,List.length_nil];omega,HS,HK⟩)
   ·go_upto_region 12 with (fail);have hB : Kd.C Kd.string (w2.alloc (.cells #[.string ⟨#[38,38]⟩,.string ⟨#[124,124]⟩] 9)).drew (some ⟨w2.heap.size,0,none⟩) 2 [⟨#[38,38]⟩,⟨#[124,124]⟩]:=Zd7 (W:=w2) [⟨#[38,38]⟩,⟨#[124,124]⟩] (by decide);have hfar:=ZcV HS
    go_region_held3 (fun w' => w'.cell? ⟨gb,0,none⟩ = some (.pointer (some ⟨cb,0,none⟩))) (first | assumption | go_keep)
     (first
      | (go_at_call 38;have hq:=htp;(with_reducible refine (e1 _ m _ (by first | rfl | exact hw | exact hw2) hmd (by first | exact HS | exact HS.drew | exact HS.alloc _ | exact HS.drew.alloc _ | exact (HS.alloc _).drew)).mono ?_);rintro e wn ⟨t2,rfl,ht2,hsn,hkn⟩;have HK:=two_ (by first | exact HK | exact Kept.alloc HK _ | exact Kept.alloc (Kept.drew HK) _ | exact Kept.drew (Kept.alloc HK _)) hkn;have HS:=hsn;have c0:=HS.c0;have s2 : ¬ 9223372036854775807 < 1 + t1.size + tp.size + t2.size:=(by omega);have s3 : ¬ 9223372036854775807 < 1 + t1.size + tp.size + t2.size + 1:=(by omega))
      | (go_at_call 38;(with_reducible refine (e1 _ m _ (by first | rfl | exact hw | exact hw2) hmd (by first | exact HS | exact HS.drew | exact HS.alloc _ | exact HS.drew.alloc _ | exact (HS.alloc _).drew)).mono ?_);rintro e wn ⟨t1,rfl,ht1,hsn,hkn⟩;(try (have hBw:=(by with_reducible exact Zeo hB hkn hfar)));have HK:=two_ (by first | exact HK | exact Kept.alloc HK _ | exact Kept.alloc (Kept.drew HK) _ | exact Kept.drew (Kept.alloc HK _)) hkn;have HS:=hsn;have c0:=HS.c0;have s0 : ¬ 9223372036854775807 < 1 + t1.size:=(by omega))
      | (go_at_call 16;have hq:=hBw;(with_reducible refine (Ze7 (z:=2) hL HS hBw hfar ?c3 ?c4).mono ?_);(case c3 => decide);(case c4 => decide);rintro e wn ⟨tp,rfl,htp,hsn,hkn⟩;have HK:=two_ (by first | exact HK | exact Kept.alloc HK _ | exact Kept.alloc (Kept.drew HK) _ | exact Kept.drew (Kept.alloc HK _)) (to2 hkn);have HS:=hsn;have c0:=HS.c0;have s1 : ¬ 9223372036854775807 < 1 + t1.size + tp.size:=(by omega))
      | (go_at_call 16;(with_reducible refine (Zc2 (z:=2) hL HS [⟨#[38,38]⟩,⟨#[124,124]⟩] ?c1 ?c2 ?c3 ?c4 ?c5).mono ?_);(case c1 => rfl);(case c2 => rfl);(case c3 => decide);(case c4 => decide);(case c5 => decide);rintro e wn ⟨tp,rfl,htp,hsn,hkn⟩;have HK:=two_ (by first | exact HK | exact Kept.alloc HK _ | exact Kept.alloc (Kept.drew HK) _ | exact Kept.drew (Kept.alloc HK _)) (to2 hkn);have HS:=hsn;have c0:=HS.c0;have s1 : ¬ 9223372036854775807 < 1 + t1.size + tp.size:=(by omega)))
    all_goals (go_wp2;go_ret;exact ⟨_,rfl,by simp only [ByteArray.size_append,Za4,List.size_toArray,List.length_cons,List.length_nil];omega,HS,HK⟩)
   ·go_wp2_with (first
     | ((with_reducible refine Zay (N:=105) rfl ?_);refine ZeS HS ?hg (N:=105) ?hd [⟨#[45]⟩,⟨#[33]⟩] (by decide) ?hr ?_;(case hd => rfl);(case hg => rfl);(case hr => first | (go_simp;done) | (go_simp;rfl));intro b wb hC1 hf1 hs1 hk1 hx1;have HK:=two_ HK (to2 hk1);have HS:=hs1;have c0:=HS.c0)
     | (go_at_call 16;refine (Ze6 (z:=1) hL HS (by decide) (by decide) hC1 (Nat.le_refl _) (fun ad e _ => by cases e;exact hf1)).mono ?_;rintro e wn ⟨tp,rfl,htp,hsn,hkn⟩;have HK:=two_ (by first | exact HK | exact Kept.alloc HK _ | exact Kept.alloc (Kept.drew HK) _ | exact Kept.drew (Kept.alloc HK _)) (to2 hkn);have HS:=hsn;have c0:=HS.c0;skip)
     | (go_at_call 38;refine (e0 m _ (by omega) HS).mono ?_;rintro e wn ⟨t0,rfl,ht0,hsn,hkn⟩;have HK:=two_ (by first | exact HK | exact Kept.alloc HK _ | exact Kept.alloc (Kept.drew HK) _ | exact Kept.drew (Kept.alloc HK _)) hkn;have HS:=hsn;have c0:=HS.c0;have s1 : ¬ 9223372036854775807 < tp.size + t0.size:=(by omega)))
    go_ret;exact ⟨_,rfl,by simp only [ByteArray.size_append,Za4,List.size_toArray,List.length_cons,List.length_nil];omega,HS,HK⟩
   ·go_wp2_with (first
     | (go_at_call 39;refine (ZgK hL HS).mono ?_;rintro e wn ⟨tv,rfl,htv,hsn,hkn⟩;have HK:=two_ (by first | exact HK | exact Kept.alloc HK _ | exact Kept.alloc (Kept.drew HK) _ | exact Kept.drew (Kept.alloc HK _)) hkn;have HS:=hsn;have c0:=HS.c0;have s1 : ¬ 9223372036854775807 < tv.size + 1:=(by omega)))
    go_loopg [5,6] 4 (fun kq v5 v6 w' => ∃ (s : ByteArray) (I : Int) (i : Nat),v5 = .string s ∧ v6 = .int .i64 I ∧ Zaa (I = (i : Int) ∧ i + kq = 4 ∧ i ≤ 2 ∧ s.size ≤ 31 + i * (top d' + 1)) ∧ Zaa (St w0 gb cb L m w') ∧ Zaa (Kept w w' (Two gb cb)))
    case atStart => exact ⟨_,0,0,rfl,rfl,⟨rfl,rfl,by omega,by simp only [ByteArray.size_append,Za4,List.size_toArray,List.length_cons,List.length_nil];omega⟩,⟨HS⟩,⟨HK⟩⟩
    case round =>
     obtain ⟨s,I,i,rfl,rfl,HI,HS,HK⟩:=hrel;have HS:=HS.out;have HK:=HK.out;have c0:=HS.c0
     go_upto_if 122 with (first
      | (go_at_call 13;refine (Zci hL HS 3 (by decide)).mono ?_;rintro e wn ⟨v,rfl,hv,hsn,hkn⟩;have HK:=two_ (by first | exact HK | exact Kept.alloc HK _ | exact Kept.alloc (Kept.drew HK) _ | exact Kept.drew (Kept.alloc HK _)) (to2 hkn);have HS:=hsn;have c0:=HS.c0))
     obtain ⟨z1,z2,z3,z4⟩:=HI.out;(have z5 : s.size ≤ 31 + 2 * (top d' + 1):=by have:=Nat.mul_le_mul_right (top d' + 1) z3;omega);clear HI;by_cases q2 : I < v
     ·have q2b : decide (I < v) = true:=decide_eq_true q2;(have z6 : wrap64 (I + 1) = ((i + 1 : Nat) : Int):=by rw [w64 (by omega) (by omega)];omega);(have z7 : i ≤ 1:=by omega);have Z:=Zaa.mk z1;clear z1;(have z8 : ¬ 9223372036854775807 < s.size + 1:=by omega);by_cases q3 : 0 < I
      ·have q3b : decide (0 < I) = true:=decide_eq_true q3
       go_wp2_with (first
        | (go_at_call 38;refine (e1 _ m _ (by first | rfl | exact hw | exact hw2) hmd HS).mono ?_;rintro e wn ⟨t0,rfl,ht0,hsn,hkn⟩;have HK:=two_ (by first | exact HK | exact Kept.alloc HK _ | exact Kept.alloc (Kept.drew HK) _ | exact Kept.drew (Kept.alloc HK _)) hkn;have HS:=hsn;have c0:=HS.c0;have s1 : ¬ 9223372036854775807 < s.size + 1 + t0.size:=(by omega)))
       go_roundg (gk - 1)
       case measure => omega
       case rel => exact ⟨_,_,i + 1,rfl,rfl,⟨by first | exact z6 | (have:=Z.out;omega),by omega,by omega,ZdX z4 (by simp only [ByteArray.size_append,Za4,List.size_toArray,List.length_cons,List.length_nil];omega)⟩,⟨HS⟩,⟨HK⟩⟩
      ·have q3b : decide (0 < I) = false:=decide_eq_false q3
       go_wp2_with (first
        | (go_at_call 38;refine (e1 _ m _ (by first | rfl | exact hw | exact hw2) hmd HS).mono ?_;rintro e wn ⟨t0,rfl,ht0,hsn,hkn⟩;have HK:=two_ (by first | exact HK | exact Kept.alloc HK _ | exact Kept.alloc (Kept.drew HK) _ | exact Kept.drew (Kept.alloc HK _)) hkn;have HS:=hsn;have c0:=HS.c0;have s1 : ¬ 9223372036854775807 < s.size + t0.size:=(by omega)))
       go_roundg (gk - 1)
       case measure => omega
       case rel => exact ⟨_,_,i + 1,rfl,rfl,⟨by first | exact z6 | (have:=Z.out;omega),by omega,by omega,ZdX z4 (by simp only [ByteArray.size_append];omega)⟩,⟨HS⟩,⟨HK⟩⟩
     ·have q2b : decide (I < v) = false:=decide_eq_false q2;(have z8 : ¬ 9223372036854775807 < s.size + 1:=by omega);clear z1 z2 z4;go_wp2;go_ret;exact ⟨_,rfl,by simp only [ByteArray.size_append,Za4,List.size_toArray,List.length_cons,List.length_nil];omega,HS,HK⟩
   ·go_wp2_with (first
     | (go_at_call 39;refine (ZgK hL HS).mono ?_;rintro e wn ⟨tv,rfl,htv,hsn,hkn⟩;have HK:=two_ (by first | exact HK | exact Kept.alloc HK _ | exact Kept.alloc (Kept.drew HK) _ | exact Kept.drew (Kept.alloc HK _)) hkn;have HS:=hsn;have c0:=HS.c0;have s1 : ¬ 9223372036854775807 < tv.size + 1:=(by omega)))
    go_loopg [5,6] 4 (fun kq v5 v6 w' => ∃ (s : ByteArray) (I : Int) (i : Nat),v5 = .string s ∧ v6 = .int .i64 I ∧ Zaa (I = (i : Int) ∧ i + kq = 4 ∧ i ≤ 2 ∧ s.size ≤ 31 + i * (top d' + 1)) ∧ Zaa (St w0 gb cb L m w') ∧ Zaa (Kept w w' (Two gb cb)))
    case atStart => exact ⟨_,0,0,rfl,rfl,⟨rfl,rfl,by omega,by simp only [ByteArray.size_append,Za4,List.size_toArray,List.length_cons,List.length_nil];omega⟩,⟨HS⟩,⟨HK⟩⟩
    case round =>
     obtain ⟨s,I,i,rfl,rfl,HI,HS,HK⟩:=hrel;have HS:=HS.out;have HK:=HK.out;have c0:=HS.c0
     go_upto_if 122 with (first
      | (go_at_call 13;refine (Zci hL HS 3 (by decide)).mono ?_;rintro e wn ⟨v,rfl,hv,hsn,hkn⟩;have HK:=two_ (by first | exact HK | exact Kept.alloc HK _ | exact Kept.alloc (Kept.drew HK) _ | exact Kept.drew (Kept.alloc HK _)) (to2 hkn);have HS:=hsn;have c0:=HS.c0))
     obtain ⟨z1,z2,z3,z4⟩:=HI.out;(have z5 : s.size ≤ 31 + 2 * (top d' + 1):=by have:=Nat.mul_le_mul_right (top d' + 1) z3;omega);clear HI;by_cases q2 : I < v
     ·have q2b : decide (I < v) = true:=decide_eq_true q2;(have z6 : wrap64 (I + 1) = ((i + 1 : Nat) : Int):=by rw [w64 (by omega) (by omega)];omega);(have z7 : i ≤ 1:=by omega);have Z:=Zaa.mk z1;clear z1;(have z8 : ¬ 9223372036854775807 < s.size + 1:=by omega);by_cases q3 : 0 < I
      ·have q3b : decide (0 < I) = true:=decide_eq_true q3
       go_wp2_with (first
        | (go_at_call 38;refine (e1 _ m _ (by first | rfl | exact hw | exact hw2) hmd HS).mono ?_;rintro e wn ⟨t0,rfl,ht0,hsn,hkn⟩;have HK:=two_ (by first | exact HK | exact Kept.alloc HK _ | exact Kept.alloc (Kept.drew HK) _ | exact Kept.drew (Kept.alloc HK _)) hkn;have HS:=hsn;have c0:=HS.c0;have s1 : ¬ 9223372036854775807 < s.size + 1 + t0.size:=(by omega)))
       go_roundg (gk - 1)
       case measure => omega
       case rel => exact ⟨_,_,i + 1,rfl,rfl,⟨by first | exact z6 | (have:=Z.out;omega),by omega,by omega,ZdX z4 (by simp only [ByteArray.size_append,Za4,List.size_toArray,List.length_cons,List.length_nil];omega)⟩,⟨HS⟩,⟨HK⟩⟩
      ·have q3b : decide (0 < I) = false:=decide_eq_false q3
       go_wp2_with (first
        | (go_at_call 38;refine (e1 _ m _ (by first | rfl | exact hw | exact hw2) hmd HS).mono ?_;rintro e wn ⟨t0,rfl,ht0,hsn,hkn⟩;have HK:=two_ (by first | exact HK | exact Kept.alloc HK _ | exact Kept.alloc (Kept.drew HK) _ | exact Kept.drew (Kept.alloc HK _)) hkn;have HS:=hsn;have c0:=HS.c0;have s1 : ¬ 9223372036854775807 < s.size + t0.size:=(by omega)))
       go_roundg (gk - 1)
       case measure => omega
       case rel => exact ⟨_,_,i + 1,rfl,rfl,⟨by first | exact z6 | (have:=Z.out;omega),by omega,by omega,ZdX z4 (by simp only [ByteArray.size_append];omega)⟩,⟨HS⟩,⟨HK⟩⟩
     ·have q2b : decide (I < v) = false:=decide_eq_false q2;(have z8 : ¬ 9223372036854775807 < s.size + 1:=by omega);clear z1 z2 z4;go_wp2;go_ret;exact ⟨_,rfl,by simp only [ByteArray.size_append,Za4,List.size_toArray,List.length_cons,List.length_nil];omega,HS,HK⟩
   ·go_wp2_with (first
     | (go_at_call 42;refine (f1' _ m _ (by first | rfl | exact hw | exact hw2) hmf HS).mono ?_;rintro e wn ⟨t0,rfl,ht0,hg0,hsn,hkn⟩;have HK:=two_ (by first | exact HK | exact Kept.alloc HK _ | exact Kept.alloc (Kept.drew HK) _ | exact Kept.drew (Kept.alloc HK _)) hkn;have HS:=hsn;have c0:=HS.c0))
    go_ret;exact ⟨_,rfl,by omega,HS,HK⟩
   ·go_wp2_with (first
     | (go_at_call 38;refine (e1 _ m _ (by first | rfl | exact hw | exact hw2) hmd HS).mono ?_;rintro e wn ⟨t0,rfl,ht0,hsn,hkn⟩;have HK:=two_ (by first | exact HK | exact Kept.alloc HK _ | exact Kept.alloc (Kept.drew HK) _ | exact Kept.drew (Kept.alloc HK _)) hkn;have HS:=hsn;have c0:=HS.c0;have s1 : ¬ 9223372036854775807 < 1 + t0.size:=(by omega);have s2 : ¬ 9223372036854775807 < 1 + t0.size + 1:=(by omega)))
    go_ret;exact ⟨_,rfl,by simp only [ByteArray.size_append,Za4,List.size_toArray,List.length_cons,List.length_nil];omega,HS,HK⟩
   ·go_wp2_with (first
     | (go_at_call 38;refine (e0 m _ (by omega) HS).mono ?_;rintro e wn ⟨t0,rfl,ht0,hsn,hkn⟩;have HK:=two_ (by first | exact HK | exact Kept.alloc HK _ | exact Kept.alloc (Kept.drew HK) _ | exact Kept.drew (Kept.alloc HK _)) hkn;have HS:=hsn;have c0:=HS.c0;skip))
    go_ret;exact ⟨_,rfl,by omega,HS,HK⟩
end
set_option linter.unusedSimpArgs false
set_option linter.unusedVariables false
section
variable {w0 w : World} {gb cb m : Nat} {L : List Int}
set_option maxHeartbeats 4000000 in
set_option maxRecDepth 100000 in
theorem Zic (hL : L.length ≤ 140737488351232) (d : Nat) (hd : d ≤ 3) (hE : Zeb w0 gb cb L d) (hE1 : d ≠ 0 → Zeb w0 gb cb L 1) (hlow : ∀ d',d = d' + 1 → Zfk w0 gb cb L d' ∧ Zhf w0 gb cb L d' ∧ ZlA w0 gb cb L d') : Zhf w0 gb cb L d:=by
 intro m at_ w hm hs;obtain ⟨A,c,left,l,c0,c1,c2,f1,f2,hC,hc,hm',hz,hf⟩:=hs.cells;obtain ⟨D,hD⟩ : ∃ D : Int,D = (d : Int):=⟨_,rfl⟩;rw [← hD];have HD:=Zaa.mk hD;clear hD;have hT0:=ZcG d;have hT1:=ZgN d hd;go_enter Tryz.func14,Tryz.ntmps14;go_upto_region 2 with (fail);obtain ⟨HS,HK⟩:=hs.left (wrap64 (left - 1));generalize w.setCell ⟨gb,2,none⟩ (.int .i64 (wrap64 (left - 1))) = w1 at HS HK ⊢;clear c0 c1 c2 f1 f2 hC hc hm' hz hf hs;have c0:=HS.c0;go_upto_region 3 with (first | (go_at_call 13;refine (Zci hL HS 14 (by decide)).mono ?_;rintro e wn ⟨v,rfl,hv,hsn,hkn⟩;have HK:=two_ HK (to2 hkn);have HS:=hsn;have c0:=HS.c0));go_cut [33] (fun v33 wc => ∃ B : Bool,v33 = .bool B ∧ Zaa (B = false → 0 < D ∨ v ≤ 6) ∧ Zaa (St w0 gb cb L m wc) ∧ Zaa (Kept w wc (Two gb cb)))
 case first =>
  by_cases q0 : D ≤ 0
  ·have q0b : decide (D ≤ 0) = true:=decide_eq_true q0;by_cases q1 : 6 < v
   ·have q1b : decide (6 < v) = true:=decide_eq_true q1;go_wp2;go_meet
    case rel => exact ⟨true,rfl,⟨fun h => by cases h⟩,⟨HS⟩,⟨HK⟩⟩
   ·have q1b : decide (6 < v) = false:=decide_eq_false q1;go_wp2;go_meet
    case rel => exact ⟨false,rfl,⟨fun _ => Or.inr (by omega)⟩,⟨HS⟩,⟨HK⟩⟩
  ·have q0b : decide (D ≤ 0) = false:=decide_eq_false q0;go_wp2;go_meet
   case rel => exact ⟨false,rfl,⟨fun _ => Or.inl (by omega)⟩,⟨HS⟩,⟨HK⟩⟩
 case rest =>
  obtain ⟨B,rfl,HB,HS,HK⟩:=hcut;have HS:=HS.out;have HK:=HK.out;have c0:=HS.c0;go_upto_if 33 with (fail);go_cut [7] (fun v7 wc => ∃ K : Int,v7 = .int .i64 K ∧ Zaa (0 ≤ K ∧ K < 14 ∧ (K ≤ 6 ∨ 0 < D)) ∧ Zaa (St w0 gb cb L m wc) ∧ Zaa (Kept w wc (Two gb cb)))
  case first =>
   cases B
   ·have:=HB.out rfl;go_wp2;go_meet
    case rel => exact ⟨v,rfl,⟨by omega⟩,⟨HS⟩,⟨HK⟩⟩
   ·go_wp2_with (first | (go_at_call 13;refine (Zci hL HS 5 (by decide)).mono ?_;rintro e wn ⟨v5,rfl,hv5,hsn,hkn⟩;have HK:=two_ HK (to2 hkn);have HS:=hsn;have c0:=HS.c0));go_meet
    case rel => exact ⟨v5,rfl,⟨by omega⟩,⟨HS⟩,⟨HK⟩⟩
  case rest =>
  obtain ⟨K,rfl,HB,HS,HK⟩:=hcut;have hK:=HB.out;have HS:=HS.out;have HK:=HK.out;have c0:=HS.c0;clear HB hv;rcases (by omega : K = 0 ∨ K = 1 ∨ K = 2 ∨ K = 3 ∨ K = 4 ∨ K = 5 ∨ K = 6 ∨ K = 7 ∨ K = 8 ∨ K = 9 ∨ K = 10 ∨ K = 11 ∨ K = 12 ∨ K = 13) with rfl | rfl | rfl | rfl | rfl | rfl | rfl | rfl | rfl | rfl | rfl | rfl | rfl | rfl
  ·go_upto_region 11 with (first
    | (go_at_call 37;refine (ZdY hL (by omega) HS).mono ?_;rintro e wn ⟨t1,rfl,ht1,hsn,hkn⟩;have HK:=two_ HK hkn;have HS:=hsn;have c0:=HS.c0;have s0_ : ¬ 9223372036854775807 < 4 + t1.size:=(by omega);have s1_ : ¬ 9223372036854775807 < 4 + t1.size + 1:=(by omega))
    | (go_at_call 38;refine (hE.at_ _ (m) _ (by first | exact HD.out | rfl) (by omega) HS).mono ?_;rintro e wn ⟨t2,rfl,ht2,hsn,hkn⟩;have HK:=two_ HK hkn;have HS:=hsn;have c0:=HS.c0;have s0_ : ¬ 9223372036854775807 < 4 + t1.size + 1 + t2.size:=(by omega);have s1_ : ¬ 9223372036854775807 < 4 + t1.size + 1 + t2.size + 1:=(by omega)))
   obtain ⟨A,c,left2,l,c0,c1,c2,f1,f2,hC,hc,hm',hz,hf⟩:=HS.cells;obtain ⟨l2,hl2⟩ : ∃ l2,l2 = l ++ [t1]:=⟨_,rfl⟩
   have hz2 : ∀ t ∈ l2,t.size ≤ 30:=by
    intro t ht;rw [hl2] at ht;rcases List.mem_append.1 ht with h | h
    ·exact hz t h
    ·rw [List.mem_singleton.1 h];exact ht1
   (have hn2 : l2.length ≤ m + 1:=by rw [hl2];simp;exact hm');have HL2:=Zaa.mk hl2;clear hl2
   go_upto_region 12 with (first
    | ((with_reducible refine Zay (N:=55) rfl ?_);refine Kd.Zck Kd.string (w0:=wn) wn.heap.size 9 ?hg (N:=55) ?hd (xs:=([] : List ByteArray)) (inner:=[]) (ok:=fun _ => True) (okp:=fun _ => True) ?hr (Reps.none _ _) (fun _ hk => hk) trivial (Below.refl _ _) (Nat.le_refl _) (by simp) ?_;(case hd => rfl);(case hg => rfl);(case hr => first | (go_simp;done) | (go_simp;rfl));intro v1 w4 HO1 HB1 hg_ hnew_;have c1:=(HB1.cell (World.block_lt_of_cell? _ _ c1)).trans c1;have hC:=Kd.ZbX hC HB1)
    | ((with_reducible refine Zay (N:=60) rfl ?_);refine Kd.ZbA Value.string ByteArray.empty (w0:=wn) wn.heap.size rfl (.tmp 55) (.tmp 59) 31 9 (.string ⟨#[]⟩) 16 rfl Tryz.underlying31 Zd3 rfl (by decide) v1 [] l A l.length c (fun _ => True) rfl rfl (fun _ _ => trivial) HO1 hC HB1 HB1.size (by simp;omega) ?_;intro v2 w5 HO2 HB2 hg2 hn3)
    | ((with_reducible refine Zay (N:=62) rfl ?_);refine Zfg ?hg (N:=62) ?hd [t1] (by simp) ?hr ?_;(case hd => rfl);(case hg => rfl);(case hr => first | (go_simp;done) | (go_simp;rfl));intro b w6 hC3 HB3;have HO2:=Zi7 HO2 HB3;have HB2:=ZbC HB2 HB2.size HB3)
    | ((with_reducible refine Zay (N:=63) rfl ?_);refine Kd.ZbA Value.string ByteArray.empty (w0:=wn) wn.heap.size rfl (.tmp 60) (.tmp 62) 31 9 (.string ⟨#[]⟩) 16 rfl Tryz.underlying31 Zd3 rfl (by decide) v2 ([] ++ l) [t1] (some ⟨b,0,none⟩) 1 1 (fun _ => True) rfl rfl (fun _ _ => trivial) HO2 hC3 HB2 HB2.size (by simp;omega) ?_;intro v4 w7 HO4 HB4 hg4 hn4;rw [List.nil_append,← HL2.out] at HO4;obtain ⟨A4,c4,rfl⟩:=Kd.Zbs HO4;have d1:=((HS.below HB4).cells);obtain ⟨_,_,_,_,_,d1,_,g1,_⟩:=d1))
   obtain ⟨hsn,hkn⟩:=Zdl HS HB4 HO4 hn2 hz2;generalize w7.setCell ⟨gb,1,none⟩ (.slice A4 l2.length c4) = wn at hsn hkn ⊢;clear c1 c2 f1 f2 hC hc hm' hz hf HO1 HB1 HO2 HB2 hC3 HB3 HO4 HB4 d1 g1 hz2 hn2;have HK:=two_ HK hkn;have HS:=hsn;have c0:=HS.c0;go_wp2;go_ret;exact ⟨_,rfl,by simp only [ByteArray.size_append,ByteArray.size_extract,Nat.min_self,Za4,List.size_toArray,List.length_cons,List.length_nil];omega,HS.more (by omega),HK⟩
  ·go_upto_region 11 with (first
    | (go_at_call 37;refine (ZdY hL (by omega) HS).mono ?_;rintro e wn ⟨t1,rfl,ht1,hsn,hkn⟩;have HK:=two_ HK hkn;have HS:=hsn;have c0:=HS.c0;have s0_ : ¬ 9223372036854775807 < 4 + t1.size:=(by omega);have s1_ : ¬ 9223372036854775807 < 4 + t1.size + 1:=(by omega))
    | (go_at_call 38;refine (hE.at_ _ (m) _ (by first | exact HD.out | rfl) (by omega) HS).mono ?_;rintro e wn ⟨t2,rfl,ht2,hsn,hkn⟩;have HK:=two_ HK hkn;have HS:=hsn;have c0:=HS.c0;have s0_ : ¬ 9223372036854775807 < 4 + t1.size + 1 + t2.size:=(by omega);have s1_ : ¬ 9223372036854775807 < 4 + t1.size + 1 + t2.size + 1:=(by omega)))
   obtain ⟨A,c,left2,l,c0,c1,c2,f1,f2,hC,hc,hm',hz,hf⟩:=HS.cells;obtain ⟨l2,hl2⟩ : ∃ l2,l2 = l ++ [t1]:=⟨_,rfl⟩
   have hz2 : ∀ t ∈ l2,t.size ≤ 30:=by
    intro t ht;rw [hl2] at ht;rcases List.mem_append.1 ht with h | h
    ·exact hz t h
    ·rw [List.mem_singleton.1 h];exact ht1
   (have hn2 : l2.length ≤ m + 1:=by rw [hl2];simp;exact hm');have HL2:=Zaa.mk hl2;clear hl2
   go_upto_region 12 with (first
    | ((with_reducible refine Zay (N:=55) rfl ?_);refine Kd.Zck Kd.string (w0:=wn) wn.heap.size 9 ?hg (N:=55) ?hd (xs:=([] : List ByteArray)) (inner:=[]) (ok:=fun _ => True) (okp:=fun _ => True) ?hr (Reps.none _ _) (fun _ hk => hk) trivial (Below.refl _ _) (Nat.le_refl _) (by simp) ?_;(case hd => rfl);(case hg => rfl);(case hr => first | (go_simp;done) | (go_simp;rfl));intro v1 w4 HO1 HB1 hg_ hnew_;have c1:=(HB1.cell (World.block_lt_of_cell? _ _ c1)).trans c1;have hC:=Kd.ZbX hC HB1)
    | ((with_reducible refine Zay (N:=60) rfl ?_);refine Kd.ZbA Value.string ByteArray.empty (w0:=wn) wn.heap.size rfl (.tmp 55) (.tmp 59) 31 9 (.string ⟨#[]⟩) 16 rfl Tryz.underlying31 Zd3 rfl (by decide) v1 [] l A l.length c (fun _ => True) rfl rfl (fun _ _ => trivial) HO1 hC HB1 HB1.size (by simp;omega) ?_;intro v2 w5 HO2 HB2 hg2 hn3)
    | ((with_reducible refine Zay (N:=62) rfl ?_);refine Zfg ?hg (N:=62) ?hd [t1] (by simp) ?hr ?_;(case hd => rfl);(case hg => rfl);(case hr => first | (go_simp;done) | (go_simp;rfl));intro b w6 hC3 HB3;have HO2:=Zi7 HO2 HB3;have HB2:=ZbC HB2 HB2.size HB3)
    | ((with_reducible refine Zay (N:=63) rfl ?_);refine Kd.ZbA Value.string ByteArray.empty (w0:=wn) wn.heap.size rfl (.tmp 60) (.tmp 62) 31 9 (.string ⟨#[]⟩) 16 rfl Tryz.underlying31 Zd3 rfl (by decide) v2 ([] ++ l) [t1] (some ⟨b,0,none⟩) 1 1 (fun _ => True) rfl rfl (fun _ _ => trivial) HO2 hC3 HB2 HB2.size (by simp;omega) ?_;intro v4 w7 HO4 HB4 hg4 hn4;rw [List.nil_append,← HL2.out] at HO4;obtain ⟨A4,c4,rfl⟩:=Kd.Zbs HO4;have d1:=((HS.below HB4).cells);obtain ⟨_,_,_,_,_,d1,_,g1,_⟩:=d1))
   obtain ⟨hsn,hkn⟩:=Zdl HS HB4 HO4 hn2 hz2;generalize w7.setCell ⟨gb,1,none⟩ (.slice A4 l2.length c4) = wn at hsn hkn ⊢;clear c1 c2 f1 f2 hC hc hm' hz hf HO1 HB1 HO2 HB2 hC3 HB3 HO4 HB4 d1 g1 hz2 hn2;have HK:=two_ HK hkn;have HS:=hsn;have c0:=HS.c0;go_wp2;go_ret;exact ⟨_,rfl,by simp only [ByteArray.size_append,ByteArray.size_extract,Nat.min_self,Za4,List.size_toArray,List.length_cons,List.length_nil];omega,HS.more (by omega),HK⟩
  ·go_upto_region 11 with (first
    | (go_at_call 37;refine (ZdY hL (by omega) HS).mono ?_;rintro e wn ⟨t1,rfl,ht1,hsn,hkn⟩;have HK:=two_ HK hkn;have HS:=hsn;have c0:=HS.c0;have s0_ : ¬ 9223372036854775807 < 4 + t1.size:=(by omega);have s1_ : ¬ 9223372036854775807 < 4 + t1.size + 1:=(by omega))
    | (go_at_call 38;refine (hE.at_ _ (m) _ (by first | exact HD.out | rfl) (by omega) HS).mono ?_;rintro e wn ⟨t2,rfl,ht2,hsn,hkn⟩;have HK:=two_ HK hkn;have HS:=hsn;have c0:=HS.c0;have s0_ : ¬ 9223372036854775807 < 4 + t1.size + 1 + t2.size:=(by omega);have s1_ : ¬ 9223372036854775807 < 4 + t1.size + 1 + t2.size + 1:=(by omega)))
   obtain ⟨A,c,left2,l,c0,c1,c2,f1,f2,hC,hc,hm',hz,hf⟩:=HS.cells;obtain ⟨l2,hl2⟩ : ∃ l2,l2 = l ++ [t1]:=⟨_,rfl⟩
   have hz2 : ∀ t ∈ l2,t.size ≤ 30:=by
    intro t ht;rw [hl2] at ht;rcases List.mem_append.1 ht with h | h
    ·exact hz t h
    ·rw [List.mem_singleton.1 h];exact ht1
   (have hn2 : l2.length ≤ m + 1:=by rw [hl2];simp;exact hm');have HL2:=Zaa.mk hl2;clear hl2
   go_upto_region 12 with (first
    | ((with_reducible refine Zay (N:=55) rfl ?_);refine Kd.Zck Kd.string (w0:=wn) wn.heap.size 9 ?hg (N:=55) ?hd (xs:=([] : List ByteArray)) (inner:=[]) (ok:=fun _ => True) (okp:=fun _ => True) ?hr (Reps.none _ _) (fun _ hk => hk) trivial (Below.refl _ _) (Nat.le_refl _) (by simp) ?_;(case hd => rfl);(case hg => rfl);(case hr => first | (go_simp;done) | (go_simp;rfl));intro v1 w4 HO1 HB1 hg_ hnew_;have c1:=(HB1.cell (World.block_lt_of_cell? _ _ c1)).trans c1;have hC:=Kd.ZbX hC HB1)
    | ((with_reducible refine Zay (N:=60) rfl ?_);refine Kd.ZbA Value.string ByteArray.empty (w0:=wn) wn.heap.size rfl (.tmp 55) (.tmp 59) 31 9 (.string ⟨#[]⟩) 16 rfl Tryz.underlying31 Zd3 rfl (by decide) v1 [] l A l.length c (fun _ => True) rfl rfl (fun _ _ => trivial) HO1 hC HB1 HB1.size (by simp;omega) ?_;intro v2 w5 HO2 HB2 hg2 hn3)
    | ((with_reducible refine Zay (N:=62) rfl ?_);refine Zfg ?hg (N:=62) ?hd [t1] (by simp) ?hr ?_;(case hd => rfl);(case hg => rfl);(case hr => first | (go_simp;done) | (go_simp;rfl));intro b w6 hC3 HB3;have HO2:=Zi7 HO2 HB3;have HB2:=ZbC HB2 HB2.size HB3)
    | ((with_reducible refine Zay (N:=63) rfl ?_);refine Kd.ZbA Value.string ByteArray.empty (w0:=wn) wn.heap.size rfl (.tmp 60) (.tmp 62) 31 9 (.string ⟨#[]⟩) 16 rfl Tryz.underlying31 Zd3 rfl (by decide) v2 ([] ++ l) [t1] (some ⟨b,0,none⟩) 1 1 (fun _ => True) rfl rfl (fun _ _ => trivial) HO2 hC3 HB2 HB2.size (by simp;omega) ?_;intro v4 w7 HO4 HB4 hg4 hn4;rw [List.nil_append,← HL2.out] at HO4;obtain ⟨A4,c4,rfl⟩:=Kd.Zbs HO4;have d1:=((HS.below HB4).cells);obtain ⟨_,_,_,_,_,d1,_,g1,_⟩:=d1))
   obtain ⟨hsn,hkn⟩:=Zdl HS HB4 HO4 hn2 hz2;generalize w7.setCell ⟨gb,1,none⟩ (.slice A4 l2.length c4) = wn at hsn hkn ⊢;clear c1 c2 f1 f2 hC hc hm' hz hf HO1 HB1 HO2 HB2 hC3 HB3 HO4 HB4 d1 g1 hz2 hn2;have HK:=two_ HK hkn;have HS:=hsn;have c0:=HS.c0;go_wp2;go_ret;exact ⟨_,rfl,by simp only [ByteArray.size_append,ByteArray.size_extract,Nat.min_self,Za4,List.size_toArray,List.length_cons,List.length_nil];omega,HS.more (by omega),HK⟩
  ·go_wp2_with (first
    | (go_at_call 38;refine (hE.at_ _ (m) _ (by first | exact HD.out | rfl) (by omega) HS).mono ?_;rintro e wn ⟨t1,rfl,ht1,hsn,hkn⟩;have HK:=two_ HK hkn;have HS:=hsn;have c0:=HS.c0;have s0_ : ¬ 9223372036854775807 < 6 + t1.size:=(by omega);have s1_ : ¬ 9223372036854775807 < 6 + t1.size + 1:=(by omega)))
   go_ret;exact ⟨_,rfl,by simp only [ByteArray.size_append,ByteArray.size_extract,Nat.min_self,Za4,List.size_toArray,List.length_cons,List.length_nil];omega,HS.more (by omega),HK⟩
  ·go_wp2_with (first
    | (go_at_call 38;refine (hE.at_ _ (m) _ (by first | exact HD.out | rfl) (by omega) HS).mono ?_;rintro e wn ⟨t1,rfl,ht1,hsn,hkn⟩;have HK:=two_ HK hkn;have HS:=hsn;have c0:=HS.c0;have s0_ : ¬ 9223372036854775807 < 6 + t1.size:=(by omega);have s1_ : ¬ 9223372036854775807 < 6 + t1.size + 1:=(by omega)))
   go_ret;exact ⟨_,rfl,by simp only [ByteArray.size_append,ByteArray.size_extract,Nat.min_self,Za4,List.size_toArray,List.length_cons,List.length_nil];omega,HS.more (by omega),HK⟩
  ·go_wp2_with (first
    | (go_at_call 39;refine (ZgK hL HS).mono ?_;rintro e wn ⟨t1,rfl,ht1,hsn,hkn⟩;have HK:=two_ HK hkn;have HS:=hsn;have c0:=HS.c0;have s0_ : ¬ 9223372036854775807 < t1.size + 1:=(by omega))
    | (go_at_call 38;refine (hE.at_ _ (m) _ (by first | exact HD.out | rfl) (by omega) HS).mono ?_;rintro e wn ⟨t2,rfl,ht2,hsn,hkn⟩;have HK:=two_ HK hkn;have HS:=hsn;have c0:=HS.c0;have s0_ : ¬ 9223372036854775807 < t1.size + 1 + t2.size:=(by omega);have s1_ : ¬ 9223372036854775807 < t1.size + 1 + t2.size + 1:=(by omega)))
   go_ret;exact ⟨_,rfl,by simp only [ByteArray.size_append,ByteArray.size_extract,Nat.min_self,Za4,List.size_toArray,List.length_cons,List.length_nil];omega,HS.more (by omega),HK⟩
  ·go_wp2_with (first
    | (go_at_call 39;refine (ZgK hL HS).mono ?_;rintro e wn ⟨t1,rfl,ht1,hsn,hkn⟩;have HK:=two_ HK hkn;have HS:=hsn;have c0:=HS.c0;have s0_ : ¬ 9223372036854775807 < t1.size + 1:=(by omega))
    | (go_at_call 38;refine (hE.at_ _ (m) _ (by first | exact HD.out | rfl) (by omega) HS).mono ?_;rintro e wn ⟨t2,rfl,ht2,hsn,hkn⟩;have HK:=two_ HK hkn;have HS:=hsn;have c0:=HS.c0;have s0_ : ¬ 9223372036854775807 < t1.size + 1 + t2.size:=(by omega);have s1_ : ¬ 9223372036854775807 < t1.size + 1 + t2.size + 1:=(by omega)))
   go_ret;exact ⟨_,rfl,by simp only [ByteArray.size_append,ByteArray.size_extract,Nat.min_self,Za4,List.size_toArray,List.length_cons,List.length_nil];omega,HS.more (by omega),HK⟩
  ·obtain ⟨d',rfl⟩ : ∃ d',d = d' + 1:=⟨d - 1,by have:=HD.out;omega⟩;obtain ⟨hB1,hS1,hF1⟩:=hlow d' rfl;have hE1:=hE1 (by omega);have htd:=Zda d';have htd':=ZcG d';have ht1 : top 1 ≤ top (d' + 1):=ZdR (by omega);(have hw : wrap64 (D - 1) = (d' : Int):=by have:=HD.out;rw [w64 (by omega) (by omega)];omega);have hw2 : IntKind.i64.wrap (D - 1) = (d' : Int):=(ZaU _).trans hw
   go_upto_if 101 with (first
    | (go_at_call 38;refine (hE1.at_ _ m _ rfl (by omega) HS).mono ?_;rintro e wn ⟨t1,rfl,ht1,hsn,hkn⟩;have HK:=two_ HK hkn;have HS:=hsn;have c0:=HS.c0;have s0_ : ¬ 9223372036854775807 < 3 + t1.size:=(by omega);have s1_ : ¬ 9223372036854775807 < 3 + t1.size + 1:=(by omega))
    | (go_at_call 40;refine (hB1.at_ _ m _ (by first | rfl | exact hw | exact hw2) (by omega) HS).mono ?_;rintro e wn ⟨t2,rfl,ht2,hsn,hkn⟩;have HK:=two_ HK hkn;have HS:=hsn;have c0:=HS.c0;have s0_ : ¬ 9223372036854775807 < 3 + t1.size + 1 + t2.size:=(by omega);have s1_ : ¬ 9223372036854775807 < 3 + t1.size + 1 + t2.size + 5:=(by omega))
    | (go_at_call 17;refine (Zfa hL HS 2 (by decide)).mono ?_;rintro e wn ⟨b0,rfl,hsn,hkn⟩;have HK:=two_ HK (to2 hkn);have HS:=hsn;have c0:=HS.c0))
   cases b0
   ·go_wp2;go_ret;exact ⟨_,rfl,by simp only [ByteArray.size_append,ByteArray.size_extract,Nat.min_self,Za4,List.size_toArray,List.length_cons,List.length_nil];omega,HS.more (by omega),HK⟩
   ·go_wp2_with (first
     | (go_at_call 40;refine (hB1.at_ _ m _ (by first | rfl | exact hw | exact hw2) (by omega) HS).mono ?_;rintro e wn ⟨t3,rfl,ht3,hsn,hkn⟩;have HK:=two_ HK hkn;have HS:=hsn;have c0:=HS.c0;have s0_ : ¬ 9223372036854775807 < 3 + t1.size + 1 + t2.size + 5 + t3.size:=(by omega)))
    go_ret;exact ⟨_,rfl,by simp only [ByteArray.size_append,ByteArray.size_extract,Nat.min_self,Za4,List.size_toArray,List.length_cons,List.length_nil];omega,HS.more (by omega),HK⟩
  ·obtain ⟨d',rfl⟩ : ∃ d',d = d' + 1:=⟨d - 1,by have:=HD.out;omega⟩;obtain ⟨hB1,hS1,hF1⟩:=hlow d' rfl;have hE1:=hE1 (by omega);have htd:=Zda d';have htd':=ZcG d';have ht1 : top 1 ≤ top (d' + 1):=ZdR (by omega);(have hw : wrap64 (D - 1) = (d' : Int):=by have:=HD.out;rw [w64 (by omega) (by omega)];omega);have hw2 : IntKind.i64.wrap (D - 1) = (d' : Int):=(ZaU _).trans hw
   go_upto_region 27 with (first
    | (go_at_call 37;refine (ZdY hL (by omega) HS).mono ?_;rintro e wn ⟨t1,rfl,ht1,hsn,hkn⟩;have HK:=two_ HK hkn;have HS:=hsn;have c0:=HS.c0;have s0_ : ¬ 9223372036854775807 < 4 + t1.size:=(by omega);have s1_ : ¬ 9223372036854775807 < 4 + t1.size + 3:=(by omega);have s2_ : ¬ 9223372036854775807 < 4 + t1.size + 3 + 6:=(by omega);have s3_ : ¬ 9223372036854775807 < 4 + t1.size + 3 + 6 + t1.size:=(by omega);have s4_ : ¬ 9223372036854775807 < 4 + t1.size + 3 + 6 + t1.size + 1:=(by omega)))
   obtain ⟨A,c,left2,l,c0,c1,c2,f1,f2,hC,hc,hm',hz,hf⟩:=HS.cells;obtain ⟨l2,hl2⟩ : ∃ l2,l2 = l ++ [t1]:=⟨_,rfl⟩
   have hz2 : ∀ t ∈ l2,t.size ≤ 30:=by
    intro t ht;rw [hl2] at ht;rcases List.mem_append.1 ht with h | h
    ·exact hz t h
    ·rw [List.mem_singleton.1 h];exact ht1
   (have hn2 : l2.length ≤ m + 1:=by rw [hl2];simp;exact hm');have HL2:=Zaa.mk hl2;clear hl2
   go_upto_region 28 with (first
    | ((with_reducible refine Zay (N:=118) rfl ?_);refine Kd.Zck Kd.string (w0:=wn) wn.heap.size 9 ?hg (N:=118) ?hd (xs:=([] : List ByteArray)) (inner:=[]) (ok:=fun _ => True) (okp:=fun _ => True) ?hr (Reps.none _ _) (fun _ hk => hk) trivial (Below.refl _ _) (Nat.le_refl _) (by simp) ?_;(case hd => rfl);(case hg => rfl);(case hr => first | (go_simp;done) | (go_simp;rfl));intro v1 w4 HO1 HB1 hg_ hnew_;have c1:=(HB1.cell (World.block_lt_of_cell? _ _ c1)).trans c1;have hC:=Kd.ZbX hC HB1)
    | ((with_reducible refine Zay (N:=123) rfl ?_);refine Kd.ZbA Value.string ByteArray.empty (w0:=wn) wn.heap.size rfl (.tmp 118) (.tmp 122) 31 9 (.string ⟨#[]⟩) 16 rfl Tryz.underlying31 Zd3 rfl (by decide) v1 [] l A l.length c (fun _ => True) rfl rfl (fun _ _ => trivial) HO1 hC HB1 HB1.size (by simp;omega) ?_;intro v2 w5 HO2 HB2 hg2 hn3)
    | ((with_reducible refine Zay (N:=125) rfl ?_);refine Zfg ?hg (N:=125) ?hd [t1] (by simp) ?hr ?_;(case hd => rfl);(case hg => rfl);(case hr => first | (go_simp;done) | (go_simp;rfl));intro b w6 hC3 HB3;have HO2:=Zi7 HO2 HB3;have HB2:=ZbC HB2 HB2.size HB3)
    | ((with_reducible refine Zay (N:=126) rfl ?_);refine Kd.ZbA Value.string ByteArray.empty (w0:=wn) wn.heap.size rfl (.tmp 123) (.tmp 125) 31 9 (.string ⟨#[]⟩) 16 rfl Tryz.underlying31 Zd3 rfl (by decide) v2 ([] ++ l) [t1] (some ⟨b,0,none⟩) 1 1 (fun _ => True) rfl rfl (fun _ _ => trivial) HO2 hC3 HB2 HB2.size (by simp;omega) ?_;intro v4 w7 HO4 HB4 hg4 hn4;rw [List.nil_append,← HL2.out] at HO4;obtain ⟨A4,c4,rfl⟩:=Kd.Zbs HO4;have d1:=((HS.below HB4).cells);obtain ⟨_,_,_,_,_,d1,_,g1,_⟩:=d1))
   obtain ⟨hsn,hkn⟩:=Zdl HS HB4 HO4 hn2 hz2;generalize w7.setCell ⟨gb,1,none⟩ (.slice A4 l2.length c4) = wn at hsn hkn ⊢;clear c1 c2 f1 f2 hC hc hm' hz hf HO1 HB1 HO2 HB2 hC3 HB3 HO4 HB4 d1 g1 hz2 hn2;have HK:=two_ HK hkn;have HS:=hsn;have c0:=HS.c0
   go_wp2_with (first
    | (go_at_call 13;refine (Zci hL HS 4 (by decide)).mono ?_;rintro e wn ⟨v,rfl,hv,hsn,hkn⟩;have HK:=two_ HK (to2 hkn);have HS:=hsn;have c0:=HS.c0;have hwv : wrap64 (1 + v) = 1 + v:=(w64 (by omega) (by omega));have hwv2 : IntKind.i64.wrap (1 + v) = 1 + v:=((ZaU _).trans hwv))
    | (go_at_call 41;refine (Zpd HS _ ?da ?db).mono ?_;(case da => first | omega | (rw [hwv];omega));(case db => first | omega | (rw [hwv];omega));rintro e wn ⟨t2,rfl,ht2,hsn,hkn⟩;have HK:=two_ HK hkn;have HS:=hsn;have c0:=HS.c0;have s0_ : ¬ 9223372036854775807 < 4 + t1.size + 3 + 6 + t1.size + 1 + t2.size:=(by omega);have s1_ : ¬ 9223372036854775807 < 4 + t1.size + 3 + 6 + t1.size + 1 + t2.size + 2:=(by omega);have s2_ : ¬ 9223372036854775807 < 4 + t1.size + 3 + 6 + t1.size + 1 + t2.size + 2 + t1.size:=(by omega);have s3_ : ¬ 9223372036854775807 < 4 + t1.size + 3 + 6 + t1.size + 1 + t2.size + 2 + t1.size + 1:=(by omega);have s4_ : ¬ 9223372036854775807 < 4 + t1.size + 3 + 6 + t1.size + 1 + t2.size + 2 + t1.size + 1 + t1.size:=(by omega);have s5_ : ¬ 9223372036854775807 < 4 + t1.size + 3 + 6 + t1.size + 1 + t2.size + 2 + t1.size + 1 + t1.size + 3:=(by omega))
    | (go_at_call 14;refine (hS1.at_ _ (m + 1) _ _ (by first | rfl | exact hw | exact hw2) (by omega) HS).mono ?_;rintro e wn ⟨t3,rfl,ht3,hsn,hkn⟩;have HK:=two_ HK hkn;have HS:=hsn;have c0:=HS.c0;have s0_ : ¬ 9223372036854775807 < 4 + t1.size + 3 + 6 + t1.size + 1 + t2.size + 2 + t1.size + 1 + t1.size + 3 + t3.size:=(by omega);have s1_ : ¬ 9223372036854775807 < 4 + t1.size + 3 + 6 + t1.size + 1 + t2.size + 2 + t1.size + 1 + t1.size + 3 + t3.size + 1:=(by omega)))
   go_ret;exact ⟨_,rfl,by simp only [ByteArray.size_append,ByteArray.size_extract,Nat.min_self,Za4,List.size_toArray,List.length_cons,List.length_nil];omega,HS.more (by omega),HK⟩
  ·obtain ⟨d',rfl⟩ : ∃ d',d = d' + 1:=⟨d - 1,by have:=HD.out;omega⟩;obtain ⟨hB1,hS1,hF1⟩:=hlow d' rfl;have hE1:=hE1 (by omega);have htd:=Zda d';have htd':=ZcG d';have ht1 : top 1 ≤ top (d' + 1):=ZdR (by omega);(have hw : wrap64 (D - 1) = (d' : Int):=by have:=HD.out;rw [w64 (by omega) (by omega)];omega);have hw2 : IntKind.i64.wrap (D - 1) = (d' : Int):=(ZaU _).trans hw
   go_wp2_with (first
    | (go_at_call 40;refine (hB1.at_ _ m _ (by first | rfl | exact hw | exact hw2) (by omega) HS).mono ?_;rintro e wn ⟨t1,rfl,ht1,hsn,hkn⟩;have HK:=two_ HK hkn;have HS:=hsn;have c0:=HS.c0;have s0_ : ¬ 9223372036854775807 < 3 + t1.size:=(by omega);have s1_ : ¬ 9223372036854775807 < 3 + t1.size + 16:=(by omega))
    | (go_at_call 14;refine (hS1.at_ _ (m) _ _ (by first | rfl | exact hw | exact hw2) (by omega) HS).mono ?_;rintro e wn ⟨t2,rfl,ht2,hsn,hkn⟩;have HK:=two_ HK hkn;have HS:=hsn;have c0:=HS.c0;have s0_ : ¬ 9223372036854775807 < 3 + t1.size + 16 + t2.size:=(by omega);have s1_ : ¬ 9223372036854775807 < 3 + t1.size + 16 + t2.size + 1:=(by omega)))
   go_ret;exact ⟨_,rfl,by simp only [ByteArray.size_append,ByteArray.size_extract,Nat.min_self,Za4,List.size_toArray,List.length_cons,List.length_nil];omega,HS.more (by omega),HK⟩
  ·obtain ⟨d',rfl⟩ : ∃ d',d = d' + 1:=⟨d - 1,by have:=HD.out;omega⟩;obtain ⟨hB1,hS1,hF1⟩:=hlow d' rfl;have hE1:=hE1 (by omega);have htd:=Zda d';have htd':=ZcG d';have ht1 : top 1 ≤ top (d' + 1):=ZdR (by omega);(have hw : wrap64 (D - 1) = (d' : Int):=by have:=HD.out;rw [w64 (by omega) (by omega)];omega);have hw2 : IntKind.i64.wrap (D - 1) = (d' : Int):=(ZaU _).trans hw
   go_wp2_with (first
    | (go_at_call 38;refine (hE1.at_ _ m _ rfl (by omega) HS).mono ?_;rintro e wn ⟨t1,rfl,ht1,hsn,hkn⟩;have HK:=two_ HK hkn;have HS:=hsn;have c0:=HS.c0;have s0_ : ¬ 9223372036854775807 < 6 + t1.size:=(by omega);have s1_ : ¬ 9223372036854775807 < 6 + t1.size + 1:=(by omega)))
   go_ret;exact ⟨_,rfl,by simp only [ByteArray.size_append,ByteArray.size_extract,Nat.min_self,Za4,List.size_toArray,List.length_cons,List.length_nil];omega,HS.more (by omega),HK⟩
  ·obtain ⟨d',rfl⟩ : ∃ d',d = d' + 1:=⟨d - 1,by have:=HD.out;omega⟩;obtain ⟨hB1,hS1,hF1⟩:=hlow d' rfl;have hE1:=hE1 (by omega);have htd:=Zda d';have htd':=ZcG d';have ht1 : top 1 ≤ top (d' + 1):=ZdR (by omega);(have hw : wrap64 (D - 1) = (d' : Int):=by have:=HD.out;rw [w64 (by omega) (by omega)];omega);have hw2 : IntKind.i64.wrap (D - 1) = (d' : Int):=(ZaU _).trans hw
   go_upto_region 36 with (first
    | (go_at_call 37;refine (ZdY hL (by omega) HS).mono ?_;rintro e wn ⟨t1,rfl,ht1,hsn,hkn⟩;have HK:=two_ HK hkn;have HS:=hsn;have c0:=HS.c0;have s0_ : ¬ 9223372036854775807 < 4 + t1.size:=(by omega)))
   obtain ⟨A,c,left2,l,c0,c1,c2,f1,f2,hC,hc,hm',hz,hf⟩:=HS.cells;obtain ⟨l2,hl2⟩ : ∃ l2,l2 = l ++ [t1]:=⟨_,rfl⟩
   have hz2 : ∀ t ∈ l2,t.size ≤ 30:=by
    intro t ht;rw [hl2] at ht;rcases List.mem_append.1 ht with h | h
    ·exact hz t h
    ·rw [List.mem_singleton.1 h];exact ht1
   (have hn2 : l2.length ≤ m + 1:=by rw [hl2];simp;exact hm');have HL2:=Zaa.mk hl2;clear hl2
   go_upto_region 37 with (first
    | ((with_reducible refine Zay (N:=181) rfl ?_);refine Kd.Zck Kd.string (w0:=wn) wn.heap.size 9 ?hg (N:=181) ?hd (xs:=([] : List ByteArray)) (inner:=[]) (ok:=fun _ => True) (okp:=fun _ => True) ?hr (Reps.none _ _) (fun _ hk => hk) trivial (Below.refl _ _) (Nat.le_refl _) (by simp) ?_;(case hd => rfl);(case hg => rfl);(case hr => first | (go_simp;done) | (go_simp;rfl));intro v1 w4 HO1 HB1 hg_ hnew_;have c1:=(HB1.cell (World.block_lt_of_cell? _ _ c1)).trans c1;have hC:=Kd.ZbX hC HB1)
    | ((with_reducible refine Zay (N:=186) rfl ?_);refine Kd.ZbA Value.string ByteArray.empty (w0:=wn) wn.heap.size rfl (.tmp 181) (.tmp 185) 31 9 (.string ⟨#[]⟩) 16 rfl Tryz.underlying31 Zd3 rfl (by decide) v1 [] l A l.length c (fun _ => True) rfl rfl (fun _ _ => trivial) HO1 hC HB1 HB1.size (by simp;omega) ?_;intro v2 w5 HO2 HB2 hg2 hn3)
    | ((with_reducible refine Zay (N:=188) rfl ?_);refine Zfg ?hg (N:=188) ?hd [t1] (by simp) ?hr ?_;(case hd => rfl);(case hg => rfl);(case hr => first | (go_simp;done) | (go_simp;rfl));intro b w6 hC3 HB3;have HO2:=Zi7 HO2 HB3;have HB2:=ZbC HB2 HB2.size HB3)
    | ((with_reducible refine Zay (N:=189) rfl ?_);refine Kd.ZbA Value.string ByteArray.empty (w0:=wn) wn.heap.size rfl (.tmp 186) (.tmp 188) 31 9 (.string ⟨#[]⟩) 16 rfl Tryz.underlying31 Zd3 rfl (by decide) v2 ([] ++ l) [t1] (some ⟨b,0,none⟩) 1 1 (fun _ => True) rfl rfl (fun _ _ => trivial) HO2 hC3 HB2 HB2.size (by simp;omega) ?_;intro v4 w7 HO4 HB4 hg4 hn4;rw [List.nil_append,← HL2.out] at HO4;obtain ⟨A4,c4,rfl⟩:=Kd.Zbs HO4;have d1:=((HS.below HB4).cells);obtain ⟨_,_,_,_,_,d1,_,g1,_⟩:=d1))
   obtain ⟨hsn,hkn⟩:=Zdl HS HB4 HO4 hn2 hz2;generalize w7.setCell ⟨gb,1,none⟩ (.slice A4 l2.length c4) = wn at hsn hkn ⊢;clear c1 c2 f1 f2 hC hc hm' hz hf HO1 HB1 HO2 HB2 hC3 HB3 HO4 HB4 d1 g1 hz2 hn2;have HK:=two_ HK hkn;have HS:=hsn;have c0:=HS.c0
   go_wp2_with (first
    | (go_at_call 42;refine (hF1.at_ _ (m + 1) _ (by first | rfl | exact hw | exact hw2) (by omega) HS).mono ?_;rintro e wn ⟨t2,rfl,ht2,hg0,hsn,hkn⟩;have HK:=two_ HK hkn;have HS:=hsn;have c0:=HS.c0;have s0_ : ¬ 9223372036854775807 < 4 + t1.size + (t2.size - 3):=(by omega);have hq1 : (3 : Int) ≤ (t2.size : Int):=(by omega);have hq2 : 3 ≤ t2.size:=(by omega)))
   go_ret;exact ⟨_,rfl,by simp only [ByteArray.size_append,ByteArray.size_extract,Nat.min_self,Za4,List.size_toArray,List.length_cons,List.length_nil];omega,HS.more (by omega),HK⟩
  ·obtain ⟨d',rfl⟩ : ∃ d',d = d' + 1:=⟨d - 1,by have:=HD.out;omega⟩;obtain ⟨hB1,hS1,hF1⟩:=hlow d' rfl;have hE1:=hE1 (by omega);have htd:=Zda d';have htd':=ZcG d';have ht1 : top 1 ≤ top (d' + 1):=ZdR (by omega);(have hw : wrap64 (D - 1) = (d' : Int):=by have:=HD.out;rw [w64 (by omega) (by omega)];omega);have hw2 : IntKind.i64.wrap (D - 1) = (d' : Int):=(ZaU _).trans hw
   go_upto_region 36 with (first
    | (go_at_call 37;refine (ZdY hL (by omega) HS).mono ?_;rintro e wn ⟨t1,rfl,ht1,hsn,hkn⟩;have HK:=two_ HK hkn;have HS:=hsn;have c0:=HS.c0;have s0_ : ¬ 9223372036854775807 < 4 + t1.size:=(by omega)))
   obtain ⟨A,c,left2,l,c0,c1,c2,f1,f2,hC,hc,hm',hz,hf⟩:=HS.cells;obtain ⟨l2,hl2⟩ : ∃ l2,l2 = l ++ [t1]:=⟨_,rfl⟩
   have hz2 : ∀ t ∈ l2,t.size ≤ 30:=by
    intro t ht;rw [hl2] at ht;rcases List.mem_append.1 ht with h | h
    ·exact hz t h
    ·rw [List.mem_singleton.1 h];exact ht1
   (have hn2 : l2.length ≤ m + 1:=by rw [hl2];simp;exact hm');have HL2:=Zaa.mk hl2;clear hl2
   go_upto_region 37 with (first
    | ((with_reducible refine Zay (N:=181) rfl ?_);refine Kd.Zck Kd.string (w0:=wn) wn.heap.size 9 ?hg (N:=181) ?hd (xs:=([] : List ByteArray)) (inner:=[]) (ok:=fun _ => True) (okp:=fun _ => True) ?hr (Reps.none _ _) (fun _ hk => hk) trivial (Below.refl _ _) (Nat.le_refl _) (by simp) ?_;(case hd => rfl);(case hg => rfl);(case hr => first | (go_simp;done) | (go_simp;rfl));intro v1 w4 HO1 HB1 hg_ hnew_;have c1:=(HB1.cell (World.block_lt_of_cell? _ _ c1)).trans c1;have hC:=Kd.ZbX hC HB1)
    | ((with_reducible refine Zay (N:=186) rfl ?_);refine Kd.ZbA Value.string ByteArray.empty (w0:=wn) wn.heap.size rfl (.tmp 181) (.tmp 185) 31 9 (.string ⟨#[]⟩) 16 rfl Tryz.underlying31 Zd3 rfl (by decide) v1 [] l A l.length c (fun _ => True) rfl rfl (fun _ _ => trivial) HO1 hC HB1 HB1.size (by simp;omega) ?_;intro v2 w5 HO2 HB2 hg2 hn3)
    | ((with_reducible refine Zay (N:=188) rfl ?_);refine Zfg ?hg (N:=188) ?hd [t1] (by simp) ?hr ?_;(case hd => rfl);(case hg => rfl);(case hr => first | (go_simp;done) | (go_simp;rfl));intro b w6 hC3 HB3;have HO2:=Zi7 HO2 HB3;have HB2:=ZbC HB2 HB2.size HB3)
    | ((with_reducible refine Zay (N:=189) rfl ?_);refine Kd.ZbA Value.string ByteArray.empty (w0:=wn) wn.heap.size rfl (.tmp 186) (.tmp 188) 31 9 (.string ⟨#[]⟩) 16 rfl Tryz.underlying31 Zd3 rfl (by decide) v2 ([] ++ l) [t1] (some ⟨b,0,none⟩) 1 1 (fun _ => True) rfl rfl (fun _ _ => trivial) HO2 hC3 HB2 HB2.size (by simp;omega) ?_;intro v4 w7 HO4 HB4 hg4 hn4;rw [List.nil_append,← HL2.out] at HO4;obtain ⟨A4,c4,rfl⟩:=Kd.Zbs HO4;have d1:=((HS.below HB4).cells);obtain ⟨_,_,_,_,_,d1,_,g1,_⟩:=d1))
   obtain ⟨hsn,hkn⟩:=Zdl HS HB4 HO4 hn2 hz2;generalize w7.setCell ⟨gb,1,none⟩ (.slice A4 l2.length c4) = wn at hsn hkn ⊢;clear c1 c2 f1 f2 hC hc hm' hz hf HO1 HB1 HO2 HB2 hC3 HB3 HO4 HB4 d1 g1 hz2 hn2;have HK:=two_ HK hkn;have HS:=hsn;have c0:=HS.c0
   go_wp2_with (first
    | (go_at_call 42;refine (hF1.at_ _ (m + 1) _ (by first | rfl | exact hw | exact hw2) (by omega) HS).mono ?_;rintro e wn ⟨t2,rfl,ht2,hg0,hsn,hkn⟩;have HK:=two_ HK hkn;have HS:=hsn;have c0:=HS.c0;have s0_ : ¬ 9223372036854775807 < 4 + t1.size + (t2.size - 3):=(by omega);have hq1 : (3 : Int) ≤ (t2.size : Int):=(by omega);have hq2 : 3 ≤ t2.size:=(by omega)))
   go_ret;exact ⟨_,rfl,by simp only [ByteArray.size_append,ByteArray.size_extract,Nat.min_self,Za4,List.size_toArray,List.length_cons,List.length_nil];omega,HS.more (by omega),HK⟩
  ·go_wp2_with (first
    | (go_at_call 38;refine (hE.at_ _ (m) _ (by first | exact HD.out | rfl) (by omega) HS).mono ?_;rintro e wn ⟨t1,rfl,ht1,hsn,hkn⟩;have HK:=two_ HK hkn;have HS:=hsn;have c0:=HS.c0;have s0_ : ¬ 9223372036854775807 < t1.size + 1:=(by omega)))
   go_ret;exact ⟨_,rfl,by simp only [ByteArray.size_append,ByteArray.size_extract,Nat.min_self,Za4,List.size_toArray,List.length_cons,List.length_nil];omega,HS.more (by omega),HK⟩
end
set_option linter.unusedSimpArgs false
set_option linter.unusedVariables false
section
variable {w0 w : World} {gb cb m : Nat} {L : List Int}
set_option maxHeartbeats 4000000 in
set_option maxRecDepth 100000 in
theorem Zhc (hL : L.length ≤ 140737488351232) (d : Nat) (hd : d ≤ 3) (hE : Zeb w0 gb cb L d) (hS : Zhf w0 gb cb L d) : Zfk w0 gb cb L d:=by
 intro m w hm hs;obtain ⟨A,c,left,l,c0,c1,c2,f1,f2,hC,hc,hm',hz,hf⟩:=hs.cells;obtain ⟨D,hD⟩ : ∃ D : Int,D = (d : Int):=⟨_,rfl⟩;rw [← hD];have HD:=Zaa.mk hD;clear hD;have hT0:=ZcG d;have hT1:=ZgN d hd;go_enter Tryz.func40,Tryz.ntmps40;go_wp2;go_loopg [6,7] 4 (fun kq v6 v7 w' => ∃ (s : ByteArray) (I : Int) (i : Nat),v6 = .string s ∧ v7 = .int .i64 I ∧ Zaa (I = (i : Int) ∧ i + kq = 4 ∧ i ≤ 2 ∧ s.size ≤ 1 + i * (2 * top d)) ∧ Zaa (St w0 gb cb L (m + i * (d + 1)) w') ∧ Zaa (Kept w w' (Two gb cb)))
 case atStart => exact ⟨_,0,0,rfl,rfl,⟨rfl,rfl,by omega,by simp only [Za4,List.size_toArray,List.length_cons,List.length_nil];omega⟩,⟨hs.more (by omega)⟩,⟨Kept.refl _ _⟩⟩
 case round =>
  obtain ⟨s,I,i,rfl,rfl,HI,HS,HK⟩:=hrel;have HS:=HS.out;have HK:=HK.out;have c0':=HS.c0
  go_upto_if 25 with (first
   | (go_at_call 13;refine (Zci hL HS 3 (by decide)).mono ?_;rintro e wn ⟨v,rfl,hv,hsn,hkn⟩;have HK:=two_ HK (to2 hkn);have HS:=hsn;obtain ⟨A2,c2',left2,l2,c0',_,d2,_⟩:=HS.cells;rcases Bool.eq_false_or_eq_true (decide (I < v)) with hb | hb))
  ·rcases Bool.eq_false_or_eq_true (decide (0 < left2)) with h2 | h2
   ·simp only [h2];obtain ⟨z1,z2,z3,z4⟩:=HI.out;(have z5 : s.size ≤ 1 + 2 * (2 * top d):=by have:=Nat.mul_le_mul_right (2 * top d) z3;omega);have hb':=of_decide_eq_true hb;(have z7 : i ≤ 1:=by omega);have z6 : i * (d + 1) ≤ 1 * (d + 1):=Nat.mul_le_mul_right (d + 1) z7;(have z9 : wrap64 (I + 1) = ((i + 1 : Nat) : Int):=by rw [w64 (by omega) (by omega)];omega);have Z:=Zaa.mk z1;clear HI z1
    go_wp2_with (first
     | (go_at_call 14;refine (hS.at_ _ (m + i * (d + 1)) _ _ HD.out (by omega) HS).mono ?_;rintro e wn ⟨t1,rfl,ht1,hsn,hkn⟩;have HK:=two_ HK hkn;have HS:=hsn;have c0:=HS.c0;have s0_ : ¬ 9223372036854775807 < s.size + t1.size:=(by omega)))
    go_roundg (gk - 1)
    case measure => omega
    case rel => exact ⟨_,_,i + 1,rfl,rfl,⟨by first | exact z9 | (have:=Z.out;omega),by omega,by omega,ZdX z4 (by simp only [ByteArray.size_append];omega)⟩,⟨HS.more (by rw [Nat.succ_mul];omega)⟩,⟨HK⟩⟩
   ·simp only [h2];obtain ⟨z1,z2,z3,z4⟩:=HI.out;(have z5 : s.size ≤ 1 + 2 * (2 * top d):=by have:=Nat.mul_le_mul_right (2 * top d) z3;omega);have z6 : i * (d + 1) ≤ 2 * (d + 1):=Nat.mul_le_mul_right (d + 1) z3;clear HI z4 z1 z2;have z8 : ¬ 9223372036854775807 < s.size + 1:=by omega
    go_upto_if 38 with (first
     | (go_at_call 17;refine (Zfa hL HS 2 (by decide)).mono ?_;rintro e wn ⟨b0,rfl,hsn,hkn⟩;have HK:=two_ HK (to2 hkn);have HS:=hsn;have c0:=HS.c0))
    cases b0
    ·obtain ⟨_,_,_,_,c0,c1,c2,f1,f2,_⟩:=HS.cells;go_upto_region 10 with (fail);obtain ⟨hsn,hkn⟩:=HS.names (n:=m) (Zec hC HK hf) hc hm' hz hf;generalize wn.setCell ⟨gb,1,none⟩ (.slice A l.length c) = wq at hsn hkn ⊢;have HK:=two_ HK hkn;have HS:=hsn;clear c1 c2 f1 f2;go_wp2;go_ret;exact ⟨_,rfl,by simp only [ByteArray.size_append,ByteArray.size_extract,Nat.min_self,Za4,List.size_toArray,List.length_cons,List.length_nil];omega,HS,HK⟩
    ·go_upto_region 9 with (first
      | (go_at_call 38;refine (hE.at_ _ (m + i * (d + 1)) _ HD.out (by omega) HS).mono ?_;rintro e wn ⟨t2,rfl,ht2,hsn,hkn⟩;have HK:=two_ HK hkn;have HS:=hsn;have c0:=HS.c0;have s0_ : ¬ 9223372036854775807 < s.size + 7:=(by omega);have s1_ : ¬ 9223372036854775807 < s.size + 7 + t2.size:=(by omega);have s2_ : ¬ 9223372036854775807 < s.size + 7 + t2.size + 1:=(by omega);have s3_ : ¬ 9223372036854775807 < s.size + 7 + t2.size + 1 + 1:=(by omega)))
     obtain ⟨_,_,_,_,c0,c1,c2,f1,f2,_⟩:=HS.cells;go_upto_region 10 with (fail);obtain ⟨hsn,hkn⟩:=HS.names (n:=m) (Zec hC HK hf) hc hm' hz hf;generalize wn.setCell ⟨gb,1,none⟩ (.slice A l.length c) = wq at hsn hkn ⊢;have HK:=two_ HK hkn;have HS:=hsn;clear c1 c2 f1 f2;go_wp2;go_ret;exact ⟨_,rfl,by simp only [ByteArray.size_append,ByteArray.size_extract,Nat.min_self,Za4,List.size_toArray,List.length_cons,List.length_nil];omega,HS,HK⟩
  ·obtain ⟨z1,z2,z3,z4⟩:=HI.out;(have z5 : s.size ≤ 1 + 2 * (2 * top d):=by have:=Nat.mul_le_mul_right (2 * top d) z3;omega);have z6 : i * (d + 1) ≤ 2 * (d + 1):=Nat.mul_le_mul_right (d + 1) z3;clear HI z4 z1 z2;have z8 : ¬ 9223372036854775807 < s.size + 1:=by omega
   go_upto_if 38 with (first
    | (go_at_call 17;refine (Zfa hL HS 2 (by decide)).mono ?_;rintro e wn ⟨b0,rfl,hsn,hkn⟩;have HK:=two_ HK (to2 hkn);have HS:=hsn;have c0:=HS.c0))
   cases b0
   ·obtain ⟨_,_,_,_,c0,c1,c2,f1,f2,_⟩:=HS.cells;go_upto_region 10 with (fail);obtain ⟨hsn,hkn⟩:=HS.names (n:=m) (Zec hC HK hf) hc hm' hz hf;generalize wn.setCell ⟨gb,1,none⟩ (.slice A l.length c) = wq at hsn hkn ⊢;have HK:=two_ HK hkn;have HS:=hsn;clear c1 c2 f1 f2;go_wp2;go_ret;exact ⟨_,rfl,by simp only [ByteArray.size_append,ByteArray.size_extract,Nat.min_self,Za4,List.size_toArray,List.length_cons,List.length_nil];omega,HS,HK⟩
   ·go_upto_region 9 with (first
     | (go_at_call 38;refine (hE.at_ _ (m + i * (d + 1)) _ HD.out (by omega) HS).mono ?_;rintro e wn ⟨t2,rfl,ht2,hsn,hkn⟩;have HK:=two_ HK hkn;have HS:=hsn;have c0:=HS.c0;have s0_ : ¬ 9223372036854775807 < s.size + 7:=(by omega);have s1_ : ¬ 9223372036854775807 < s.size + 7 + t2.size:=(by omega);have s2_ : ¬ 9223372036854775807 < s.size + 7 + t2.size + 1:=(by omega);have s3_ : ¬ 9223372036854775807 < s.size + 7 + t2.size + 1 + 1:=(by omega)))
    obtain ⟨_,_,_,_,c0,c1,c2,f1,f2,_⟩:=HS.cells;go_upto_region 10 with (fail);obtain ⟨hsn,hkn⟩:=HS.names (n:=m) (Zec hC HK hf) hc hm' hz hf;generalize wn.setCell ⟨gb,1,none⟩ (.slice A l.length c) = wq at hsn hkn ⊢;have HK:=two_ HK hkn;have HS:=hsn;clear c1 c2 f1 f2;go_wp2;go_ret;exact ⟨_,rfl,by simp only [ByteArray.size_append,ByteArray.size_extract,Nat.min_self,Za4,List.size_toArray,List.length_cons,List.length_nil];omega,HS,HK⟩
end
set_option linter.unusedSimpArgs false
set_option linter.unusedVariables false
section
variable {w0 w : World} {gb cb m : Nat} {L : List Int}
theorem pq_at {W : World} {b : Nat} (hC : Kd.C Kd.string W (some ⟨b,0,none⟩) 2 [⟨#[112]⟩,⟨#[113]⟩]) (I : Int) (h0 : 0 ≤ I) (h1 : I < 2) : ∃ x : ByteArray,W.cell? ⟨b,I.toNat,none⟩ = some (.string x) ∧ x.size = 1:=by
 obtain ⟨ad,e,hx⟩:=Kd.Zcs hC I h0 h1;cases e;(have hadd : (⟨b,0,none⟩ : Addr).add I.toNat = ⟨b,I.toNat,none⟩:=by unfold Addr.add;split <;> simp_all);rw [hadd] at hx;refine ⟨_,hx,?_⟩;rcases (by omega : I = 0 ∨ I = 1) with rfl | rfl <;> rfl
set_option maxHeartbeats 4000000 in
set_option maxRecDepth 100000 in
theorem Zkr (hL : L.length ≤ 140737488351232) (d : Nat) (hd : d ≤ 3) (hB : Zfk w0 gb cb L d) : ZlA w0 gb cb L d:=by
 intro m w hm hs;obtain ⟨A,c,left,l,c0,c1,c2,f1,f2,hC,hc,hm',hz,hf⟩:=hs.cells;obtain ⟨D,hD⟩ : ∃ D : Int,D = (d : Int):=⟨_,rfl⟩;rw [← hD];have HD:=Zaa.mk hD;clear hD;have hT0:=ZcG d;have hT1:=ZgN d hd;have hHS:=Zaa.mk hs;go_enter Tryz.func42,Tryz.ntmps42
 go_wp2_with (first
  | ((with_reducible refine Zay (N:=14) rfl ?_);refine ZeS hs ?hg (N:=14) ?hd [⟨#[112]⟩,⟨#[113]⟩] (by decide) ?hr ?_;(case hd => rfl);(case hg => rfl);(case hr => first | (go_simp;done) | (go_simp;rfl));intro b1 w1 hC1 hf1 HS hk1 hx1;have HK:=to2 (gb:=gb) hk1;have c0:=HS.c0)
  | (go_at_call 13;refine (Zci hL HS 3 (by decide)).mono ?_;rintro e wn ⟨v,rfl,hv,hsn,hkn⟩;have HK:=two_ HK (to2 hkn);have hC1:=Zeo hC1 (to2 hkn) hf1;have HS:=hsn;have c0:=HS.c0))
 have HK2:=Zaa.mk HK;have HC1:=Zaa.mk hC1;clear hC1 HK;go_loopg [6,9] 4 (fun kq v6 v9 w' => ∃ (s : ByteArray) (I : Int) (i : Nat),v6 = .string s ∧ v9 = .int .i64 I ∧ Zaa (I = (i : Int) ∧ i + kq = 4 ∧ i ≤ 2 ∧ 4 ≤ s.size ∧ s.size ≤ 4 + i * 2) ∧ Zaa (St w0 gb cb L (m + i) w') ∧ Zaa (Kept wn w' (Two gb cb)))
 case atStart => exact ⟨_,0,0,rfl,rfl,⟨rfl,rfl,by omega,by decide,by decide⟩,⟨HS⟩,⟨Kept.refl _ _⟩⟩
 case round =>
  obtain ⟨s,I,i,rfl,rfl,HI,HS,HK⟩:=hrel;have HS:=HS.out;have HK:=HK.out;obtain ⟨z1,z2,z3,z4,z5⟩:=HI.out;clear HI;by_cases q2 : I < v
  ·have q2b : decide (I < v) = true:=decide_eq_true q2;have hCr:=Zeo HC1.out HK hf1;obtain ⟨x,hx,hx1⟩:=pq_at hCr I (by omega) (by omega);have i0:=eq_true (show 0 ≤ I by omega);have i1:=eq_true (show I < 2 by omega);(have s0_ : ¬ 9223372036854775807 < s.size + 1:=by omega);(have s1_ : ¬ 9223372036854775807 < s.size + 1 + x.size:=by omega);(have s2_ : ¬ 9223372036854775807 < s.size + x.size:=by omega);have Z:=Zaa.mk z1;(have z9 : i ≤ 1:=by omega);(have z6 : wrap64 (I + 1) = ((i + 1 : Nat) : Int):=by rw [w64 (by omega) (by omega)];omega);clear z1;go_upto_if 26 with (fail);go_cut [6] (fun v6 wc => ∃ s' : ByteArray,v6 = .string s' ∧ Zaa (s.size ≤ s'.size ∧ s'.size ≤ s.size + 1) ∧ wc = wr)
   case first =>
    by_cases q3 : 0 < I
    ·simp only [decide_eq_true q3];go_wp2;go_meet
     case rel => exact ⟨_,rfl,⟨by simp only [ByteArray.size_append];omega,by simp only [ByteArray.size_append,Za4,List.size_toArray,List.length_cons,List.length_nil];omega⟩,rfl⟩
    ·simp only [decide_eq_false q3];go_wp2;go_meet
     case rel => exact ⟨_,rfl,⟨Nat.le_refl _,Nat.le_succ _⟩,rfl⟩
   case rest =>
    obtain ⟨s',rfl,HZ,rfl⟩:=hcut;obtain ⟨z7,z8⟩:=HZ.out;clear HZ s0_ s1_ s2_;(have s1_ : ¬ 9223372036854775807 < s'.size + x.size:=by omega);go_upto_region 11 with (fail);obtain ⟨A2,c2',left2,l2,e0,e1,e2,g1,g2,hC2,hc2,hm2,hz2,hf2⟩:=HS.cells;obtain ⟨l3,hl3⟩ : ∃ l3,l3 = l2 ++ [x]:=⟨_,rfl⟩
    have hz3 : ∀ t ∈ l3,t.size ≤ 30:=by
     intro t ht;rw [hl3] at ht;rcases List.mem_append.1 ht with h | h
     ·exact hz2 t h
     ·rw [List.mem_singleton.1 h];omega
    (have hn3 : l3.length ≤ m + (i + 1):=by rw [hl3];simp;omega);have HL2:=Zaa.mk hl3;clear hl3;refine ZoZ (n:=16) (S:=fun w' => w'.cell? ⟨gb,1,none⟩ = some (.slice A2 l2.length c2') ∧ w'.cell? ⟨b1,I.toNat,none⟩ = some (.string x)) (ds:=[15]) #[false,false,false,false,false,false,false,false,false,false,false,false,false,false,false,false] (by kernel_rfl) rfl rfl ⟨e1,hx⟩ (fun hHeld => ?_);have HSx:=HS.drew;have HKx:=Kept.drew HK;have hC2:=Kd.ZbX hC2 (Zak (Below.refl _ wc));generalize wc.drew = wx at hHeld HSx HKx hC2 ⊢;clear e0 e1 e2 g1 g2 hx HS HK hCr;have hS : ∀ W,Below wx.heap.size wx W → (W.cell? ⟨gb,1,none⟩ = some (.slice A2 l2.length c2') ∧ W.cell? ⟨b1,I.toNat,none⟩ = some (.string x)):=fun W hB => ⟨(hB.cell (World.block_lt_of_cell? _ _ hHeld.1)).trans hHeld.1,(hB.cell (World.block_lt_of_cell? _ _ hHeld.2)).trans hHeld.2⟩;have HB:=Below.refl wx.heap.size wx;refine Zc1 (i:=0) (N:=some 35) (v := ?_) (a' := ?_) #[true,false,false,false,false,false,false,false,false,false,false,false,false,false,false,false] rfl rfl (by kernel_rfl) (fun _ _ _ h => h) (Or.inl ⟨by rfl,?_⟩) ?_ ?_;rotate_left
    ·intro w';go_simp
     with_reducible rfl
    rotate_left
    ·simp only [Act.put,List.setIfInBounds_toArray,List.set_cons_zero,List.set_cons_succ,ZaU,Zbc];rfl
    refine Zc1 (i:=2) (N:=some 37) (v := ?_) (a' := ?_) #[true,false,true,false,false,false,false,false,false,false,false,false,false,false,false,false] rfl rfl (by kernel_rfl) (fun _ _ _ h => h) (Or.inl ⟨by rfl,?_⟩) ?_ ?_;rotate_left
    ·intro w';go_simp
     with_reducible rfl
    rotate_left
    ·simp only [Act.put,List.setIfInBounds_toArray,List.set_cons_zero,List.set_cons_succ,ZaU,Zbc];rfl
    refine Zc1 (i:=3) (N:=some 38) (v := ?_) (a' := ?_) #[true,false,true,true,false,false,false,false,false,false,false,false,false,false,false,false] rfl rfl (by kernel_rfl) (fun _ _ _ h => h) (Or.inl ⟨by rfl,?_⟩) ?_ ?_;rotate_left
    ·intro w';go_simp
     with_reducible rfl
    rotate_left
    ·simp only [Act.put,List.setIfInBounds_toArray,List.set_cons_zero,List.set_cons_succ,ZaU,Zbc];rfl
    refine Zc1 (i:=4) (N:=some 39) (v := ?_) (a' := ?_) #[true,false,true,true,true,false,false,false,false,false,false,false,false,false,false,false] rfl rfl (by kernel_rfl) (fun _ _ _ h => h) (Or.inl ⟨by rfl,?_⟩) ?_ ?_;rotate_left
    ·intro w';go_simp
     with_reducible rfl
    rotate_left
    ·simp only [Act.put,List.setIfInBounds_toArray,List.set_cons_zero,List.set_cons_succ,ZaU,Zbc];rfl
    refine take_ (i:=5) (N:=some 40) (v := ?_) (a' := ?_) #[true,false,true,true,true,true,false,false,false,false,false,false,false,false,false,false] rfl rfl (by kernel_rfl) (fun _ _ _ h => h) (Or.inl ⟨by rfl,?_⟩) hHeld ?_ ?_;rotate_left
    ·rintro w' ⟨s0,s1⟩;go_simp
     with_reducible rfl
    rotate_left
    ·simp only [Act.put,List.setIfInBounds_toArray,List.set_cons_zero,List.set_cons_succ,ZaU,Zbc];rfl
    refine Zc1 (i:=7) (N:=some 42) (v := ?_) (a' := ?_) #[true,false,true,true,true,true,false,true,false,false,false,false,false,false,false,false] rfl rfl (by kernel_rfl) (fun _ _ _ h => h) (Or.inl ⟨by rfl,?_⟩) ?_ ?_;rotate_left
    ·intro w';go_simp
     with_reducible rfl
    rotate_left
    ·simp only [Act.put,List.setIfInBounds_toArray,List.set_cons_zero,List.set_cons_succ,ZaU,Zbc];rfl
    refine Zc1 (i:=8) (N:=some 43) (v := ?_) (a' := ?_) #[true,false,true,true,true,true,false,true,true,false,false,false,false,false,false,false] rfl rfl (by kernel_rfl) (fun _ _ _ h => h) (Or.inl ⟨by rfl,?_⟩) ?_ ?_;rotate_left
    ·intro w';go_simp
     with_reducible rfl
    rotate_left
    ·simp only [Act.put,List.setIfInBounds_toArray,List.set_cons_zero,List.set_cons_succ,ZaU,Zbc];rfl
    refine Zc1 (i:=9) (N:=some 44) (v := ?_) (a' := ?_) #[true,false,true,true,true,true,false,true,true,true,false,false,false,false,false,false] rfl rfl (by kernel_rfl) (fun _ _ _ h => h) (Or.inl ⟨by rfl,?_⟩) ?_ ?_;rotate_left
    ·intro w';go_simp
     with_reducible rfl
    rotate_left
    ·simp only [Act.put,List.setIfInBounds_toArray,List.set_cons_zero,List.set_cons_succ,ZaU,Zbc];rfl
    refine take_ (i:=10) (N:=some 45) (v := ?_) (a' := ?_) #[true,false,true,true,true,true,false,true,true,true,true,false,false,false,false,false] rfl rfl (by kernel_rfl) (fun _ _ _ h => h) (Or.inl ⟨by rfl,?_⟩) hHeld ?_ ?_;rotate_left
    ·rintro w' ⟨s0,s1⟩;go_simp
     with_reducible rfl
    rotate_left
    ·simp only [Act.put,List.setIfInBounds_toArray,List.set_cons_zero,List.set_cons_succ,ZaU,Zbc];rfl
    refine join_ (σ:=Value × Value × Nat) 4 #[true,true,true,true,true,true,true,true,true,true,true,true,false,false,false,false] (fun s => [(36,s.1),(41,s.2.1),(46,.slice (some ⟨s.2.2,0,none⟩) 1 1)]) (fun s W => Below wx.heap.size wx W ∧ Kd.R Kd.string 9 W wx.heap.size (fun _ => True) s.2.1 l2 ∧ Kd.C Kd.string W (some ⟨s.2.2,0,none⟩) 1 [x]) ?_ (fun hj => ?_);rotate_left
    ·refine YtfoekmfpcahmiabGreatDoorW.PrintLast.two_ (i:=1) (j:=11) (Ni:=some 36) (Nj:=some 46) #[true,true,true,true,true,true,false,true,true,true,true,false,false,false,false,false] #[true,false,true,true,true,true,false,true,true,true,true,true,false,false,false,false] rfl rfl rfl rfl (by kernel_rfl) (by decide) (by decide) (fun K hK => ?_) (fun K hK => ?_)
     ·refine Kd.Zhh Kd.string (w0:=wx) wx.heap.size 9 ?hw (N:=36) ?hd (xs:=([] : List ByteArray)) (inner:=[]) (ok:=fun _ => True) (okp:=fun _ => True) ?hr (Reps.none _ _) (fun _ hk => hk) trivial HB HB.size (by simp) ?_
      (case hw => rfl)
      (case hd => rfl)
      (case hr => first | (go_simp;done) | (go_simp;rfl))
      intro v1 wy HO1 HBn hg_ hnew_;have HB:=HBn;clear HBn hg_ hnew_;refine hK.out _ _ (hS _ HB) (fun _ => ?_);clear hK K;refine ZeG (a' := ?_) ?_ ?_;rotate_left
      ·show Act.put _ (some 36) _ = _;simp only [Act.put,List.setIfInBounds_toArray,List.set_cons_zero,List.set_cons_succ,ZaU,Zbc];rfl
      refine YtfoekmfpcahmiabGreatDoorW.PrintLast.two_ (i:=6) (j:=11) (Ni:=some 41) (Nj:=some 46) #[true,true,true,true,true,true,true,true,true,true,true,false,false,false,false,false] #[true,true,true,true,true,true,false,true,true,true,true,true,false,false,false,false] rfl rfl rfl rfl (by kernel_rfl) (by decide) (by decide) (fun K hK => ?_) (fun K hK => ?_)
      ·refine Kd.Zb6 Kd.string (Rr:=Kd.string.K _) (w0:=wx) wx.heap.size ?hw (.tmp 36) (.tmp 40) 31 9 (.string ⟨#[]⟩) 16 rfl Tryz.underlying31 Zd3 rfl (by decide) (by decide) v1 [] l2 A2 l2.length c2' (fun _ => True) (fun _ => False) rfl rfl HO1 (Kd.ZbX hC2 HB) (fun _ _ h => h) (fun _ h => h.elim) (fun _ _ => trivial) HB HB.size (by simp;omega) ?_
       (case hw => rfl)
       intro v2 wy HO2 HBn hg_ hnew_;rw [List.nil_append] at HO2;have HB:=HBn;clear HBn hg_ hnew_ HO1;refine hK.out _ _ (hS _ HB) (fun _ => ?_);clear hK K;refine ZeG (a' := ?_) ?_ ?_;rotate_left
       ·show Act.put _ (some 41) _ = _;simp only [Act.put,List.setIfInBounds_toArray,List.set_cons_zero,List.set_cons_succ,ZaU,Zbc];rfl
       refine one_ (i:=11) (N:=some 46) #[true,true,true,true,true,true,true,true,true,true,true,true,false,false,false,false] rfl rfl (by kernel_rfl) (by decide) (fun K hK => ?_);refine Zff ?hw [x] (by simp) ?hr ?_
       (case hw => rfl)
       (case hr => first | (go_simp;done) | (go_simp;rfl))
       intro b wy hblt hbge HC3 HBn;have HO2:=Zi7 HO2 HBn;have HB:=ZbC HB HB.size HBn;clear HBn;refine hK.out _ _ (hS _ HB) (fun _ => ?_);clear hK K;refine ZeG (a' := ?_) ?_ ?_;rotate_left
       ·show Act.put _ (some 46) _ = _;simp only [Act.put,List.setIfInBounds_toArray,List.set_cons_zero,List.set_cons_succ,ZaU,Zbc];rfl
       refine ZeG ?_ (hj (v1,v2,b) _ ⟨HB,HO2,HC3⟩);rfl
      ·refine Zff ?hw [x] (by simp) ?hr ?_
       (case hw => rfl)
       (case hr => first | (go_simp;done) | (go_simp;rfl))
       intro b wy hblt hbge HC3 HBn;(have hne : v1.ownBlock ≠ some b:=fun h => by have:=Kd.R_lt HO1 b h;omega);have HO1:=Zi7 HO1 HBn;have HB:=ZbC HB HB.size HBn;clear HBn;refine hK.out _ _ (hS _ HB) (fun _ => ?_);clear hK K;refine ZeG (a' := ?_) ?_ ?_;rotate_left
       ·show Act.put _ (some 46) _ = _;simp only [Act.put,List.setIfInBounds_toArray,List.set_cons_zero,List.set_cons_succ,ZaU,Zbc];rfl
       refine one_ (i:=6) (N:=some 41) #[true,true,true,true,true,true,true,true,true,true,true,true,false,false,false,false] rfl rfl (by kernel_rfl) (by decide) (fun K hK => ?_);refine Kd.Zb6 Kd.string (Rr:=Kd.string.K _) (w0:=wx) wx.heap.size ?hw (.tmp 36) (.tmp 40) 31 9 (.string ⟨#[]⟩) 16 rfl Tryz.underlying31 Zd3 rfl (by decide) (by decide) v1 [] l2 A2 l2.length c2' (fun _ => True) (fun _ => False) rfl rfl HO1 (Kd.ZbX hC2 HB) (fun _ _ h => h) (fun _ h => h.elim) (fun _ _ => trivial) HB HB.size (by simp;omega) ?_
       (case hw => rfl)
       intro v2 wy HO2 HBn hg_ hnew_;rw [List.nil_append] at HO2;have HC3:=Zj2 HC3 hg_ hne;have HB:=HBn;clear HBn hg_ hnew_ HO1;refine hK.out _ _ (hS _ HB) (fun _ => ?_);clear hK K;refine ZeG (a' := ?_) ?_ ?_;rotate_left
       ·show Act.put _ (some 41) _ = _;simp only [Act.put,List.setIfInBounds_toArray,List.set_cons_zero,List.set_cons_succ,ZaU,Zbc];rfl
       refine ZeG ?_ (hj (v1,v2,b) _ ⟨HB,HO2,HC3⟩);rfl
     ·refine Zff ?hw [x] (by simp) ?hr ?_
      (case hw => rfl)
      (case hr => first | (go_simp;done) | (go_simp;rfl))
      intro b wy hblt hbge HC3 HBn;have HB:=ZbC HB HB.size HBn;clear HBn;refine hK.out _ _ (hS _ HB) (fun _ => ?_);clear hK K;refine ZeG (a' := ?_) ?_ ?_;rotate_left
      ·show Act.put _ (some 46) _ = _;simp only [Act.put,List.setIfInBounds_toArray,List.set_cons_zero,List.set_cons_succ,ZaU,Zbc];rfl
      refine one_ (i:=1) (N:=some 36) #[true,true,true,true,true,true,false,true,true,true,true,true,false,false,false,false] rfl rfl (by kernel_rfl) (by decide) (fun K hK => ?_);refine Kd.Zhh Kd.string (w0:=wx) wx.heap.size 9 ?hw (N:=36) ?hd (xs:=([] : List ByteArray)) (inner:=[]) (ok:=fun _ => True) (okp:=fun _ => True) ?hr (Reps.none _ _) (fun _ hk => hk) trivial HB HB.size (by simp) ?_
      (case hw => rfl)
      (case hd => rfl)
      (case hr => first | (go_simp;done) | (go_simp;rfl))
      intro v1 wy HO1 HBn hg_ hnew_;have HC3:=Zj2 HC3 hg_ (by simp)
      have hne : v1.ownBlock ≠ some b:=by
       obtain ⟨bb,h1,h2⟩:=hnew_;rw [h1];intro h3;injection h3 with h3;omega
      have HB:=HBn;clear HBn hg_ hnew_;refine hK.out _ _ (hS _ HB) (fun _ => ?_);clear hK K;refine ZeG (a' := ?_) ?_ ?_;rotate_left
      ·show Act.put _ (some 36) _ = _;simp only [Act.put,List.setIfInBounds_toArray,List.set_cons_zero,List.set_cons_succ,ZaU,Zbc];rfl
      refine one_ (i:=6) (N:=some 41) #[true,true,true,true,true,true,true,true,true,true,true,true,false,false,false,false] rfl rfl (by kernel_rfl) (by decide) (fun K hK => ?_);refine Kd.Zb6 Kd.string (Rr:=Kd.string.K _) (w0:=wx) wx.heap.size ?hw (.tmp 36) (.tmp 40) 31 9 (.string ⟨#[]⟩) 16 rfl Tryz.underlying31 Zd3 rfl (by decide) (by decide) v1 [] l2 A2 l2.length c2' (fun _ => True) (fun _ => False) rfl rfl HO1 (Kd.ZbX hC2 HB) (fun _ _ h => h) (fun _ h => h.elim) (fun _ _ => trivial) HB HB.size (by simp;omega) ?_
      (case hw => rfl)
      intro v2 wy HO2 HBn hg_ hnew_;rw [List.nil_append] at HO2;have HC3:=Zj2 HC3 hg_ hne;have HB:=HBn;clear HBn hg_ hnew_ HO1;refine hK.out _ _ (hS _ HB) (fun _ => ?_);clear hK K;refine ZeG (a' := ?_) ?_ ?_;rotate_left
      ·show Act.put _ (some 41) _ = _;simp only [Act.put,List.setIfInBounds_toArray,List.set_cons_zero,List.set_cons_succ,ZaU,Zbc];rfl
      refine ZeG ?_ (hj (v1,v2,b) _ ⟨HB,HO2,HC3⟩);rfl
    rintro ⟨v1,v2,b⟩ wq ⟨HB,HO2,HC3⟩;refine ZeG (a' := ?_) ?_ ?_;rotate_left
    ·simp only [Zkd,Act.put,List.setIfInBounds_toArray,List.set_cons_zero,List.set_cons_succ,ZaU,Zbc];rfl
    refine one_ (i:=12) (N:=some 47) #[true,true,true,true,true,true,true,true,true,true,true,true,true,false,false,false] rfl rfl (by kernel_rfl) (by decide) (fun K hK => ?_);refine Kd.Zb6 Kd.string (Rr:=Kd.string.K _) (w0:=wx) wx.heap.size ?hw (.tmp 41) (.tmp 46) 31 9 (.string ⟨#[]⟩) 16 rfl Tryz.underlying31 Zd3 rfl (by decide) (by decide) v2 l2 [x] (some ⟨b,0,none⟩) 1 1 (fun _ => True) (fun _ => False) rfl rfl HO2 HC3 (fun _ _ h => h) (fun _ h => h.elim) (fun _ _ => trivial) HB HB.size (by omega) ?_
    (case hw => rfl)
    intro v4 wz HO4 HBn hg_ hnew_;have HB:=HBn;clear HBn hg_ hnew_ HO2 HC3;rw [← HL2.out] at HO4;obtain ⟨A4,c4,rfl⟩:=Kd.Zbs HO4;refine hK.out _ _ (hS _ HB) (fun _ => ?_);clear hK K;refine ZeG (a' := ?_) ?_ ?_;rotate_left
    ·show Act.put _ (some 47) _ = _;simp only [Act.put,List.setIfInBounds_toArray,List.set_cons_zero,List.set_cons_succ,ZaU,Zbc];rfl
    refine Zc1 (i:=13) (N:=some 48) (v := ?_) (a' := ?_) #[true,true,true,true,true,true,true,true,true,true,true,true,true,true,false,false] rfl rfl (by kernel_rfl) (fun _ _ _ h => h) (Or.inl ⟨by rfl,?_⟩) ?_ ?_;rotate_left
    ·intro w';go_simp
     with_reducible rfl
    rotate_left
    ·simp only [Act.put,List.setIfInBounds_toArray,List.set_cons_zero,List.set_cons_succ,ZaU,Zbc];rfl
    refine Zc1 (i:=14) (N:=some 49) (v := ?_) (a' := ?_) #[true,true,true,true,true,true,true,true,true,true,true,true,true,true,true,false] rfl rfl (by kernel_rfl) (fun _ _ _ h => h) (Or.inl ⟨by rfl,?_⟩) ?_ ?_;rotate_left
    ·intro w';go_simp
     with_reducible rfl
    rotate_left
    ·simp only [Act.put,List.setIfInBounds_toArray,List.set_cons_zero,List.set_cons_succ,ZaU,Zbc];rfl
    obtain ⟨_,_,_,_,_,k1,_,k3,_⟩:=(HSx.below HB).cells;refine last_ (i:=15) (N:=none) #[true,true,true,true,true,true,true,true,true,true,true,true,true,true,true,true] rfl rfl (by kernel_rfl) (by decide) (fun K hK => ?_);refine skip_ (w1 := ?_) (by rfl) rfl ?_ ?_;rotate_left
    ·go_simp;rfl
    refine hK.out _ _ ?_;clear hK K;refine done_ (by kernel_rfl) ?_;obtain ⟨hsn,hkn⟩:=Zdl HSx HB HO4 hn3 hz3;generalize wz.setCell ⟨gb,1,none⟩ (.slice A4 l3.length c4) = wr2 at hsn hkn ⊢;have HK:=two_ HKx hkn;have HS:=hsn;clear hS hHeld HSx HKx hC2 HB HO4 hn3 hz3 k1 k3;go_wp2;go_roundg (gk - 1)
    case measure => omega
    case rel => exact ⟨_,_,i + 1,rfl,rfl,⟨by first | exact z6 | (have:=Z.out;omega),by omega,by omega,by simp only [ByteArray.size_append];omega,by simp only [ByteArray.size_append];omega⟩,⟨HS⟩,⟨HK⟩⟩
  ·have q2b : decide (I < v) = false:=decide_eq_false q2;(have s0_ : ¬ 9223372036854775807 < s.size + 1:=by omega);have HK:=two_ HK2.out HK;clear HK2 z1 z2
   go_upto_region 13 with (first
    | (go_at_call 40;refine (hB.at_ _ (m + i) _ HD.out (by omega) HS).mono ?_;rintro e wn ⟨t2,rfl,ht2,hsn,hkn⟩;have HK:=two_ HK hkn;have HS:=hsn;have c0:=HS.c0;have s0_ : ¬ 9223372036854775807 < s.size + 1 + t2.size:=(by omega)))
   obtain ⟨_,_,_,_,c0,c1,c2,f1,f2,_⟩:=HS.cells;go_upto_region 14 with (fail);obtain ⟨hsn,hkn⟩:=HS.names (n:=m) (Zec hC HK hf) hc hm' hz hf;generalize wn.setCell ⟨gb,1,none⟩ (.slice A l.length c) = wq at hsn hkn ⊢;have HK:=two_ HK hkn;have HS:=hsn;clear c1 c2 f1 f2;go_wp2;go_ret;exact ⟨_,rfl,by simp only [ByteArray.size_append,ByteArray.size_extract,Nat.min_self,Za4,List.size_toArray,List.length_cons,List.length_nil];omega,by simp only [ByteArray.size_append,ByteArray.size_extract,Nat.min_self,Za4,List.size_toArray,List.length_cons,List.length_nil];omega,HS,HK⟩
end
set_option linter.unusedSimpArgs false
set_option linter.unusedVariables false
section
variable {w0 w : World} {gb cb m : Nat} {L : List Int}
theorem level (hL : L.length ≤ 140737488351232) : ∀ n d,d ≤ n → d ≤ 3 → Zeb w0 gb cb L d ∧ Zhf w0 gb cb L d ∧ Zfk w0 gb cb L d ∧ ZlA w0 gb cb L d:=by
 intro n
 induction n with
 | zero =>
  intro d hd h3;(obtain rfl : d = 0:=by omega);have hE:=ZiQ (w0:=w0) (gb:=gb) (cb:=cb) hL 0 h3 (fun h => absurd rfl h) (fun d' h => by omega);have hS:=Zic hL 0 h3 hE (fun h => absurd rfl h) (fun d' h => by omega);have hB:=Zhc hL 0 h3 hE hS;exact ⟨hE,hS,hB,Zkr hL 0 h3 hB⟩
 | succ n ih =>
  intro d hd h3;rcases Nat.lt_or_ge n d with h | h
  ·obtain rfl : d = n + 1:=by omega
   have hE:=ZiQ (w0:=w0) (gb:=gb) (cb:=cb) hL (n + 1) h3 (fun _ => (ih 0 (by omega) (by omega)).1) (fun d' h => by
    obtain rfl : d' = n:=by omega
    exact ⟨(ih d' (by omega) (by omega)).1,(ih d' (by omega) (by omega)).2.2.2⟩)
   have hE1 : Zeb w0 gb cb L 1:=by
    rcases Nat.eq_zero_or_pos n with h0 | h0
    ·subst h0;exact hE
    ·exact (ih 1 (by omega) (by omega)).1
   have hS:=Zic hL (n + 1) h3 hE (fun _ => hE1) (fun d' h => by
    obtain rfl : d' = n:=by omega
    exact ⟨(ih d' (by omega) (by omega)).2.2.1,(ih d' (by omega) (by omega)).2.1,(ih d' (by omega) (by omega)).2.2.2⟩)
   have hB:=Zhc hL (n + 1) h3 hE hS;exact ⟨hE,hS,hB,Zkr hL (n + 1) h3 hB⟩
  ·exact ih d h h3
theorem St.low {W : World} (h : St w0 gb cb L m W) : Below w0.heap.size w0 W:=by
 obtain ⟨_,_,_,_,_,_,_,_,_,_,_,_,_,_,_,h⟩:=h.out;exact h
theorem Zid (hL : L.length ≤ 140737488351232) (s : ByteArray) (hs : s.size ≤ 1000000000000) (B : Bool) (i h : Int) (hi : 0 ≤ i) : ∃ r i' h',Ev (fun k => ZaG.j0 k s B L i h) (r,i',h') ∧ r.size ≤ s.size + 1 ∧ 0 ≤ i':=by
 by_cases c : B = true ∧ 0 < s.size
 ·obtain ⟨rfl,hs0⟩:=c;obtain ⟨v,i1,h1,e1,hv,hi1⟩:=ZcM L i h (s.size : Int) hL hi (by omega);obtain ⟨t,i2,h2,e2,ht,hi2⟩:=ZeA L i1 h1 1 hL hi1 (by omega);have hw : wrap64 (v + 1) = v + 1:=w64 (by omega) (by omega)
  refine ⟨_,_,_,Ev.step (f:=fun k => (ZaI.f k L i1 h1 1).bind fun bt154 => (if (s.extract 0 (v : Int).toNat).size + bt154.1.size ≤ 9223372036854775807 then (if 0 ≤ (wrap64 (v + 1)) then (if (wrap64 (v + 1)) ≤ (s.size : Int) then (if ((s.extract 0 (v : Int).toNat) ++ bt154.1).size + (s.extract ((wrap64 (v + 1)) : Int).toNat s.size).size ≤ 9223372036854775807 then (some (((s.extract 0 (v : Int).toNat) ++ bt154.1) ++ (s.extract ((wrap64 (v + 1)) : Int).toNat s.size),bt154.2.1,bt154.2.2)) else (none)) else (none)) else (none)) else (none))) (fun k => ?_)
   (Ev.bind e2 (Zaj ?_ (Zaj (by omega) (Zaj (by omega) (Zaj ?_ (Ev.now _)))))),?_,hi2⟩
  ·simp only [ZaG.j0]
   rw [if_pos trivial,if_pos (by omega),e1]
   simp only [Option.bind_some]
   rw [if_pos hv.1,if_pos (by omega)]
  ·simp only [ByteArray.size_extract];omega
  ·simp only [ByteArray.size_append,ByteArray.size_extract];omega
  ·simp only [ByteArray.size_append,ByteArray.size_extract,hw];omega
 ·refine ⟨s,i,h,Ev.step (f:=fun _ => some (s,i,h)) (fun k => ?_) (Ev.now _),by omega,hi⟩;simp only [ZaG.j0];cases B
  ·rw [if_neg (by decide)]
  ·rw [if_pos rfl,if_neg (by have : ¬ 0 < s.size:=fun h => c ⟨rfl,h⟩;omega)]
theorem ZkT (hL : L.length ≤ 140737488351232) (s : ByteArray) (hs : s.size ≤ 1000000000000) (i h : Int) (hi : 0 ≤ i) : ∃ r i' h',Ev (fun k => ZaG.f k L i h s) (r,i',h') ∧ r.size ≤ s.size + 1 ∧ 0 ≤ i':=by
 unfold ZaG.f;obtain ⟨v,i1,h1,e1,hv,hi1⟩:=ZcM L i h 12 hL hi (by omega);rw [e1];simp only [Option.bind_some];by_cases c0 : v = 0
 ·obtain ⟨t,i2,h2,e2,ht,hi2⟩:=ZeA L i1 h1 1 hL hi1 (by omega);exact ⟨s ++ t,i2,h2,Zaj c0 (Ev.bind e2 (Zaj (by show s.size + t.size ≤ _;omega) (Ev.now _))),by rw [ByteArray.size_append];omega,hi2⟩
 ·by_cases c1 : v = 1
  ·have hw : wrap64 ((s.size : Int) + 1) = (s.size : Int) + 1:=w64 (by omega) (by omega);obtain ⟨x,i2,h2,e2,hx,hi2⟩:=ZcM L i1 h1 ((s.size : Int) + 1) hL hi1 (by omega);refine ⟨s.extract 0 (x : Int).toNat,i2,h2,Zai c0 (Zaj c1 (Zaz ?_)),by simp only [ByteArray.size_extract];omega,hi2⟩;rw [hw,e2];simp only [Option.bind_some];rw [if_pos hx.1,if_pos (by omega)]
  ·by_cases c2 : v = 2
   ·obtain ⟨r,i',h',e,hr,hi'⟩:=Zid hL s hs (v == 2) i1 h1 hi1;exact ⟨r,i',h',Zai c0 (Zai c1 (Zaj c2 e)),hr,hi'⟩
   ·obtain ⟨r,i',h',e,hr,hi'⟩:=Zid hL s hs (v == 3) i1 h1 hi1;exact ⟨r,i',h',Zai c0 (Zai c1 (Zai c2 e)),hr,hi'⟩
theorem ZlX (hL : L.length ≤ 140737488351232) (hs : St w0 gb cb L m w) (s : ByteArray) (hz : s.size ≤ 1000000000000) :
  Calls Tryz.prog 15 #[.pointer (some ⟨cb,0,none⟩),.string s] w fun e w' => ∃ t : ByteArray,e = .returned (.string t) ∧ t.size ≤ s.size + 1 ∧ St w0 gb cb L m w' ∧ Kept w w' (One cb):=by
 obtain ⟨i,h,left,A,c,l,h1,h2,h3,h4,h5,h6,h7,h8,h9,h10⟩:=hs.out;obtain ⟨r,i',h',⟨k,e⟩,hr,hi⟩:=ZkT hL s hz i h h2;refine (ZaG.calls k cb L i h s r i' h' w0 w h1 h10 (e k (Nat.le_refl _))).mono ?_;rintro e w' ⟨rfl,hi',hb,hkb⟩;exact ⟨r,rfl,hr,hs.keep hi' hi hb hkb⟩
theorem ZmR (hs : St w0 gb cb L m w) (x : Int) :
  Calls Tryz.prog 18 #[.int .i64 30,.int .u8 x] w fun e w' => ∃ t : ByteArray,e = .returned (.string t) ∧ t.size = 30 ∧ St w0 gb cb L m w':=by
 obtain ⟨s,⟨k,e⟩,hz⟩:=Zl2 30 x (by omega);refine (Zbh.calls k 30 x s w (e k (Nat.le_refl _))).mono ?_;rintro e w' ⟨rfl,hb⟩;exact ⟨s,rfl,hz,hs.below hb⟩
set_option maxHeartbeats 4000000 in
set_option maxRecDepth 100000 in
theorem Zl3 (hL : L.length ≤ 140737488351232) (A1 : Option Addr) (c1 : Nat) {i0 h0 : Int} (hI : Zam w0 w cb L i0 h0) (hi0 : 0 ≤ i0) (hB : Below w0.heap.size w0 w) :
  Calls Tryz.prog 9 #[.pointer (some ⟨cb,0,none⟩),.slice A1 L.length c1] w fun e w' => ∃ t : ByteArray,e = .returned (.string t) ∧ t.size ≤ 100000000000 ∧ Below w0.heap.size w0 w':=by
 have hdiv : ∀ x : Int,0 ≤ x → Int.tdiv x 4 = x / 4:=fun x h => Int.tdiv_eq_ediv_of_nonneg h;go_enter Tryz.func9,Tryz.ntmps9;go_upto_region 2 with (fail);have hx1:=Zer w (.cells #[.pointer (some ⟨cb,0,none⟩),.slice none 0 0,.int .i64 (12 + (L.length : Int) / 4)] 40);have hb1:=Zag (Below.refl _ w) (.cells #[.pointer (some ⟨cb,0,none⟩),.slice none 0 0,.int .i64 (12 + (L.length : Int) / 4)] 40);generalize w.alloc (.cells #[.pointer (some ⟨cb,0,none⟩),.slice none 0 0,.int .i64 (12 + (L.length : Int) / 4)] 40) = w1 at hx1 hb1 ⊢;generalize hgb : w.heap.size = gb at hx1 ⊢;have hge : w.heap.size ≤ gb:=Nat.le_of_eq hgb;clear hgb;have HS : St w0 gb cb L 0 w1:=⟨i0,h0,_,none,0,[],hI.below hb1,hi0,hx1,Nat.le_trans hB.size hge,Kd.C_nil _ _,by simp,by simp,by simp,by simp,ZbC hB hB.size hb1⟩;clear hx1 hb1 hge hI hB hi0;obtain ⟨A,c,left,l,c0,_,c2,_,f2,_⟩:=HS.cells;go_upto_if 20 with (fail);go_cut [] (fun wc => Zaa (St w0 gb cb L 0 wc))
 case first =>
  rcases Bool.eq_false_or_eq_true (decide (50 < left)) with hb | hb
  ·simp only [hb];go_wp2;go_meet
   case rel => exact ⟨(HS.left 50).1⟩
  ·simp only [hb];go_wp2;go_meet
   case rel => exact ⟨HS⟩
 case rest =>
  have HS:=hcut.out;clear hcut;have c0:=HS.c0;go_wp2;have hS3:=(level (w0:=w0) (gb:=gb) (cb:=cb) hL 3 3 (by omega) (by omega)).2.1;go_loopg [6,7] 9 (fun kq v6 v7 w' => ∃ (s : ByteArray) (I : Int) (i : Nat),v6 = .string s ∧ v7 = .int .i64 I ∧ Zaa (I = (i : Int) ∧ i + kq = 9 ∧ i ≤ 7 ∧ s.size ≤ 0 + i * (2 * top 3)) ∧ Zaa (St w0 gb cb L (i * 4) w'))
  case atStart => exact ⟨_,0,0,rfl,rfl,⟨rfl,rfl,by omega,by decide⟩,⟨HS⟩⟩
  case round =>
   obtain ⟨s,I,i,rfl,rfl,HI,HS⟩:=hrel;have HS:=HS.out;have c0:=HS.c0;go_upto_region 6 with (fail);go_cut [40] (fun v40 wc => ∃ B : Bool,v40 = .bool B ∧ Zaa (B = true → I ≤ 6) ∧ Zaa (St w0 gb cb L (i * 4) wc))
   case first =>
    go_wp2_with (first
     | (go_at_call 13;refine (Zci hL HS 6 (by decide)).mono ?_;rintro e wn ⟨v,rfl,hv,hsn,hkn⟩;have HS:=hsn;have c0:=HS.c0;obtain ⟨A2,c2',left2,l2,_,_,d2,_⟩:=HS.cells;have hw : wrap64 (2 + v) = 2 + v:=w64 (by omega) (by omega);have hB1 : decide (I < 2 + v) = true → I ≤ 6:=(fun h => by have:=of_decide_eq_true h;omega);rcases Bool.eq_false_or_eq_true (decide (I < 2 + v)) with hb | hb <;> rcases Bool.eq_false_or_eq_true (decide (0 < left2)) with h2 | h2))
    all_goals go_meet
    all_goals exact ⟨_,rfl,⟨fun h => by first | exact hB1 hb | cases h⟩,⟨HS⟩⟩
   case rest =>
    obtain ⟨B,rfl,HB1,HS⟩:=hcut;have HS:=HS.out;have c0:=HS.c0;cases B
    ·obtain ⟨z1,z2,z3,z4⟩:=HI.out;have ht3 : top 3 = 1000000000:=rfl;(have z5 : s.size ≤ 14000000000:=by have:=Nat.mul_le_mul_right (2 * top 3) z3;omega);clear HI z1 z2 z4
     go_upto_region 10 with (first
      | (go_at_call 13;refine (Zci hL HS 16 (by decide)).mono ?_;rintro e wn ⟨v,rfl,hv,hsn,hkn⟩;have HS:=hsn;have c0:=HS.c0))
     by_cases v0 : v = 0
     ·subst v0
      go_wp2_with (first
       | (go_at_call 15;refine (ZlX hL HS s (by omega)).mono ?_;rintro e wn ⟨t,rfl,ht,hsn,hkn⟩;have HS:=hsn))
      go_ret;exact ⟨_,rfl,by omega,HS.low⟩
     ·have n0 : (v == 0) = false:=beq_eq_false_iff_ne.mpr v0;by_cases v1 : v = 1
      ·subst v1;have hws : wrap64 ((s.size : Int) + 1) = (s.size : Int) + 1:=w64 (by omega) (by omega)
       go_upto_region 14 with (first
        | (go_at_call 13;refine (Zci hL HS ((s.size : Int) + 1) (by omega)).mono ?_;rintro e wm ⟨k,rfl,hk,hsn,hkn⟩;have HS:=hsn))
       have k0:=eq_true hk.1;have k1:=eq_true (show k ≤ (s.size : Int) by omega);have k2:=hk.1;(have k3 : k ≤ (s.size : Int):=by omega);have hB : Kd.C Kd.string (wm.alloc (.cells #[.string ⟨#[32]⟩,.string ⟨#[59]⟩,.string ⟨#[41]⟩,.string ⟨#[125]⟩,.string ⟨#[102,117,110]⟩,.string ⟨#[120]⟩,.string ⟨#[49]⟩] 9)).drew (some ⟨wm.heap.size,0,none⟩) 7 [⟨#[32]⟩,⟨#[59]⟩,⟨#[41]⟩,⟨#[125]⟩,⟨#[102,117,110]⟩,⟨#[120]⟩,⟨#[49]⟩]:=Zd7 (W:=wm) [⟨#[32]⟩,⟨#[59]⟩,⟨#[41]⟩,⟨#[125]⟩,⟨#[102,117,110]⟩,⟨#[120]⟩,⟨#[49]⟩] (by decide);have hfar:=ZcV HS;(have hsz1 : ∀ t : ByteArray,t.size ≤ 3 → ¬ 9223372036854775807 < k.toNat + t.size:=fun t ht => by omega);have hsz2 : ∀ t : ByteArray,t.size ≤ 3 → ¬ 9223372036854775807 < k.toNat + t.size + (s.size - k.toNat):=fun t ht => by omega
       go_region_held3 (fun _ => True) (exact trivial)
        (first
         | (go_at_call 16;(with_reducible refine (Ze7 (z:=3) hL (HS.alloc _).drew hB hfar ?c3 ?c4).mono ?_);(case c3 => decide);(case c4 => decide);rintro e wn ⟨t,rfl,ht,hsn,hkn⟩;have HS:=hsn;have q1:=hsz1 t ht;have q2:=hsz2 t ht)
         | (go_at_call 16;(with_reducible refine (Zc2 (z:=3) hL HS [⟨#[32]⟩,⟨#[59]⟩,⟨#[41]⟩,⟨#[125]⟩,⟨#[102,117,110]⟩,⟨#[120]⟩,⟨#[49]⟩] ?c1 ?c2 ?c3 ?c4 ?c5).mono ?_);(case c1 => rfl);(case c2 => rfl);(case c3 => decide);(case c4 => decide);(case c5 => decide);rintro e wn ⟨t,rfl,ht,hsn,hkn⟩;have HS:=hsn;have q1:=hsz1 t ht;have q2:=hsz2 t ht))
       all_goals go_wp2
       all_goals (go_ret;exact ⟨_,rfl,by simp only [ByteArray.size_append,ByteArray.size_extract,Nat.min_self,Za4,List.size_toArray,List.length_cons,List.length_nil];omega,HS.low⟩)
      ·have n1 : (v == 1) = false:=beq_eq_false_iff_ne.mpr v1;by_cases v2 : v = 2
       ·subst v2
        go_upto_if 76 with (first
         | (go_at_call 17;refine (Zfa hL HS 4 (by decide)).mono ?_;rintro e wn ⟨b0,rfl,hsn,hkn⟩;have HS:=hsn;have c0:=HS.c0))
        cases b0
        ·go_wp2;go_ret;exact ⟨_,rfl,by omega,HS.low⟩
        ·go_wp2_with (first
          | (go_at_call 18;have hq:=hz1;refine (ZmR HS 41).mono ?_;rintro e wn ⟨t2,rfl,hz2,hsn⟩;have HS:=hsn;have s0_ : ¬ 9223372036854775807 < t1.size + 1 + t2.size:=(by omega);have s1_ : ¬ 9223372036854775807 < t1.size + 1 + t2.size + 1:=(by omega))
          | (go_at_call 18;refine (ZmR HS 40).mono ?_;rintro e wn ⟨t1,rfl,hz1,hsn⟩;have HS:=hsn;have s0_ : ¬ 9223372036854775807 < t1.size + 1:=(by omega)))
         go_ret;exact ⟨_,rfl,by simp only [ByteArray.size_append,ByteArray.size_extract,Nat.min_self,Za4,List.size_toArray,List.length_cons,List.length_nil];omega,HS.low⟩
       ·have n2 : (v == 2) = false:=beq_eq_false_iff_ne.mpr v2;go_wp2;go_ret;exact ⟨_,rfl,by omega,HS.low⟩
    ·obtain ⟨z1,z2,z3,z4⟩:=HI.out;have ht3 : top 3 = 1000000000:=rfl;(have z5 : s.size ≤ 14000000000:=by have:=Nat.mul_le_mul_right (2 * top 3) z3;omega);have z7 : I ≤ 6:=HB1.out rfl;(have z9 : wrap64 (I + 1) = ((i + 1 : Nat) : Int):=by rw [w64 (by omega) (by omega)];omega);(have z8 : i ≤ 6:=by omega);have Z:=Zaa.mk z1;clear HI z1
     go_wp2_with (first
      | (go_at_call 14;refine (hS3.at_ _ (i * 4) _ _ rfl (by omega) HS).mono ?_;rintro e wn ⟨t1,rfl,ht1,hsn,hkn⟩;have HS:=hsn;have c0:=HS.c0;have s0_ : ¬ 9223372036854775807 < s.size + t1.size:=(by omega)))
     go_roundg (gk - 1)
     case measure => omega
     case rel => exact ⟨_,_,i + 1,rfl,rfl,⟨by first | exact z9 | (have:=Z.out;omega),by omega,by omega,ZdX z4 (by simp only [ByteArray.size_append];omega)⟩,⟨HS.more (by omega)⟩⟩
set_option maxRecDepth 100000 in
theorem Zls (A0 : Option Addr) (c0 : Nat) (l0 : List Int) (w : World) (hr0 : Kd.C (Kd.int .u8) w A0 l0.length l0) (hc0 : l0.length ≤ c0) (hl : l0.length ≤ 140737488351232) :
  Calls Tryz.prog 5 #[.slice A0 l0.length c0] w fun e w' => ∃ t : ByteArray,e = .returned (.string t) ∧ t.size ≤ 100000000000 ∧ Below w.heap.size w w':=by
 obtain ⟨h,k,e⟩:=ZnZ l0 hl;go_enter Tryz.func5,Tryz.ntmps5
 go_wp2_with (first
  | (go_at_call 10;refine (Zbu.calls k A0 c0 l0 l0 0 h w _ (Below.refl _ _) hr0 hc0 (e k (Nat.le_refl _))).mono ?_;rintro e1 w1 ⟨g,rfl,hI,hB,_⟩)
  | (go_at_call 9;refine (Zl3 hl A0 c0 hI (Int.le_refl 0) hB).mono ?_;rintro e2 w2 ⟨t,rfl,ht,hB2⟩))
 go_ret;exact ⟨t,rfl,ht,hB2⟩
end
end Go.Proofs.YtfoekmfpcahmiabGreatDoor.Gen
