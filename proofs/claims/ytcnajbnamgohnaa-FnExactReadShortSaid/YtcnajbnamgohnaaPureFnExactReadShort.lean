/- At every text of at most 2^20 bytes and every place the program's ReadShort and the reference's tell the same. No condition but the statement's own. -/
import Derived.Test.YtcnajbnamgohnaaPFnExactReadShortx2
import Derived.Test.YtcnajbnamgohnaaCB
namespace Go.Proofs.Ytcnajbnamgohnaa.Pure
open Go.RowKit Go.Proofs.Ytcnajbnamgohnaa.PFnExactReadShort Go.Proofs.YtcnajbnamgohnaaW.PrintWords Go.Proofs.YtcnajbnamgohnaaW.PrintLast Go.Proofs.Ytcnajbnamgohnaa.CB
/-- A number by sevens of bits, the lowest first. -/
def varL (n : Nat) : List Int := if n > 127 then ((n % 128 + 128 : Nat) : Int) :: varL (n / 128) else [(n : Int)]
termination_by n
decreasing_by omega
theorem varL_far (n : Nat) (h : n > 127) : varL n = ((n % 128 + 128 : Nat) : Int) :: varL (n / 128) := by rw [varL]; rw [if_pos h]
theorem varL_end (n : Nat) (h : ¬ n > 127) : varL n = [(n : Int)] := by rw [varL]; rw [if_neg h]
theorem varL_long : ∀ (d n : Nat), n < 128 ^ d → (varL n).length ≤ d + 1 := by
  intro d
  induction d with
  | zero => intro n h; rw [varL_end n (by omega)]; simp
  | succ d ih =>
    intro n h
    by_cases hb : n > 127
    · rw [varL_far n hb]; have := ih (n / 128) (by rw [Nat.pow_succ] at h; omega); simp; omega
    · rw [varL_end n hb]; simp
/-- Whole numbers as bytes, and back. -/
def byteOf (n : Int) : UInt8 := UInt8.ofNat n.toNat
def castL (l : List UInt8) : List Int := l.map fun b => (b.toNat : Int)
theorem str_data (l : List Int) : (strOfNums l).data.toList = l.map byteOf := by unfold strOfNums byteOf; simp
theorem byteOf_cast (l : List UInt8) : (castL l).map byteOf = l := by
  unfold castL
  rw [List.map_map]
  conv => rhs; rw [← List.map_id l]
  apply List.map_congr_left
  intro b _
  simp [byteOf]
theorem cast_byteOf : ∀ (l : List Int), (∀ x ∈ l, 0 ≤ x ∧ x < 256) → castL (l.map byteOf) = l := by
  intro l
  induction l with
  | nil => intro _; rfl
  | cons x l ih =>
    intro h
    have hx := h x (by simp)
    have := ih (fun y hy => h y (by simp [hy]))
    unfold castL at this ⊢
    rw [List.map_cons, List.map_cons, this]
    congr 1
    simp [byteOf]; omega
theorem str_cast (l : List UInt8) : (strOfNums (castL l)).data.toList = l := by rw [str_data, byteOf_cast]
theorem byteArray_ext {a b : ByteArray} (h : a.data.toList = b.data.toList) : a = b := by
  cases a; cases b; congr; exact Array.toList_inj.mp h
theorem str_castA (s : ByteArray) : strOfNums (castL s.data.toList) = s := byteArray_ext (str_cast _)
theorem append_data (a b : ByteArray) : (a ++ b).data.toList = a.data.toList ++ b.data.toList := by simp
theorem varL_tight : ∀ (d n : Nat), 1 ≤ d → n < 128 ^ d → (varL n).length ≤ d := by
  intro d
  induction d with
  | zero => intro n h; omega
  | succ d ih =>
    intro n h1 h
    by_cases hb : n > 127
    · rw [varL_far n hb]
      rw [Nat.pow_succ] at h
      have hd : 1 ≤ d := by
        rcases Nat.eq_zero_or_pos d with e | e
        · subst e; simp at h; omega
        · exact e
      have := ih (n / 128) hd (by omega)
      simp; omega
    · rw [varL_end n hb]; simp
theorem varL_range (n : Nat) : ∀ x ∈ varL n, 0 ≤ x ∧ x < 256 := by
  induction n using Nat.strongRecOn with
  | _ n ih =>
    by_cases hb : n > 127
    · rw [varL_far n hb]
      intro x hx
      rcases List.mem_cons.1 hx with e | e
      · omega
      · exact ih (n / 128) (by omega) x e
    · rw [varL_end n hb]
      intro x hx
      simp at hx; omega
/-- The number of bytes of sevens, the lowest first. -/
def valP : List UInt8 → Nat
  | [] => 0
  | b :: l => b.toNat % 128 + 128 * valP l
theorem valP_snoc (l : List UInt8) (b : UInt8) : valP (l ++ [b]) = valP l + b.toNat % 128 * 128 ^ l.length := by
  induction l with
  | nil => simp [valP]
  | cons c l ih =>
    simp only [List.cons_append, valP, ih, List.length_cons, Nat.pow_succ]
    rw [Nat.mul_add, ← Nat.mul_assoc, Nat.mul_comm 128 (b.toNat % 128), Nat.mul_assoc, Nat.mul_comm 128 (128 ^ l.length)]
    omega
theorem valP_lt (l : List UInt8) : valP l < 128 ^ l.length := by
  induction l with
  | nil => simp [valP]
  | cons c l ih => simp only [valP, List.length_cons, Nat.pow_succ]; omega
theorem canon_yes : ∀ (l : List UInt8) (b : UInt8), (∀ c ∈ l, 128 ≤ c.toNat) → b.toNat < 128 → (l = [] ∨ b.toNat ≠ 0) → varL (valP (l ++ [b])) = castL (l ++ [b]) := by
  intro l
  induction l with
  | nil =>
    intro b _ hb _
    have e : valP ([] ++ [b]) = b.toNat := by simp [valP]; omega
    rw [e, varL_end _ (by omega)]; rfl
  | cons c l ih =>
    intro b hl hb h0
    have hc := hl c (by simp)
    have hc2 := c.toNat_lt
    have h1 := ih b (fun d hd => hl d (by simp [hd])) hb (.inr (by rcases h0 with h | h; · cases h
                                                                   · exact h))
    have hpos : 1 ≤ valP (l ++ [b]) := by
      rw [valP_snoc]
      have h2 : b.toNat ≠ 0 := by rcases h0 with h | h; · cases h
                                  · exact h
      have : 1 ≤ b.toNat % 128 * 128 ^ l.length := Nat.mul_pos (by omega) (Nat.pow_pos (by omega))
      omega
    have e : valP (c :: l ++ [b]) = c.toNat % 128 + 128 * valP (l ++ [b]) := rfl
    rw [e, varL_far _ (by omega), show (c.toNat % 128 + 128 * valP (l ++ [b])) / 128 = valP (l ++ [b]) by omega, h1,
      show (c.toNat % 128 + 128 * valP (l ++ [b])) % 128 + 128 = c.toNat by omega]
    rfl
theorem canon_no (l : List UInt8) (b : UInt8) (hl : l ≠ []) (hb : b.toNat = 0) : varL (valP (l ++ [b])) ≠ castL (l ++ [b]) := by
  intro h
  have h1 : valP (l ++ [b]) = valP l := by rw [valP_snoc, hb]; simp
  have h2 := congrArg List.length h
  rw [h1] at h2
  have hpos : 1 ≤ l.length := by
    rcases l with _ | ⟨_, _⟩
    · exact absurd rfl hl
    · simp
  have := varL_tight l.length (valP l) hpos (valP_lt l)
  simp [castL] at h2; omega
theorem spec_var_l0 : ∀ (d n : Nat) (acc : List Int), n < 128 ^ d → n < 9223372036854775808 → acc.length + d ≤ 1000 → Ev (fun k => spec_l01Var.l0 k (n : Int) acc) (strOfNums (acc ++ varL n)) := by
  intro d
  induction d with
  | zero =>
    intro n acc h hn ha
    rw [varL_end n (by omega)]
    exact Ev.step (f := fun _ => some (strOfNums (acc ++ [(n : Int)]))) (fun k => by simp only [spec_l01Var.l0]; rw [if_neg (by omega), if_pos (by omega), show (n : Int) % 256 = n by omega]) (Ev.now _)
  | succ d ih =>
    intro n acc h hn ha
    by_cases hb : n > 127
    · rw [varL_far n hb]
      have h' := ih (n / 128) (acc ++ [((n % 128 + 128 : Nat) : Int)]) (by rw [Nat.pow_succ] at h; omega) (by omega) (by simp; omega)
      rw [List.append_assoc] at h'
      exact Ev.step (fun k => by
        simp only [spec_l01Var.l0]
        rw [if_pos (by omega), if_pos (by omega), tdivN (by omega), tmodN (by omega), w64 (x := (n : Int) / 128) (by omega) (by omega), w64 (x := (n : Int) % 128 + 128) (by omega) (by omega),
          show ((n : Int) % 128 + 128) % 256 = ((n % 128 + 128 : Nat) : Int) by omega, show (n : Int) / 128 = ((n / 128 : Nat) : Int) by omega]) h'
    · rw [varL_end n hb]
      exact Ev.step (f := fun _ => some (strOfNums (acc ++ [(n : Int)]))) (fun k => by simp only [spec_l01Var.l0]; rw [if_neg (by omega), if_pos (by omega), show (n : Int) % 256 = n by omega]) (Ev.now _)
theorem spec_l01var (n : Nat) (hn : n < 9223372036854775808) : Ev (fun k => spec_l01Var.f k (n : Int)) (strOfNums (varL n)) := by
  unfold spec_l01Var.f; exact spec_var_l0 10 n [] (Nat.lt_trans hn (by decide)) hn (by simp)
/-- What VarText tells. -/
def varT (n : Int) : ByteArray × Bool := if 0 ≤ n ∧ n ≤ 1000000000 then (strOfNums (varL n.toNat), true) else (⟨#[]⟩, false)
theorem varT_in (n : Nat) (h : n ≤ 1000000000) : varT n = (strOfNums (varL n), true) := by unfold varT; rw [if_pos (by omega)]; rfl
theorem impl_in (a b c : Int) : impl_within.f a b c = some (decide (b ≤ a ∧ a ≤ c)) := by
  unfold impl_within.f
  by_cases h : a ≥ b
  · rw [if_pos h]; simp; omega
  · rw [if_neg h]; simp; omega
theorem spec_in (a b c : Int) : spec_l01In.f a b c = some (decide (b ≤ a ∧ a ≤ c)) := by
  unfold spec_l01In.f
  by_cases h : a ≥ b
  · rw [if_pos h]; simp; omega
  · rw [if_neg h]; simp; omega
/-- The bytes of a text from a place on, so many. -/
def cutB (s : ByteArray) (a c : Nat) : List UInt8 := (s.data.toList.drop a).take c
theorem cutB_len (s : ByteArray) (a c : Nat) (h : a + c ≤ s.size) : (cutB s a c).length = c := by
  unfold cutB
  have : s.data.toList.length = s.size := by simp
  rw [List.length_take, List.length_drop]; omega
theorem cutB_snoc (s : ByteArray) (a c : Nat) (h : a + c < s.size) : ∃ b : UInt8, cutB s a (c + 1) = cutB s a c ++ [b] ∧ bt s ((a + c : Nat) : Int) = (b.toNat : Int) := by
  refine ⟨s.data.toList[a + c]'(by simpa using h), ?_, bt_list s (a + c) h⟩
  unfold cutB
  rw [List.take_succ_eq_append_getElem (by simp; omega)]
  simp
theorem extract_cut (s : ByteArray) (a c : Nat) : (s.extract a (a + c)).toList = cutB s a c := by
  rw [ByteArray.toList_eq]
  unfold cutB
  simp
/-- ReadVar from its round c on, with so many rounds left. -/
def rv (s : ByteArray) (a : Nat) : Nat → Nat → Nat → Int × Int × Bool
  | 0, _, _ => (0, 0, false)
  | d + 1, c, n =>
    if a + c < s.size then
      if bt s ((a + c : Nat) : Int) ≥ 128 then rv s a d (c + 1) (n + (bt s ((a + c : Nat) : Int)).toNat % 128 * 128 ^ c)
      else if n + (bt s ((a + c : Nat) : Int)).toNat % 128 * 128 ^ c > 1000000000 then (0, 0, false)
      else if bt s ((a + c : Nat) : Int) = 0 ∧ c > 0 then (0, 0, false)
      else (((n + (bt s ((a + c : Nat) : Int)).toNat % 128 * 128 ^ c : Nat) : Int), ((a + c + 1 : Nat) : Int), true)
    else (0, 0, false)
/-- What ReadVar tells. -/
def readVarT (s : ByteArray) (a : Int) : Int × Int × Bool := if 0 ≤ a ∧ a ≤ s.size then rv s a.toNat 5 0 0 else (0, 0, false)
theorem pow5 (c : Nat) (h : c < 5) : 128 ^ c ≤ 268435456 := by
  have := Nat.pow_le_pow_right (n := 128) (by omega) (show c ≤ 4 by omega)
  simpa using this
theorem and_seven (x : Nat) (hx : x < 256) : Go.bits .and .i64 (wrap64 (x : Int)) 127 = ((x % 128 : Nat) : Int) := by
  rw [w64n (by omega)]
  have h1 := and_i64 x 127 (by omega) (by omega)
  rw [show x &&& 127 = x % 128 from mask x 7] at h1
  exact h1
theorem shl_seven (x c : Nat) (hc : c < 5) : shl .i64 ((x % 128 : Nat) : Int) ((7 * c : Nat) : Int) = ((x % 128 * 128 ^ c : Nat) : Int) := by
  have hp := pow5 c hc
  have hm : x % 128 * 128 ^ c ≤ 127 * 268435456 := Nat.mul_le_mul (by omega) hp
  have hp2 : (2 : Nat) ^ (7 * c) = 128 ^ c := by rw [Nat.pow_mul]
  have hmin : min ((7 * c : Nat) : Int).toNat IntKind.i64.bits = 7 * c := by
    rw [Int.toNat_natCast]
    show min (7 * c) 64 = 7 * c
    omega
  unfold shl
  rw [hmin, wi64]
  have e : ((x % 128 : Nat) : Int) * 2 ^ (7 * c) = ((x % 128 * 128 ^ c : Nat) : Int) := by
    rw [← hp2, Int.natCast_mul, Int.natCast_pow]
    rfl
  rw [e]
  exact w64 (by omega) (by omega)
theorem or_seven (n x c : Nat) (hc : c < 5) (hn : n < 128 ^ c) : Go.bits .or .i64 (n : Int) ((x % 128 * 128 ^ c : Nat) : Int) = ((n + x % 128 * 128 ^ c : Nat) : Int) := by
  have hp := pow5 c hc
  have hm : x % 128 * 128 ^ c ≤ 127 * 268435456 := Nat.mul_le_mul (by omega) hp
  have hp2 : (2 : Nat) ^ (7 * c) = 128 ^ c := by rw [Nat.pow_mul]
  have h1 := or_i64 n (x % 128 * 128 ^ c) (by omega) (by omega)
  have h3 := join (x % 128) n (7 * c) (by rw [hp2]; exact hn)
  rw [hp2, Nat.mul_comm (128 ^ c)] at h3
  have h2 : n ||| (x % 128 * 128 ^ c) = n + x % 128 * 128 ^ c := by rw [Nat.or_comm, h3, Nat.add_comm]
  rw [h2] at h1
  exact h1
theorem impl_rv (s : ByteArray) (a : Nat) (ha : a ≤ s.size) (hs : s.size ≤ 140737488351232) : ∀ (d c n : Nat), 5 - c = d → c ≤ 5 → n < 128 ^ c → n < 34359738368 →
    Ev (fun k => impl_ReadVar.l0 k s (a : Int) (n : Int) ((a + c : Nat) : Int)) (rv s a d c n) := by
  have hj : ∀ (k : Nat) (x7 x8 : Int) (z : Bool), impl_ReadVar.j1 (k + 1) s (a : Int) x7 x8 z = if z = true then (if 0 ≤ x8 then (if x8 < (s.size : Int) then (if 0 ≤ (wrap64 (7 * (wrap64 (x8 - a)))) then (if (wrap64 (bt s x8)) > 127 then (impl_ReadVar.l0 k s a (Go.bits .or .i64 x7 (shl .i64 (Go.bits .and .i64 (wrap64 (bt s x8)) 127) (wrap64 (7 * (wrap64 (x8 - a)))))) (wrap64 (x8 + 1))) else (if (Go.bits .or .i64 x7 (shl .i64 (Go.bits .and .i64 (wrap64 (bt s x8)) 127) (wrap64 (7 * (wrap64 (x8 - a)))))) > 1000000000 then (some (0, 0, false)) else (if (wrap64 (bt s x8)) = 0 then (if x8 > a then (some (0, 0, false)) else (some (Go.bits .or .i64 x7 (shl .i64 (Go.bits .and .i64 (wrap64 (bt s x8)) 127) (wrap64 (7 * (wrap64 (x8 - a))))), wrap64 (x8 + 1), true))) else (some (Go.bits .or .i64 x7 (shl .i64 (Go.bits .and .i64 (wrap64 (bt s x8)) 127) (wrap64 (7 * (wrap64 (x8 - a))))), wrap64 (x8 + 1), true))))) else (none)) else (none)) else (none)) else (some (0, 0, false)) := fun _ _ _ _ => rfl
  intro d
  induction d with
  | zero =>
    intro c n hd hc hn hn2
    obtain rfl : c = 5 := by omega
    have e : wrap64 ((a : Int) + 5) = (a : Int) + 5 := w64 (by omega) (by omega)
    by_cases hlt : a + 5 < s.size
    · refine Ev.step (f := fun k => impl_ReadVar.j1 k s a n ((a + 5 : Nat) : Int) false) (fun k => ?_) (Ev.step (f := fun _ => some (0, 0, false)) (fun k => by rw [hj]; rfl) (Ev.now _))
      simp only [impl_ReadVar.l0]
      rw [if_pos (by omega), e, decide_eq_false (by omega)]
    · refine Ev.step (f := fun k => impl_ReadVar.j1 k s a n ((a + 5 : Nat) : Int) false) (fun k => ?_) (Ev.step (f := fun _ => some (0, 0, false)) (fun k => by rw [hj]; rfl) (Ev.now _))
      simp only [impl_ReadVar.l0]
      rw [if_neg (by omega)]
  | succ d ih =>
    intro c n hd hc hn hn2
    have e : wrap64 ((a : Int) + 5) = (a : Int) + 5 := w64 (by omega) (by omega)
    by_cases hlt : a + c < s.size
    · have hb := bt_range s ((a + c : Nat) : Int)
      have hp := pow5 c (by omega)
      refine Ev.step (f := fun k => impl_ReadVar.j1 k s a n ((a + c : Nat) : Int) true) (fun k => ?_) ?_
      · simp only [impl_ReadVar.l0]
        rw [if_pos (by omega), e, decide_eq_true (by omega)]
      · unfold rv
        rw [if_pos hlt]
        generalize hbt : bt s ((a + c : Nat) : Int) = x at hb ⊢
        obtain ⟨x, rfl⟩ : ∃ m : Nat, x = m := ⟨x.toNat, by omega⟩
        have hx256 : x < 256 := by omega
        clear hb
        have hc5 : c < 5 := by omega
        have e0 : wrap64 (((a + c : Nat) : Int) - a) = (c : Int) := by rw [w64 (by omega) (by omega)]; omega
        have e1 : wrap64 (7 * (c : Int)) = ((7 * c : Nat) : Int) := by rw [w64 (by omega) (by omega)]; omega
        have hac : a + c < 9223372036854775807 := by omega
        have p1 : (0 : Int) ≤ ((a + c : Nat) : Int) := by omega
        have p2 : ((a + c : Nat) : Int) < (s.size : Int) := by omega
        have p3 : (0 : Int) ≤ ((7 * c : Nat) : Int) := by omega
        have hx127 : x % 128 ≤ 127 := by omega
        have hr : ∀ k, impl_ReadVar.j1 (k + 1) s (a : Int) (n : Int) ((a + c : Nat) : Int) true = if (x : Int) > 127 then impl_ReadVar.l0 k s a ((n + x % 128 * 128 ^ c : Nat) : Int) ((a + (c + 1) : Nat) : Int) else (if ((n + x % 128 * 128 ^ c : Nat) : Int) > 1000000000 then some (0, 0, false) else if (x : Int) = 0 then (if ((a + c : Nat) : Int) > a then some (0, 0, false) else some (((n + x % 128 * 128 ^ c : Nat) : Int), ((a + c + 1 : Nat) : Int), true)) else some (((n + x % 128 * 128 ^ c : Nat) : Int), ((a + c + 1 : Nat) : Int), true)) := by
          intro k
          rw [hj, if_pos rfl, if_pos p1, if_pos p2, hbt, e0, e1, if_pos p3, and_seven x hx256, shl_seven x c hc5, or_seven n x c hc5 hn, w64s hac, w64n (Nat.lt_trans hx256 (by decide))]
          rfl
        rw [Int.toNat_natCast]
        have hm := Nat.mul_le_mul hx127 hp
        have hm2 : x % 128 * 128 ^ c ≤ 127 * 128 ^ c := Nat.mul_le_mul_right _ hx127
        have ih' := ih (c + 1) (n + x % 128 * 128 ^ c) (by omega) (by omega)
        rw [Nat.pow_succ] at ih'
        clear e0 e1 hbt hj ih
        generalize x % 128 * 128 ^ c = m at hr hm hm2 ih' ⊢
        generalize 128 ^ c = q at hn hp hm2 ih'
        have ih'' := ih' (by omega) (by omega)
        by_cases h1 : x ≥ 128
        · rw [if_pos (by omega)]
          exact Ev.step (fun k => by rw [hr k, if_pos (by omega)]) ih''
        · rw [if_neg (by omega)]
          by_cases h2 : n + m > 1000000000
          · rw [if_pos h2]
            exact Ev.step (f := fun _ => some (0, 0, false)) (fun k => by rw [hr k, if_neg (by omega), if_pos (by omega)]) (Ev.now _)
          · rw [if_neg h2]
            by_cases h3 : (x : Int) = 0
            · by_cases h4 : c > 0
              · rw [if_pos ⟨h3, h4⟩]
                exact Ev.step (f := fun _ => some (0, 0, false)) (fun k => by rw [hr k, if_neg (by omega), if_neg (by omega), if_pos h3, if_pos (by omega)]) (Ev.now _)
              · rw [if_neg (fun hh => h4 hh.2)]
                exact Ev.step (f := fun _ => some _) (fun k => by rw [hr k, if_neg (by omega), if_neg (by omega), if_pos h3, if_neg (by omega)]) (Ev.now _)
            · rw [if_neg (fun hh => h3 hh.1)]
              exact Ev.step (f := fun _ => some _) (fun k => by rw [hr k, if_neg (by omega), if_neg (by omega), if_neg h3]) (Ev.now _)
    · have : rv s a (d + 1) c n = (0, 0, false) := by unfold rv; rw [if_neg hlt]
      rw [this]
      refine Ev.step (f := fun k => impl_ReadVar.j1 k s a n ((a + c : Nat) : Int) false) (fun k => ?_) (Ev.step (f := fun _ => some (0, 0, false)) (fun k => by rw [hj]; rfl) (Ev.now _))
      simp only [impl_ReadVar.l0]
      rw [if_neg (by omega)]
theorem impl_readVar (s : ByteArray) (hs : s.size ≤ 140737488351232) (a : Int) : Ev (fun k => impl_ReadVar.f k s a) (readVarT s a) := by
  unfold impl_ReadVar.f readVarT
  rw [impl_in]
  simp only [Option.bind_some]
  by_cases h : 0 ≤ a ∧ a ≤ s.size
  · rw [if_pos h]
    obtain ⟨m, rfl⟩ : ∃ m : Nat, a = m := ⟨a.toNat, by omega⟩
    simp only [decide_eq_true h, if_true]
    exact impl_rv s m (by omega) hs 5 0 0 rfl (by omega) (by simp) (by omega)
  · rw [if_neg h]
    simp only [decide_eq_false h]
    exact Ev.now _
theorem spec_next (v x c : Nat) (hx : x < 256) (hc : c < 5) (hv : v < 128 ^ c) : wrap64 ((v : Int) + wrap64 (Int.tmod (wrap64 (x : Int)) 128 * ((128 ^ c : Nat) : Int))) = ((v + x % 128 * 128 ^ c : Nat) : Int) := by
  have hp := pow5 c hc
  have hx127 : x % 128 ≤ 127 := by omega
  have hm := Nat.mul_le_mul hx127 hp
  rw [w64n (x := x) (Nat.lt_trans hx (by decide)), tmodN (Int.natCast_nonneg _), show ((x : Int) % 128) * ((128 ^ c : Nat) : Int) = ((x % 128 * 128 ^ c : Nat) : Int) by rw [Int.natCast_mul]; rfl]
  generalize x % 128 * 128 ^ c = m at hm ⊢
  generalize 128 ^ c = q at hp hv
  rw [w64n (x := m) (by omega), ← Int.natCast_add, w64n (by omega)]
theorem spec_scale (c : Nat) (hc : c < 5) : wrap64 (((128 ^ c : Nat) : Int) * 128) = ((128 ^ (c + 1) : Nat) : Int) := by
  have hp := pow5 c hc
  rw [Nat.pow_succ]
  generalize 128 ^ c = q at hp ⊢
  rw [w64 (by omega) (by omega)]; rfl
theorem spec_rv (s : ByteArray) (a : Nat) (ha : a ≤ s.size) (hs : s.size ≤ 140737488351232) : ∀ (d c : Nat), 5 - c = d → c ≤ 5 → a + c ≤ s.size → (∀ b ∈ cutB s a c, 128 ≤ b.toNat) →
    Ev (fun k => spec_ReadVar.l0 k s (a : Int) ((valP (cutB s a c) : Nat) : Int) ((128 ^ c : Nat) : Int) ((a + c : Nat) : Int)) (rv s a d c (valP (cutB s a c))) := by
  have hj : ∀ (k : Nat) (x7 x8 x9 : Int) (z : Bool), spec_ReadVar.j1 (k + 1) s (a : Int) x7 x8 x9 z = if z = true then (if 0 ≤ x9 then (if x9 < (s.size : Int) then (if (bt s x9) < 128 then (if (wrap64 (x7 + (wrap64 ((Int.tmod (wrap64 (bt s x9)) 128) * x8)))) > 1000000000 then (some (0, 0, false)) else ((spec_l01Var.f k (wrap64 (x7 + (wrap64 ((Int.tmod (wrap64 (bt s x9)) 128) * x8))))).bind fun t111 => (if 0 ≤ (a : Int) then (if (a : Int) ≤ (wrap64 (x9 + 1)) then (if (wrap64 (x9 + 1)) ≤ (s.size : Int) then (if t111.toList = (s.extract (a : Int).toNat ((wrap64 (x9 + 1)) : Int).toNat).toList then (some (wrap64 (x7 + (wrap64 ((Int.tmod (wrap64 (bt s x9)) 128) * x8))), wrap64 (x9 + 1), true)) else (some (0, 0, false))) else (none)) else (none)) else (none)))) else (spec_ReadVar.l0 k s a (wrap64 (x7 + (wrap64 ((Int.tmod (wrap64 (bt s x9)) 128) * x8)))) (wrap64 (x8 * 128)) (wrap64 (x9 + 1)))) else (none)) else (none)) else (some (0, 0, false)) := fun _ _ _ _ _ => rfl
  intro d
  induction d with
  | zero =>
    intro c hd hc hac hl
    obtain rfl : c = 5 := by omega
    have e : wrap64 ((a : Int) + 5) = (a : Int) + 5 := w64 (by omega) (by omega)
    by_cases hlt : a + 5 < s.size
    · refine Ev.step (f := fun k => spec_ReadVar.j1 k s a ((valP (cutB s a 5) : Nat) : Int) ((128 ^ 5 : Nat) : Int) ((a + 5 : Nat) : Int) false) (fun k => ?_) (Ev.step (f := fun _ => some (0, 0, false)) (fun k => by rw [hj]; rfl) (Ev.now _))
      simp only [spec_ReadVar.l0]
      rw [if_pos (by omega), e, decide_eq_false (by omega)]
    · refine Ev.step (f := fun k => spec_ReadVar.j1 k s a ((valP (cutB s a 5) : Nat) : Int) ((128 ^ 5 : Nat) : Int) ((a + 5 : Nat) : Int) false) (fun k => ?_) (Ev.step (f := fun _ => some (0, 0, false)) (fun k => by rw [hj]; rfl) (Ev.now _))
      simp only [spec_ReadVar.l0]
      rw [if_neg (by omega)]
  | succ d ih =>
    intro c hd hc hac hl
    have e : wrap64 ((a : Int) + 5) = (a : Int) + 5 := w64 (by omega) (by omega)
    have hlen := cutB_len s a c hac
    have hv := valP_lt (cutB s a c)
    rw [hlen] at hv
    have hp := pow5 c (by omega)
    by_cases hlt : a + c < s.size
    · refine Ev.step (f := fun k => spec_ReadVar.j1 k s a ((valP (cutB s a c) : Nat) : Int) ((128 ^ c : Nat) : Int) ((a + c : Nat) : Int) true) (fun k => ?_) ?_
      · simp only [spec_ReadVar.l0]
        rw [if_pos (by omega), e, decide_eq_true (by omega)]
      · unfold rv
        rw [if_pos hlt]
        obtain ⟨b, hcut, hbt⟩ := cutB_snoc s a c hlt
        have hb := b.toNat_lt
        rw [hbt]
        have hvs := valP_snoc (cutB s a c) b
        rw [hlen, ← hcut] at hvs
        have hc5 : c < 5 := by omega
        have hac1 : a + c < 9223372036854775807 := by omega
        have p1 : (0 : Int) ≤ ((a + c : Nat) : Int) := by omega
        have p2 : ((a + c : Nat) : Int) < (s.size : Int) := by omega
        have p3 : (0 : Int) ≤ (a : Int) := by omega
        have p4 : (a : Int) ≤ ((a + (c + 1) : Nat) : Int) := by omega
        have p5 : ((a + (c + 1) : Nat) : Int) ≤ (s.size : Int) := by omega
        have e1 := spec_next (valP (cutB s a c)) b.toNat c hb hc5 hv
        rw [← hvs] at e1
        have hr : ∀ k, spec_ReadVar.j1 (k + 1) s (a : Int) ((valP (cutB s a c) : Nat) : Int) ((128 ^ c : Nat) : Int) ((a + c : Nat) : Int) true = if (b.toNat : Int) < 128 then (if ((valP (cutB s a (c + 1)) : Nat) : Int) > 1000000000 then (some (0, 0, false)) else ((spec_l01Var.f k ((valP (cutB s a (c + 1)) : Nat) : Int)).bind fun t111 => if t111.toList = cutB s a (c + 1) then some (((valP (cutB s a (c + 1)) : Nat) : Int), ((a + (c + 1) : Nat) : Int), true) else some (0, 0, false))) else spec_ReadVar.l0 k s a ((valP (cutB s a (c + 1)) : Nat) : Int) ((128 ^ (c + 1) : Nat) : Int) ((a + (c + 1) : Nat) : Int) := by
          intro k
          rw [hj, if_pos rfl, if_pos p1, if_pos p2, hbt, e1, w64s hac1, spec_scale c hc5]
          simp only [show a + c + 1 = a + (c + 1) from rfl, Int.toNat_natCast, extract_cut, if_pos p3, if_pos p4, if_pos p5]
        rw [Int.toNat_natCast, ← hvs]
        clear e1 hj hbt hp
        have hv5 : valP (cutB s a (c + 1)) < 9223372036854775808 := by
          have h1 := valP_lt (cutB s a (c + 1))
          rw [cutB_len s a (c + 1) (by omega)] at h1
          exact Nat.lt_of_lt_of_le h1 (Nat.le_trans (Nat.pow_le_pow_right (n := 128) (by omega) (show c + 1 ≤ 5 by omega)) (by decide))
        clear hv hvs
        by_cases h1 : b.toNat ≥ 128
        · rw [if_pos (by omega)]
          refine Ev.step (fun k => by rw [hr k, if_neg (by omega)]) (ih (c + 1) (by omega) (by omega) (by omega) ?_)
          rw [hcut]
          intro x hx
          rcases List.mem_append.1 hx with h | h
          · exact hl x h
          · simp at h; rw [h]; exact h1
        · rw [if_neg (by omega)]
          by_cases h2 : valP (cutB s a (c + 1)) > 1000000000
          · rw [if_pos h2]
            exact Ev.step (f := fun _ => some (0, 0, false)) (fun k => by rw [hr k, if_pos (by omega), if_pos (by omega)]) (Ev.now _)
          · rw [if_neg h2]
            refine Ev.step (f := fun k => (spec_l01Var.f k ((valP (cutB s a (c + 1)) : Nat) : Int)).bind fun t111 => if t111.toList = cutB s a (c + 1) then some (((valP (cutB s a (c + 1)) : Nat) : Int), ((a + (c + 1) : Nat) : Int), true) else some (0, 0, false)) (fun k => by rw [hr k, if_pos (by omega), if_neg (by omega)]) ?_
            refine Ev.bind (spec_l01var _ hv5) ?_
            rw [ByteArray.toList_eq, str_data]
            by_cases h3 : (b.toNat : Int) = 0 ∧ c > 0
            · rw [if_pos h3]
              have hne : cutB s a c ≠ [] := by intro h; rw [h] at hlen; simp at hlen; omega
              have hno := canon_no (cutB s a c) b hne (by omega)
              rw [← hcut] at hno
              have : ¬ (varL (valP (cutB s a (c + 1)))).map byteOf = cutB s a (c + 1) := by
                intro h
                have := congrArg castL h
                rw [cast_byteOf _ (varL_range _)] at this
                exact hno this
              simp only [if_neg this]
              exact Ev.now _
            · rw [if_neg h3]
              have hyes := canon_yes (cutB s a c) b hl (by omega) (by
                by_cases h4 : b.toNat = 0
                · left
                  have : c = 0 := by
                    rcases Nat.eq_zero_or_pos c with e | e
                    · exact e
                    · exact absurd ⟨by omega, e⟩ h3
                  subst this; rfl
                · exact .inr h4)
              rw [← hcut] at hyes
              have : (varL (valP (cutB s a (c + 1)))).map byteOf = cutB s a (c + 1) := by rw [hyes, byteOf_cast]
              simp only [if_pos this]
              exact Ev.now _
    · have : rv s a (d + 1) c (valP (cutB s a c)) = (0, 0, false) := by unfold rv; rw [if_neg hlt]
      rw [this]
      refine Ev.step (f := fun k => spec_ReadVar.j1 k s a ((valP (cutB s a c) : Nat) : Int) ((128 ^ c : Nat) : Int) ((a + c : Nat) : Int) false) (fun k => ?_) (Ev.step (f := fun _ => some (0, 0, false)) (fun k => by rw [hj]; rfl) (Ev.now _))
      simp only [spec_ReadVar.l0]
      rw [if_neg (by omega)]
theorem spec_readVar (s : ByteArray) (hs : s.size ≤ 140737488351232) (a : Int) : Ev (fun k => spec_ReadVar.f k s a) (readVarT s a) := by
  unfold spec_ReadVar.f readVarT
  rw [spec_in]
  simp only [Option.bind_some]
  by_cases h : 0 ≤ a ∧ a ≤ s.size
  · rw [if_pos h]
    obtain ⟨m, rfl⟩ : ∃ m : Nat, a = m := ⟨a.toNat, by omega⟩
    simp only [decide_eq_true h, if_true]
    have := spec_rv s m (by omega) hs 5 0 rfl (by omega) (by omega) (by intro b hb; simp [cutB] at hb)
    exact this
  · rw [if_neg h]
    simp only [decide_eq_false h]
    exact Ev.now _
/-- What ReadVar tells is in its bounds. -/
theorem rv_range (s : ByteArray) (a : Nat) : ∀ (d c n : Nat), 0 ≤ (rv s a d c n).1 ∧ (rv s a d c n).1 ≤ 1000000000 ∧ 0 ≤ (rv s a d c n).2.1 ∧ (rv s a d c n).2.1 ≤ s.size := by
  intro d
  induction d with
  | zero => intro c n; simp [rv]
  | succ d ih =>
    intro c n
    unfold rv
    split
    · split
      · exact ih _ _
      · split
        · simp
        · split
          · simp
          · simp only; omega
    · simp
theorem readVarT_range (s : ByteArray) (a : Int) : 0 ≤ (readVarT s a).1 ∧ (readVarT s a).1 ≤ 1000000000 ∧ 0 ≤ (readVarT s a).2.1 ∧ (readVarT s a).2.1 ≤ s.size := by
  unfold readVarT
  split
  · exact rv_range s _ _ _ _
  · simp
/-- What ReadShort tells. -/
def readShortT (s : ByteArray) (a : Int) : ByteArray × Int × Bool :=
  if (readVarT s a).2.2 = true then
    if (readVarT s a).1 > 12000 then (⟨#[]⟩, 0, false)
    else if (readVarT s a).1 > (s.size : Int) - (readVarT s a).2.1 then (⟨#[]⟩, 0, false)
    else (s.extract (readVarT s a).2.1.toNat ((readVarT s a).2.1 + (readVarT s a).1).toNat, (readVarT s a).2.1 + (readVarT s a).1, true)
  else (⟨#[]⟩, 0, false)
theorem short_tail (s : ByteArray) (hs : s.size ≤ 140737488351232) (r : Int × Int × Bool) (h : 0 ≤ r.1 ∧ r.1 ≤ 1000000000 ∧ 0 ≤ r.2.1 ∧ r.2.1 ≤ s.size) :
    (if r.2.2 = true then (if r.1 > 12000 then (some ((⟨#[]⟩ : ByteArray), (0 : Int), false)) else (if r.1 > (wrap64 ((s.size : Int) - r.2.1)) then (some ((⟨#[]⟩ : ByteArray), 0, false)) else (if 0 ≤ r.2.1 then (if r.2.1 ≤ (wrap64 (r.2.1 + r.1)) then (if (wrap64 (r.2.1 + r.1)) ≤ (s.size : Int) then (some (s.extract (r.2.1 : Int).toNat ((wrap64 (r.2.1 + r.1)) : Int).toNat, wrap64 (r.2.1 + r.1), true)) else (none)) else (none)) else (none)))) else (some ((⟨#[]⟩ : ByteArray), 0, false))) =
    some (if r.2.2 = true then
    if r.1 > 12000 then ((⟨#[]⟩ : ByteArray), (0 : Int), false)
    else if r.1 > (s.size : Int) - r.2.1 then (⟨#[]⟩, 0, false)
    else (s.extract r.2.1.toNat (r.2.1 + r.1).toNat, r.2.1 + r.1, true)
  else (⟨#[]⟩, 0, false)) := by
  obtain ⟨h1, h2, h3, h4⟩ := h
  rw [w64 (x := (s.size : Int) - r.2.1) (by omega) (by omega), w64 (x := r.2.1 + r.1) (by omega) (by omega)]
  by_cases c1 : r.2.2 = true
  · rw [if_pos c1, if_pos c1]
    by_cases c2 : r.1 > 12000
    · rw [if_pos c2, if_pos c2]
    · rw [if_neg c2, if_neg c2]
      by_cases c3 : r.1 > (s.size : Int) - r.2.1
      · rw [if_pos c3, if_pos c3]
      · rw [if_neg c3, if_neg c3, if_pos h3, if_pos (by omega), if_pos (by omega)]
  · rw [if_neg c1, if_neg c1]
theorem spec_readShort (s : ByteArray) (hs : s.size ≤ 140737488351232) (a : Int) : Ev (fun k => spec_ReadShort.f k s a) (readShortT s a) := by
  unfold spec_ReadShort.f readShortT
  refine Ev.bind (spec_readVar s hs a) ?_
  rw [short_tail s hs _ (readVarT_range s a)]
  exact Ev.now _
theorem impl_readShort (s : ByteArray) (hs : s.size ≤ 140737488351232) (a : Int) : Ev (fun k => impl_ReadShort.f k s a) (readShortT s a) := by
  unfold impl_ReadShort.f readShortT
  refine Ev.bind (impl_readVar s hs a) ?_
  rw [short_tail s hs _ (readVarT_range s a)]
  exact Ev.now _
theorem FnExactReadShort : laws_FnExactReadShort.Pure := by
  intro s a hs ha
  unfold laws_FnExactReadShort.f
  by_cases h : (s.size : Int) > 1048576
  · exact ⟨0, if_pos h⟩
  · simp only [if_neg h]
    exact Ev.rounds (Ev.bind (spec_readShort s hs a) (Ev.bind (impl_readShort s hs a) (by simpa using Ev.now true)))
end Go.Proofs.Ytcnajbnamgohnaa.Pure
