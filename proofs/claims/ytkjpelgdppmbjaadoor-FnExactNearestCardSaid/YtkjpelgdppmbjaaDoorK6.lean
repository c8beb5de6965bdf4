/- Walks of the library's number reading: ParseFloat. -/
import Derived.Test.YtkjpelgdppmbjaaDoorK5
import Derived.Test.YtkjpelgdppmbjaaDoorShelf
import Derived.Laws.Externs
namespace Go.Proofs.YtkjpelgdppmbjaaDoor.SF
open Go.RowKit Go.Proofs.YtkjpelgdppmbjaaDoorW.PrintWords Go.Proofs.YtkjpelgdppmbjaaDoor.CB Go.Proofs.YtkjpelgdppmbjaaDoor.CQ Go.Proofs.YtkjpelgdppmbjaaDoor.PN

theorem parsePrefix_calls (s : ByteArray) (w : World) (Q : Nat → Value → Prop)
    (hat : Calls Tryd.prog 36 #[.string s] w fun e w' => (∃ (x : Nat) (er : Value), e = .returned (.tuple #[.float .f64 x, .int .i64 s.size, er]) ∧ Q x er) ∧ Below w.heap.size w w') :
    Calls Tryd.prog 30 #[.string s, .int .i64 64] w fun e w' => (∃ (x : Nat) (er : Value), e = .returned (.tuple #[.float .f64 x, .int .i64 s.size, er]) ∧ Q x er) ∧ Below w.heap.size w w' := by
  have HAT := Lib.hid hat
  clear hat
  go_enter Tryd.func30, Tryd.ntmps30
  go_wp2_with (go_at_call 36; ((with_reducible refine HAT.out.mono ?_); rintro e w' ⟨⟨x, er, rfl, hq⟩, hb⟩))
  all_goals go_ret3
  all_goals exact ⟨⟨x, er, rfl, hq⟩, by first | exact hb | exact pw_below_drewN hb _⟩
theorem parseFloat_in (s : ByteArray) (w : World) (Q : Nat → Value → Prop)
    (hpf : Calls Tryd.prog 30 #[.string s, .int .i64 64] w fun e w' => (∃ (x : Nat) (er : Value), e = .returned (.tuple #[.float .f64 x, .int .i64 s.size, er]) ∧ Q x er) ∧ Below w.heap.size w w') :
    Calls Tryd.prog 24 #[.string s, .int .i64 64] w fun e w' => (∃ (x : Nat) (er : Value), e = .returned (.tuple #[.float .f64 x, er]) ∧ Q x er) ∧ Below w.heap.size w w' := by
  have HPF := Lib.hid hpf
  clear hpf
  go_enter Tryd.func24, Tryd.ntmps24
  go_wp2_with (go_at_call 30; ((with_reducible refine HPF.out.mono ?_); rintro e w' ⟨⟨x, er, rfl, hq⟩, hb⟩))
  all_goals go_ret2
  all_goals exact ⟨⟨x, er, rfl, hq⟩, by first | exact hb | exact pw_below_drewN hb _⟩
end Go.Proofs.YtkjpelgdppmbjaaDoor.SF
namespace Go.Proofs.YtkjpelgdppmbjaaDoor.SF
open Go.RowKit Go.Proofs.YtkjpelgdppmbjaaDoorW.PrintWords Go.Proofs.YtkjpelgdppmbjaaDoor.CB Go.Proofs.YtkjpelgdppmbjaaDoor.CQ Go.Proofs.YtkjpelgdppmbjaaDoor.PN

theorem word_calls (x : Nat) (w : World) (hx : x ≤ 9218868437227405312) : Calls Tryd.prog 16 #[.float .f64 x] w fun e w' => e = .returned (.int .u64 x) ∧ w = w' := by
  have hc : ∀ W, (callFunc 26 #[.float .f64 x]).run Tryd.prog W = .ok (.value (.int .u64 x)) W := fun W => by
    rw [run_callFunc_extern Tryd.func26 (by kernel_rfl) (by kernel_rfl) (by kernel_rfl) (e := Extern.MathFloatBits.float64bits) (by kernel_rfl)]; rfl
  have ho : (FloatKind.f64.format.order x x != some .eq) = false := by
    have h : (FloatKind.f64.format.order x x == some .eq) = true := (order_words x x hx hx).trans (decide_eq_true rfl)
    show (!(FloatKind.f64.format.order x x == some .eq)) = false
    rw [h]; rfl
  go_enter Tryd.func16, Tryd.ntmps16
  go_wp2
  go_ret
  exact ⟨rfl, rfl⟩
theorem parseFloat_out (s : ByteArray) (w : World) (Q : Nat → Prop) (ev : Value) (hs : s.size ≤ 1000) (hblk : 2 < w.heap.size) (hv : w.cell? ⟨2, 0, none⟩ = some ev) (hev : ev = .nilIface ∨ ∃ te pe, ev = .iface te pe)
    (hpf : Calls Tryd.prog 24 #[.string s, .int .i64 64] w fun e w' => (∃ (x : Nat) (er : Value), e = .returned (.tuple #[.float .f64 x, er]) ∧ ErrOr er ∧ Q x) ∧ Below w.heap.size w w') :
    Calls Tryd.prog 14 #[.string s, .int .i64 64] w fun e w' => (∃ (x : Nat) (er : Value), e = .returned (.tuple #[.float .f64 x, er]) ∧ Q x) ∧ Below w.heap.size w w' := by
  have HPF := Lib.hid hpf
  clear hpf
  go_enter Tryd.func14, Tryd.ntmps14
  go_wp2_with (first | (go_at_call 24; ((with_reducible refine HPF.out.mono ?_); rintro e w' ⟨⟨x, er, rfl, (rfl | rfl), hq⟩, hb⟩)) | (go_at_call 25; ((with_reducible refine (Tryd.strconv_toError_range _ _ _ _ ev _ (by omega) ((hb.cell (p := ⟨_, 0, none⟩) hblk).trans hv) hev).mono ?_); rintro e w' ⟨N, rfl, _, _, hb2⟩)))
  all_goals go_ret2
  all_goals exact ⟨⟨x, _, rfl, hq⟩, by first | exact hb | exact hb.trans (hb2.mono hb.size) | exact pw_below_drewN hb _ | exact pw_below_drewN (hb.trans (hb2.mono hb.size)) _⟩
end Go.Proofs.YtkjpelgdppmbjaaDoor.SF
