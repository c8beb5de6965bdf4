/- Walks of the library's number reading: ParseFloat. -/
import Derived.Test.YtkjpelgdppmbjaaGreatDoorSTZip
import Derived.Test.YtkjpelgdppmbjaaGreatDoorSTK5
import Derived.Test.YtkjpelgdppmbjaaGreatDoorSTShelf
import Derived.Laws.Externs
namespace Go.Proofs.YtkjpelgdppmbjaaGreatDoor.SF
open Go.RowKit YtkjpelgdppmbjaaGreatDoorW.PrintWords CB CQ PN

theorem parsePrefix_calls (s : ByteArray) (w : World) (Q : Nat → Value → Prop)
  (hat : Calls Tryz.prog 160 #[.string s] w fun e w' => (∃ (x : Nat) (er : Value), e = .returned (.tuple #[.float .f64 x, .int .i64 s.size, er]) ∧ Q x er) ∧ Below w.heap.size w w') :
  Calls Tryz.prog 129 #[.string s, .int .i64 64] w fun e w' => (∃ (x : Nat) (er : Value), e = .returned (.tuple #[.float .f64 x, .int .i64 s.size, er]) ∧ Q x er) ∧ Below w.heap.size w w' := by
 have HAT := Lib.hid hat
 clear hat
 go_enter Tryz.func129, Tryz.ntmps129
 go_wp2_with (go_at_call 160; ((with_reducible refine HAT.out.mono ?_); rintro e w' ⟨⟨x, er, rfl, hq⟩, hb⟩))
 all_goals go_ret3
 all_goals exact ⟨⟨x, er, rfl, hq⟩, by first | exact hb | exact pw_below_drewN hb _⟩
theorem parseFloat_in (s : ByteArray) (w : World) (Q : Nat → Value → Prop)
  (hpf : Calls Tryz.prog 129 #[.string s, .int .i64 64] w fun e w' => (∃ (x : Nat) (er : Value), e = .returned (.tuple #[.float .f64 x, .int .i64 s.size, er]) ∧ Q x er) ∧ Below w.heap.size w w') :
  Calls Tryz.prog 82 #[.string s, .int .i64 64] w fun e w' => (∃ (x : Nat) (er : Value), e = .returned (.tuple #[.float .f64 x, er]) ∧ Q x er) ∧ Below w.heap.size w w' := by
 have HPF := Lib.hid hpf
 clear hpf
 go_enter Tryz.func82, Tryz.ntmps82
 go_wp2_with (go_at_call 129; ((with_reducible refine HPF.out.mono ?_); rintro e w' ⟨⟨x, er, rfl, hq⟩, hb⟩))
 all_goals go_ret2
 all_goals exact ⟨⟨x, er, rfl, hq⟩, by first | exact hb | exact pw_below_drewN hb _⟩

theorem word_calls (x : Nat) (w : World) (hx : x ≤ 9218868437227405312) : Calls Tryz.prog 47 #[.float .f64 x] w fun e w' => e = .returned (.int .u64 x) ∧ w = w' := by
 have hc : ∀ W, (callFunc 84 #[.float .f64 x]).run Tryz.prog W = .ok (.value (.int .u64 x)) W := fun W => by
  rw [run_callFunc_extern Tryz.func84 (by kernel_rfl) (by kernel_rfl) (by kernel_rfl) (e := Extern.MathFloatBits.float64bits) (by kernel_rfl)]; rfl
 have ho : (FloatKind.f64.format.order x x != some .eq) = false := by
  have h : (FloatKind.f64.format.order x x == some .eq) = true := (order_words x x hx hx).trans (decide_eq_true rfl)
  show (!(FloatKind.f64.format.order x x == some .eq)) = false
  rw [h]; rfl
 go_enter Tryz.func47, Tryz.ntmps47
 go_wp2
 go_ret
 exact ⟨rfl, rfl⟩
theorem parseFloat_out (s : ByteArray) (w : World) (Q : Nat → Prop) (ev : Value) (hs : s.size ≤ 1000) (hblk : 2 < w.heap.size) (hv : w.cell? ⟨2, 0, none⟩ = some ev) (hev : ev = .nilIface ∨ ∃ te pe, ev = .iface te pe)
  (hpf : Calls Tryz.prog 82 #[.string s, .int .i64 64] w fun e w' => (∃ (x : Nat) (er : Value), e = .returned (.tuple #[.float .f64 x, er]) ∧ ErrOr er ∧ Q x) ∧ Below w.heap.size w w') :
  Calls Tryz.prog 45 #[.string s, .int .i64 64] w fun e w' => (∃ (x : Nat) (er : Value), e = .returned (.tuple #[.float .f64 x, er]) ∧ Q x) ∧ Below w.heap.size w w' := by
 have HPF := Lib.hid hpf
 clear hpf
 go_enter Tryz.func45, Tryz.ntmps45
 go_wp2_with (first | (go_at_call 82; ((with_reducible refine HPF.out.mono ?_); rintro e w' ⟨⟨x, er, rfl, (rfl | rfl), hq⟩, hb⟩)) | (go_at_call 83; ((with_reducible refine (Tryz.strconv_toError_range _ _ _ _ ev _ (by omega) ((hb.cell (p := ⟨_, 0, none⟩) hblk).trans hv) hev).mono ?_); rintro e w' ⟨N, rfl, _, _, hb2⟩)))
 all_goals go_ret2
 all_goals exact ⟨⟨x, _, rfl, hq⟩, by first | exact hb | exact hb.trans (hb2.mono hb.size) | exact pw_below_drewN hb _ | exact pw_below_drewN (hb.trans (hb2.mono hb.size)) _⟩
end Go.Proofs.YtkjpelgdppmbjaaGreatDoor.SF
