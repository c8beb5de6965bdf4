/- Walks of the program's Nearest: the text that it hands to ParseFloat, as it is read. -/
import Derived.Test.YtkjpelgdppmbjaaGreatDoorSWZip
import Derived.Test.YtkjpelgdppmbjaaGreatDoorSWK6
import Derived.Test.YtkjpelgdppmbjaaGreatDoorSWPureNearText
namespace Go.Proofs.YtkjpelgdppmbjaaGreatDoor.SF
open Go.RowKit YtkjpelgdppmbjaaGreatDoorW.PrintWords CB CQ Go.Proofs.YtkjpelgdppmbjaaGreatDoor.PN
open Go.Proofs.YtkjpelgdppmbjaaGreatDoor.Pure (decT decN isDg valD figOk nearOk)

structure Figs (f : ByteArray) (E : Int) : Prop where mk ::
 n1 : 1 ≤ f.size
 n2 : f.size ≤ 60
 dig : ∀ b ∈ f.data.toList, isDg b
 e1 : -500 ≤ E
 e2 : E ≤ 500
open Go.Proofs.YtkjpelgdppmbjaaGreatDoor.Pure (decT decN isDg valD figOk nearOk)

structure Home (w : World) (B : Nat) : Prop where mk ::
 tabs : Tabs w B
 eblk : 2 < B
 err : ∃ ev, w.cell? ⟨2, 0, none⟩ = some ev ∧ (ev = .nilIface ∨ ∃ te pe, ev = .iface te pe)
theorem Home.below {w w' : World} {B : Nat} (h : Home w B) (hb : Below B w w') : Home w' B := by
 obtain ⟨ev, h1, h2⟩ := h.err
 exact ⟨h.tabs.below hb, h.eblk, ev, (hb.cell (p := ⟨_, 0, none⟩) h.eblk).trans h1, h2⟩
structure Tells (f : ByteArray) (E : Int) (x : Nat) : Prop where mk ::
 le : x ≤ 9218868437227405312
 zero : bt f 0 = 48 → x = 0
 near : bt f 0 ≠ 48 → NearE (valD f.data.toList * 10 ^ E.toNat) (10 ^ (-E).toNat) 0 x
end Go.Proofs.YtkjpelgdppmbjaaGreatDoor.SF
