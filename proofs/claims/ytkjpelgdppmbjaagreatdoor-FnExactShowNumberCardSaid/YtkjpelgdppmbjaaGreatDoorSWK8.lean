/- The package's tables, out of what a row lists: the cells of Go's own tables, and what they tell. -/
import Derived.Test.YtkjpelgdppmbjaaGreatDoorSWZip
import Derived.Test.YtkjpelgdppmbjaaGreatDoorSWK7
import Derived.Test.YtkjpelgdppmbjaaGreatDoorRows
import Derived.Lib.LaidTab
import Derived.ChangeArms
import Derived.DataReads
import Derived.LaidMore
import Derived.LaidLaws
import Derived.FnData
import Derived.Test.YtkjpelgdppmbjaaGreatDoorSWKA
namespace Go.Proofs.YtkjpelgdppmbjaaGreatDoor.SF
open Go.RowKit YtkjpelgdppmbjaaGreatDoorW.PrintWords CB CQ PN Go.Proofs.YtkjpelgdppmbjaaGreatDoor.XF

def Reads (w : World) (n : String) (d : DataW Unit) : Prop :=
 ∃ g t cs fuel p, Tryz.prog.globalNamed n = some g ∧ (Tryz.prog.globals[g]?).map (·.type) = some t ∧ w.var? Tryz.prog n = some cs ∧ DataW.trod (fun _ => ()) Tryz.prog w 0 (fun _ => true) false fuel t cs.toList = some (d, p)
theorem reads_of {w : World} : ∀ {l : List (String × DataW Unit)} {ps : List MemPlace}, DataW.LaidVars Tryz.prog w l ps → ∀ x, x ∈ l → Reads w x.1 x.2
  | [], _, _, _, hm => by cases hm
  | _ :: _, _, h, x, hm => by
    obtain ⟨g, t, cs, fuel, p, q, h1, h2, h3, h4, h5, _⟩ := h
    rcases List.mem_cons.1 hm with e | e
    · rw [e]; exact ⟨g, t, cs, fuel, p, h1, h2, h3, h4⟩
    · exact reads_of h5 x e
theorem Reads.open {w : World} {n : String} {d : DataW Unit} {g t : Nat} (h : Reads w n d) (hg : Tryz.prog.globalNamed n = some g) (ht : (Tryz.prog.globals[g]?).map (·.type) = some t) :
  ∃ (cs : Array Value) (fuel : Nat) (p : List MemPlace), (∀ i, w.cell? ⟨g, i, none⟩ = cs.toList[i]?) ∧ DataW.trod (fun _ => ()) Tryz.prog w 0 (fun _ => true) false fuel t cs.toList = some (d, p) := by
 obtain ⟨g', t', cs, fuel, p, h1, h2, h3, h4⟩ := h
 obtain rfl := Option.some.inj (h1.symm.trans hg)
 obtain rfl := Option.some.inj (h2.symm.trans ht)
 exact ⟨cs, fuel, p, fun i => by rw [World.var?_cell h1 h3 i, Array.getElem?_toList], h4⟩
theorem cell_lt {w : World} {b o : Nat} {s : Option Nat} {v : Value} (h : w.cell? ⟨b, o, s⟩ = some v) : b < w.heap.size := by
 rcases Nat.lt_or_ge b w.heap.size with h1 | h1
 ·exact h1
 ·exfalso
  have : w.heap[b]? = none := Array.getElem?_eq_none h1
  simp [World.cell?, this] at h
theorem first_of {cs : List Value} {o : Nat} {c : Value} (h : (cs.drop o).take 1 = [c]) : cs[o]? = some c := by
 have := congrArg (·[0]?) h
 simpa [List.getElem?_take, List.getElem?_drop] using this
noncomputable def fieldsAre (t : Nat) (l : List (Nat × Nat)) : Bool := match Tryz.prog.underlying t with | some (.struct fs) => (fs.toList.map fun f => (f.type, f.offset)) == l | _ => false
section
variable {w : World} {fuel : Nat} {t : Nat} {cs : List Value} {p : List MemPlace}
theorem struct_at {l : List (Nat × Nat)} {ds : List (DataW Unit)} (hl : fieldsAre t l = true) (h : DataW.trod (fun _ => ()) Tryz.prog w 0 (fun _ => true) false fuel t cs = some (.agg ds, p)) (i a o : Nat) (hi : l[i]? = some (a, o)) (hc : Tryz.prog.cellsOf a = 1) (d : DataW Unit) (hd : ds[i]? = some d) :
  ∃ n q, DataW.trod (fun _ => ()) Tryz.prog w 0 (fun _ => true) false n a ((cs.drop o).take 1) = some (d, q) := by
 unfold fieldsAre at hl
 split at hl
 ·rename_i fs hu
  have hl := eq_of_beq hl
  obtain ⟨xs, n, _, hx, _, hxl, hall⟩ := DataW.trod_struct hu h
  have hds : xs.map (·.1) = ds := by
   have := congrArg Prod.fst hx
   simpa using this.symm
  rw [← hl, List.getElem?_map] at hi
  obtain ⟨f, hf, hfa⟩ := Option.map_eq_some_iff.1 hi
  rw [← hds, List.getElem?_map] at hd
  obtain ⟨x, hx1, hx2⟩ := Option.map_eq_some_iff.1 hd
  have h1 := hall i f (by rw [← Array.getElem?_toList]; exact hf)
  injection hfa with e1 e2
  rw [hx1, e1, e2, hc] at h1
  exact ⟨n, x.2, by rw [h1, ← hx2]⟩
 ·cases hl
theorem trod_lit {k : IntKind} {z : Int} {o : Nat} {q : List MemPlace} (hu : Tryz.prog.underlying t = some (.int k)) (h : DataW.trod (fun _ => ()) Tryz.prog w 0 (fun _ => true) false fuel t ((cs.drop o).take 1) = some (.lit (.int k z), q)) : cs[o]? = some (.int k z) := by
 obtain ⟨n, h1, h2, _⟩ := DataW.trod_int hu h
 have := congrArg Prod.fst h2
 simp only [DataW.lit.injEq, Lit.int.injEq, true_and] at this
 rw [this]
 exact first_of h1
end
def powOk (l : List (Nat × Nat)) : Bool := decide (l.length = 696) && (List.range 696).all fun i => decide ((l.getD i (0, 0)).1 < 18446744073709551616) && decide ((l.getD i (0, 0)).2 < 18446744073709551616) && decide ((l.getD i (0, 0)).1 * 18446744073709551616 = US.pm ((i : Int) - 348) + (l.getD i (0, 0)).2)
set_option maxRecDepth 100000 in
theorem pow_rows : powOk Pinned.pow10Rows = true := by decide +kernel
theorem pow_list {w : World} (l : List (Nat × Nat)) (hok : powOk l = true) (h : Reads w "internal/strconv.pow10Tab" (.agg (l.map fun x => .agg [.lit (.int .u64 x.1), .lit (.int .u64 x.2)]))) : Pow10 w w.heap.size := by
 unfold powOk at hok
 rw [Bool.and_eq_true, decide_eq_true_iff] at hok
 obtain ⟨hlen, hall⟩ := hok
 obtain ⟨cs, fuel, p, h1, h2⟩ := h.open (g := 13) (t := 244) (by kernel_rfl) (by kernel_rfl)
 have hf : fieldsAre 243 [(24, 0), (24, 1)] = true := by kernel_rfl
 have hu : Tryz.prog.underlying 24 = some (.int .u64) := by kernel_rfl
 have cu : Tryz.prog.cellsOf 24 = 1 := by kernel_rfl
 have ce : Tryz.prog.cellsOf 243 = 2 := by kernel_rfl
 have harr : Tryz.prog.underlying 244 = some (.array 696 243) := by kernel_rfl
 have key : ∀ i, i < 696 → w.cell? ⟨13, i * 2, none⟩ = some (.int .u64 ((l.getD i (0, 0)).1 : Nat)) ∧ w.cell? ⟨13, i * 2 + 1, none⟩ = some (.int .u64 ((l.getD i (0, 0)).2 : Nat)) := by
  intro i hi
  have hget : l[i]? = some (l.getD i (0, 0)) := by
   rw [List.getD_eq_getElem?_getD, List.getElem?_eq_getElem (by omega)]; rfl
  cases fuel with
  | zero => simp [DataW.trod] at h2
  | succ fuel =>
   unfold DataW.trod at h2
   simp only [harr] at h2
   split at h2
   ·obtain ⟨xs, hm, hx⟩ := Option.map_eq_some_iff.1 h2
    obtain ⟨b, hb, hf2⟩ := Lib.mapM_at hm i i (by simp [hi])
    have hds : xs.map (·.1) = l.map fun x => (.agg [.lit (.int .u64 x.1), .lit (.int .u64 x.2)] : DataW Unit) := by
     have := congrArg Prod.fst hx
     simpa using this
    have hb1 : b.1 = .agg [.lit (.int .u64 (l.getD i (0, 0)).1), .lit (.int .u64 (l.getD i (0, 0)).2)] := by
     have := congrArg (·[i]?) hds
     simp only [List.getElem?_map, hb, hget, Option.map_some, Option.some.injEq] at this
     exact this
    rw [ce] at hf2
    obtain ⟨_, _, a0⟩ := struct_at (p := b.2) hf (by rw [← hb1]; exact hf2) 0 _ _ rfl cu _ rfl
    obtain ⟨_, _, a1⟩ := struct_at (p := b.2) hf (by rw [← hb1]; exact hf2) 1 _ _ rfl cu _ rfl
    have c0 := trod_lit hu a0
    have c1 := trod_lit hu a1
    rw [List.getElem?_take, List.getElem?_drop] at c0 c1
    exact ⟨(h1 _).trans (by simpa using c0), (h1 _).trans (by simpa using c1)⟩
   ·cases h2
 have hblk := cell_lt (key 0 (by omega)).1
 refine ⟨hblk, fun p hp1 hp2 => ?_⟩
 obtain ⟨k0, k1⟩ := key (p + 348).toNat (by omega)
 have hc := List.all_eq_true.1 hall (p + 348).toNat (List.mem_range.2 (by omega))
 rw [Bool.and_eq_true, Bool.and_eq_true, decide_eq_true_iff, decide_eq_true_iff, decide_eq_true_iff] at hc
 obtain ⟨⟨e1, e2⟩, e3⟩ := hc
 refine ⟨_, _, k0, k1, e1, e2, ?_⟩
 rw [show (((p + 348).toNat : Nat) : Int) - 348 = p by omega] at e3
 omega
theorem pow_of {w : World} (h : Reads w "internal/strconv.pow10Tab" Pinned.pow10Tab) : Pow10 w w.heap.size := pow_list Pinned.pow10Rows pow_rows h
end Go.Proofs.YtkjpelgdppmbjaaGreatDoor.SF
namespace Go.Proofs.YtkjpelgdppmbjaaGreatDoor.SF
open Go.RowKit YtkjpelgdppmbjaaGreatDoorW.PrintWords Go.Proofs.YtkjpelgdppmbjaaGreatDoor.CB

theorem tab_of {w : World} (h : SF.Reads w "internal/strconv.uint64pow10" (Lib.tabData .u64 Lib.pow10Tab)) : Lib.TabIs Tryz.prog w "internal/strconv.uint64pow10" .u64 Lib.pow10Tab := by
 obtain ⟨g', t', cs, fuel, p, h1, h2, h3, h4⟩ := h
 obtain rfl := Option.some.inj (h1.symm.trans (show Tryz.prog.globalNamed "internal/strconv.uint64pow10" = some 12 by kernel_rfl))
 obtain rfl := Option.some.inj (h2.symm.trans (show (Tryz.prog.globals[12]?).map (·.type) = some 237 by kernel_rfl))
 unfold Lib.TabIs
 rw [h3, ← Lib.cells_of_tab (n := 20) (e := 24) (by kernel_rfl) (by kernel_rfl) (by kernel_rfl) (by kernel_rfl) h4]
theorem tome_of {w : World} (h1 : SF.Reads w "internal/strconv.pow10Tab" Pinned.pow10Tab) (h2 : SF.Reads w "internal/strconv.uint64pow10" (Lib.tabData .u64 Lib.pow10Tab)) : Tome w w.heap.size :=
 ⟨pow_of h1, Lib.tabBelow_of_tabIs (tab_of h2)⟩
end Go.Proofs.YtkjpelgdppmbjaaGreatDoor.SF
