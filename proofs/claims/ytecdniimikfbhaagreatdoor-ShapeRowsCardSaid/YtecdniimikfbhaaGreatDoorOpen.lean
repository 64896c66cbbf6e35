/- ShapeRows: how a slice of ints, as the row opens it, reads for the walk. -/
import Derived.Test.YtecdniimikfbhaaGreatDoorD12
import Derived.Test.YtecdniimikfbhaaGreatDoorRow
import Derived.ChangeSlices
import Derived.SizedLaws
namespace Go.Proofs.YtecdniimikfbhaaGreatDoor
open Go Go.RowKit Go.ChangeShapes Go.WideShapes

theorem bytesInt : Tryz.prog.bytesOf 3 = 8 := by kernel_rfl
theorem cellsInt : Tryz.prog.cellsOf 3 = 1 := by kernel_rfl
/-- How many elements the reading lists: as many as these ints, at least. -/
def Told {H : Type} (d : DataW H) (xs : List Int) : Prop := xs = [] ∨ ∃ es sp, d = .slice es sp ∧ xs.length ≤ es.length + sp.length
theorem open_slice {H : Type} {enc : TypeId × Value → H} {W : World} {a0 : Option Addr} {l0 c0 : Nat} {d : DataW H} {p : List MemPlace} (h : DataW.Trod enc Tryz.prog W 0 (fun _ => true) true 38 (.slice a0 l0 c0) d p) :
    ∃ xs, Ints W (.slice a0 l0 c0) xs ∧ Told d xs := by
  obtain ⟨fuel, hf⟩ := h
  rcases open_ints (k := .i64) Tryz.underlying38 Tryz.underlying3 cellsInt hf with ⟨e, _⟩ | ⟨a, len, cap, zs, e, _, hlc, hcm, hz, ex, hc, _⟩
  · have e1 : [Value.slice a0 l0 c0] = [.slice none 0 0] := e
    rw [(List.cons.inj e1).1]
    exact ⟨[], ⟨none, 0, rfl, by simp, fun _ => rfl, fun i x hx => by simp at hx⟩, Or.inl rfl⟩
  · have e1 : [Value.slice a0 l0 c0] = [.slice (some a) len cap] := e
    rw [(List.cons.inj e1).1]
    have hz1 : zs.length = cap := by simpa using hz
    have hl : (zs.take len).length = len := by rw [List.length_take]; omega
    have hd : d = .slice (lits .i64 (zs.take len)) (lits .i64 (zs.drop len)) := congrArg Prod.fst ex
    have hcm1 : cap ≤ 9223372036854775807 := by unfold maxLen at hcm; omega
    refine ⟨zs.take len, ⟨some a, cap, by rw [hl], by omega, (fun h => by cases h), fun i x hx => ?_⟩, Or.inr ⟨_, _, hd, by simp only [lits, List.length_map]; omega⟩⟩
    have hi : i < len := by
      have h1 := (List.getElem?_eq_some_iff.1 hx).1
      omega
    have hcell := hc i (by omega)
    have hx1 : zs.getD i 0 = x := by
      rw [List.getElem?_take_of_lt hi] at hx
      rw [List.getD_eq_getElem?_getD, hx]
      rfl
    rw [hx1] at hcell
    have hc0 := hc 0 (by omega)
    obtain ⟨g, o, sp⟩ := a
    have e0 : (⟨g, o, sp⟩ : Addr).add 0 = ⟨g, o, sp⟩ := rfl
    rw [e0] at hc0
    obtain rfl : sp = none := World.cell?_spot hc0
    rw [addr_add] at hcell
    exact ⟨g, o, rfl, block_lt_of_cell hc0, by omega, hcm1, hcell⟩
theorem len_small {H : Type} {ts : List TypeId} {ds : List (DataW H)} {j : Nat} {xs : List Int} {d : DataW H} (hw : (DataW.weightsEach Tryz.prog ts ds).all (· ≤ reachBytes) = true) (ht : ts[j]? = some 38) (hd : ds[j]? = some d) (h : Told d xs) : xs.length ≤ 2 ^ 47 := by
  rcases h with rfl | ⟨es, sp, rfl, hl⟩
  · simp
  · have h1 := sized_slice hw ht hd Tryz.underlying38
    rw [bytesInt] at h1
    have h2 := reachBytes_lt
    omega
end Go.Proofs.YtecdniimikfbhaaGreatDoor
