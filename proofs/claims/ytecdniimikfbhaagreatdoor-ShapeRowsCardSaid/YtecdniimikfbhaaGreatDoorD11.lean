/- Shape: appending ints, and how the grown row reads. -/
import Derived.Test.YtecdniimikfbhaaGreatDoorD10
import Derived.Maps.AppendAt
import Derived.Laws.OwnMore
import Derived.Deep.AppendLies
namespace Go.Proofs.YtecdniimikfbhaaGreatDoor
open Go Go.RowKit Go.ChangeShapes Go.WideShapes

theorem infoInt : (Tryz.prog.info? 3).map (fun i => (i.zero, i.size, i.bytes)) = some (some (.int .i64 0), 1, 8) := by kernel_rfl
/-- The values of ints. -/
def intVs (xs : List Int) : List Value := xs.map (Value.int .i64)
theorem intVs_length (xs : List Int) : (intVs xs).length = xs.length := by simp [intVs]
theorem addr_add (g o j : Nat) : (⟨g, o, none⟩ : Addr).add j = ⟨g, o + j, none⟩ := by unfold Addr.add; split <;> simp_all
theorem run_append_ints {w : World} {base : Nat} {v lv : Value} {xs ys : List Int} (ty : TypeId) (hown : w.ownsRow base 3 1 v xs.length (intVs xs)) (hI : Ints w lv ys) (hlen : xs.length + ys.length ≤ 100000) (hbase : base ≤ w.heap.size) :
    ∃ v' w', (Builtin.append_ #[38, 38] ty #[v, lv]).run Tryz.prog w = .ok v' w' ∧ w'.ownsRow base 3 1 v' (xs ++ ys).length (intVs (xs ++ ys)) ∧ w.grownBy w' v.ownBlock ∧ (v'.ownBlock = v.ownBlock ∨ v'.ownBlock = some w.heap.size) := by
  obtain ⟨i0, hi, hz0, hz1, hz2⟩ := info_parts infoInt
  obtain ⟨a, cap, rfl, hm, hn, hx⟩ := hI
  cases a with
  | none =>
    obtain rfl : cap = 0 := hn rfl
    obtain rfl : ys = [] := by
      cases ys with
      | nil => rfl
      | cons y ys =>
        obtain ⟨g, o, e, _⟩ := hx 0 y rfl
        cases e
    refine ⟨v, w, run_append_owned_none (P := Tryz.prog) (w := w) base 38 ty 3 i0 1 Tryz.underlying38 hi v xs.length (intVs xs) hown, by simpa using hown, ⟨rfl, rfl, rfl, Nat.le_refl _, fun _ _ _ => rfl⟩, Or.inl rfl⟩
  | some ad =>
    have hnews : ∀ j u, (intVs ys)[j]? = some u → w.cell? (ad.add j) = some u := fun j u hu => by
      rw [intVs, List.getElem?_map] at hu
      cases hy : ys[j]? with
      | none => rw [hy] at hu; simp at hu
      | some y =>
        rw [hy] at hu
        simp only [Option.map_some, Option.some.injEq] at hu
        obtain ⟨g, o, e, _, _, _, hc⟩ := hx j y hy
        obtain rfl := Option.some.inj e
        rw [addr_add, hc, hu]
    obtain ⟨v', w', hr, h2, h3, _, h5⟩ := run_append_own_at (P := Tryz.prog) w base 38 ty 3 i0 (.int .i64 0) 1 8 Tryz.underlying38 hi hz0 hz1 hz2 rfl (by decide) v xs.length (intVs xs) hown ad ys.length cap (intVs ys) (by rw [intVs_length]; omega) hnews (fun u hu => by
      obtain ⟨y, _, rfl⟩ := List.mem_map.1 hu
      rfl) (by unfold maxLen; omega) (by omega) hbase
    refine ⟨v', w', hr, ?_, h3, h5⟩
    have e1 : (xs ++ ys).length = xs.length + ys.length := by simp
    have e2 : intVs (xs ++ ys) = intVs xs ++ intVs ys := by simp [intVs]
    rw [e1, e2]
    exact h2
/-- An append of ints, for the walk. -/
theorem wpList_append_ints {w : World} {ops : Array Oper} {rest : List Oper} {o : Oper} {a : Act} {Q : Exit → Act → World → Prop} (hgd : o.guard = none) (s x : Operand)
    (ho : o.op = .call { callee := .builtin .append, args := #[s, x], argTypes := #[38, 38] }) (base : Nat) {v lv : Value} {xs ys : List Int} (hs : a.eval s = v) (hx : a.eval x = lv)
    (hown : w.ownsRow base 3 1 v xs.length (intVs xs)) (hI : Ints w lv ys) (hlen : xs.length + ys.length ≤ 100000) (hbase : base ≤ w.heap.size)
    (h : ∀ v' w', w'.ownsRow base 3 1 v' (xs ++ ys).length (intVs (xs ++ ys)) → w.grownBy w' v.ownBlock → (v'.ownBlock = v.ownBlock ∨ v'.ownBlock = some w.heap.size) → wpList Tryz.prog ops Q rest (a.put o.dst v') w') : wpList Tryz.prog ops Q (o :: rest) a w := by
  refine wpList_plain hgd fun K hK => ?_
  obtain ⟨v', w', hr, h2, h3, h5⟩ := run_append_ints o.type hown hI hlen hbase
  unfold Oper.wp execOp
  simp only [ho, resolve, invoke, builtin, Sem.run_bind, Sem.run_pure, Result.andThen_ok, List.map_toArray, List.map_cons, List.map_nil, hs, hx, hr]
  exact hK _ _ (h v' w' h2 h3 h5)
theorem ints_of_owned {w : World} {base : Nat} {v : Value} {xs : List Int} (h : w.ownsRow base 3 1 v xs.length (intVs xs)) : Ints w v xs := by
  have h0 := h
  obtain ⟨_, h2⟩ := h0
  rcases h2 with ⟨h2, h3⟩ | ⟨g, cap, cur, hv, hg, hh, hnc, hcm, hcs, htake⟩
  · obtain rfl : xs = [] := by cases xs with | nil => rfl | cons x xs => simp at h3
    exact ⟨none, 0, h2, by simp, fun _ => rfl, fun i x hx => by simp at hx⟩
  · subst hv
    refine ⟨some ⟨g, 0, none⟩, cap, rfl, by unfold maxLen at hcm; omega, (fun e => by cases e), fun i x hx => ⟨g, 0, rfl, (Array.getElem?_eq_some_iff.1 hh).1, hnc, by unfold maxLen at hcm; omega, ?_⟩⟩
    have hi := (List.getElem?_eq_some_iff.1 hx).1
    rw [Nat.zero_add, World.ownsRow.cellAt h i (by omega), intVs, List.getElem?_map, hx]
    rfl
theorem owned_nil (w : World) (base : Nat) : w.ownsRow base 3 1 (.slice none 0 0) ([] : List Int).length (intVs []) := ⟨rfl, Or.inl ⟨rfl, rfl⟩⟩
end Go.Proofs.YtecdniimikfbhaaGreatDoor
