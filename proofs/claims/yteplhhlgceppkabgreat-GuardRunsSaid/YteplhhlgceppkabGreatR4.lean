/- guard.Run and the reference's Run. -/
import Derived.Test.YteplhhlgceppkabGreatR3
import Derived.Laws.EntriesVeiled
namespace Go.Proofs.YteplhhlgceppkabGreat
open Go Go.RowKit Go.ChangeShapes Go.WideShapes

theorem run_worlds (w : World) (lv : Value) : ∃ W1, W1 = (((w.alloc (.cells #[lv] 22)).alloc (.cells #[.slice none 0 0] 33)).alloc (.cells #[.slice none 0 0] 34)).alloc (.cells #[.nilFunc] 47) ∧ Below w.heap.size w W1 ∧ Row W1 (w.heap.size + 3) #[.nilFunc] 47 ∧
    Below w.heap.size w (W1.setCell ⟨w.heap.size + 3, 0, none⟩ (doV w.heap.size)) ∧ Var (W1.setCell ⟨w.heap.size + 3, 0, none⟩ (doV w.heap.size)) w.heap.size lv (.slice none 0 0) (.slice none 0 0) [] [] (w.heap.size + 4) := by
  have hb : Below w.heap.size w ((((w.alloc (.cells #[lv] 22)).alloc (.cells #[.slice none 0 0] 33)).alloc (.cells #[.slice none 0 0] 34)).alloc (.cells #[.nilFunc] 47)) :=
    ((((Below.refl _ _).alloc (Nat.le_refl _) _).alloc (by simp) _).alloc (by simp; omega) _).alloc (by simp; omega) _
  have hd : Row ((((w.alloc (.cells #[lv] 22)).alloc (.cells #[.slice none 0 0] 33)).alloc (.cells #[.slice none 0 0] 34)).alloc (.cells #[.nilFunc] 47)) (w.heap.size + 3) #[.nilFunc] 47 := by
    have h := Row.new (((w.alloc (.cells #[lv] 22)).alloc (.cells #[.slice none 0 0] 33)).alloc (.cells #[.slice none 0 0] 34)) #[.nilFunc] 47
    simpa using h
  refine ⟨_, rfl, hb, hd, hb.setCell (p := ⟨w.heap.size + 3, 0, none⟩) (by simp) _, ?_, hd.set 0 _, ?_, ?_, OwnR.nil _ _ _, Made.nil _ _, Nat.le_refl _, by simp⟩
  · exact ((((Row.new w _ _).old _).old _).old _).other _ _ (by omega)
  · have h := ((Row.new (w.alloc (.cells #[lv] 22)) #[.slice none 0 0] 33).old (.cells #[.slice none 0 0] 34)).old (.cells #[.nilFunc] 47)
    exact Row.other (by simpa using h) _ _ (by omega)
  · have h := (Row.new ((w.alloc (.cells #[lv] 22)).alloc (.cells #[.slice none 0 0] 33)) #[.slice none 0 0] 34).old (.cells #[.nilFunc] 47)
    exact Row.other (by simpa using h) _ _ (by omega)

set_option maxRecDepth 100000 in
set_option maxHeartbeats 1600000 in
theorem run_any {w : World} {lv : Value} {xs : List Ac} (hA : Acts w lv xs) (hg : ∀ x ∈ xs, Good x.A ∧ Good x.B) (hlen : xs.length ≤ 65536) (W : World) (hW : Below w.heap.size w W) :
    Calls Tryz.prog 7 #[lv] W fun x w' => ∃ rv ov, x = .returned (.tuple #[rv, ov]) ∧ OwnR w' W.heap.size (fun b => W.heap.size ≤ b) rv (runO (xs.map outA)) ∧ Made w' W.heap.size ov (downs 0 (runO (xs.map outA)).length) ∧ Below W.heap.size W w' := by
  obtain ⟨p, cp, hlv⟩ : ∃ p cp, lv = .slice p xs.length cp := ⟨_, _, hA.choose_spec.choose_spec.1⟩
  subst hlv
  have hA' := hA.later hW
  clear hA hW
  obtain ⟨W0, hW0, hb0, hd0, hb1, hV1⟩ := run_worlds W (.slice p xs.length cp)
  obtain ⟨W1, hW1⟩ : ∃ W1, W1 = W0.setCell ⟨W.heap.size + 1 + 1 + 1, 0, none⟩ (.func (.func 13) #[] #[.pointer (some ⟨W.heap.size, 0, none⟩), .pointer (some ⟨W.heap.size + 1 + 1, 0, none⟩), .pointer (some ⟨W.heap.size + 1, 0, none⟩), .pointer (some ⟨W.heap.size + 1 + 1 + 1, 0, none⟩)]) := ⟨_, rfl⟩
  have hb1 : Below W.heap.size W W1 := by rw [hW1]; exact hb1
  have hV1 : Var W1 W.heap.size (.slice p xs.length cp) (.slice none 0 0) (.slice none 0 0) [] [] (W.heap.size + 4) := by rw [hW1]; exact hV1
  have d0 : W0.cell? ⟨W.heap.size + 1 + 1 + 1, 0, none⟩ = some .nilFunc := hd0.cell 0 rfl
  have fd0 : ∀ j, W0.frozen? ⟨W.heap.size + 1 + 1 + 1, j, none⟩ = false := hd0.thaw
  have H := do_any hA' hg hlen W.heap.size (Nat.le_refl _) xs.length 0 (by omega) W1 (.slice none 0 0) _ hb1 hV1
  have e0 : ((0 : Nat) : Int) = 0 := rfl
  rw [e0] at H
  have HH := Lib.hid H
  clear H
  have p3 : W1.cell? ⟨W.heap.size + 1 + 1 + 1, 0, none⟩ = some (doV W.heap.size) := hV1.d.cell 0 rfl
  unfold doV at p3
  go_enter Tryz.func7, Tryz.ntmps7
  go_upto_region 4 with fail
  rw [← hW0]
  clear hW0 hb0 hd0
  go_upto_region 5 with fail
  rw [← hW1]
  clear hW1 d0 fd0
  go_wp2_with fail
  refine HH.out.mono ?_
  rintro e w2 ⟨rfl, rv, ov, hV2, hF2⟩
  have p0 : w2.cell? ⟨W.heap.size + 1, 0, none⟩ = some rv := hV2.r.cell 0 rfl
  have p1 : w2.cell? ⟨W.heap.size + 1 + 1, 0, none⟩ = some ov := hV2.o.cell 0 rfl
  have hb2 : Below W.heap.size W w2 := hF2.below hb1 (fun b (e : b = W.heap.size + 1 ∨ b = W.heap.size + 2 ∨ some b = Value.ownBlock (.slice none 0 0)) => by
    rcases e with e | e | e
    · omega
    · omega
    · cases e) hb1.size
  have hR := hV2.R
  have hO := hV2.O
  have hbz := hV1.z
  clear p3 hV2
  dsimp only
  go_wp2_with fail
  go_region
  all_goals
    go_wp2_with fail
    go_ret2
    have hdr : Below w2.heap.size w2 w2.drew := by go_grown
    exact ⟨_, _, rfl, ((hR.later hdr).mono (by omega)).carry (fun b hq hl => ⟨rfl, by have := hq.1; omega⟩) (Nat.le_refl _), (hO.below hdr).mono (by omega), hb2.trans (hdr.mono hb2.size)⟩

section
variable {P : Program} {w : World}
theorem wpList_append_made {ops : Array Oper} {rest : List Oper} {o : Oper} {a : Act} {Q : Exit → Act → World → Prop} (hgd : o.guard = none) (s x : Operand) (t : TypeId)
    (ho : o.op = .call { callee := .builtin .append, args := #[s, x], argTypes := #[t, t] }) (base : Nat) (e : TypeId) (i : TypeInfo) (ht : P.underlying t = some (.slice e)) (hi : P.info? e = some i) (hz : i.zero = some (.int .i64 0)) (hsize : i.size = 1) (hby : i.bytes = 8)
    (g0 : Nat) (x0 : Int) (hs : a.eval s = .slice (some ⟨g0, 0, none⟩) 1 1) (hown : w.ownsRow base e 1 (.slice (some ⟨g0, 0, none⟩) 1 1) 1 [.int .i64 x0])
    (B : Nat) (pv : Value) (l : List Int) (hx : a.eval x = pv) (hM : w.ownsRow B e 1 pv l.length (l.map (Value.int .i64))) (h0 : l.length = 0 → pv = .slice none 0 0) (hlen : l.length ≤ 65536) (hbase : base ≤ w.heap.size)
    (h : ∀ g cap w', w'.ownsRow base e 1 (.slice (some ⟨g, 0, none⟩) (l.length + 1) cap) (l.length + 1) ((x0 :: l).map (Value.int .i64)) → w.grownBy w' (some g0) → (g = g0 ∨ g = w.heap.size) → g < w'.heap.size → wpList P ops Q rest (a.put o.dst (.slice (some ⟨g, 0, none⟩) (l.length + 1) cap)) w') : wpList P ops Q (o :: rest) a w := by
  by_cases hl : l.length = 0
  · have hl' : l = [] := List.length_eq_zero_iff.1 hl
    subst hl'
    have hx' : a.eval x = .slice none 0 0 := hx.trans (h0 rfl)
    have hg := (World.ownsRow.lt hown g0 rfl).2
    refine wpList_plain hgd fun _ hK => ?_
    unfold Oper.wp execOp
    simp only [ho, resolve, invoke, builtin, Sem.run_bind, Sem.run_pure, Result.andThen_ok, List.map_toArray, List.map_cons, List.map_nil, hs, hx', run_append_owned_none w base t _ e i 1 ht hi _ 1 _ hown]
    exact hK _ _ (h g0 1 w hown (World.grownBy.refl _ _) (Or.inl rfl) hg)
  · obtain ⟨gp, capp, rfl, _, _⟩ := hM.form (by omega)
    refine wpList_append_lies w hgd s x t ho base e i (.int .i64 0) 1 8 ht hi hz hsize hby rfl (by decide) _ 1 _ hs hown ⟨gp, 0, none⟩ l.length capp (l.map (Value.int .i64)) hx (by simp) (World.ownsRow.cells hM rfl) (fun u hu => ?_) (by omega) (by unfold maxLen; omega) (by omega) hbase _ rfl ?_
    · obtain ⟨y, _, rfl⟩ := List.mem_map.1 hu
      rfl
    · intro g cap w' h1 h2 h3 h4
      rw [Nat.add_comm 1 l.length] at h1 ⊢
      refine h g cap w' h1 h2 ?_ h4
      rcases h3 with h3 | h3
      · exact Or.inl (Option.some.inj h3).symm
      · exact Or.inr h3
end
end Go.Proofs.YteplhhlgceppkabGreat
