/- Shape: Map, by what the map's own function does. -/
import Derived.Test.YtecdniimikfbhaaGreatDoorS8
import Derived.Test.YtecdniimikfbhaaGreatDoorV3
namespace Go.Proofs.YtecdniimikfbhaaGreatDoor
open Go Go.RowKit Go.ChangeShapes Go.WideShapes

/-- A value is a Datum, its parts in blocks of P (whoever may write them). -/
inductive RepP (w : World) (P : Nat → Prop) : Value → D → Prop
  | mk (k m b : Int) (t : ByteArray) (a : Option Addr) (cap g o : Nat) (c : Nat → Nat → Value) (kids : List D)
      (hw : (Lit.int .i64 k).wf = true ∧ (Lit.int .i64 m).wf = true ∧ (Lit.int .u64 b).wf = true ∧ t.size ≤ maxLen)
      (ha : 0 < kids.length → a = some ⟨g, o, none⟩ ∧ P g ∧ g < w.heap.size ∧ kids.length ≤ cap ∧ cap ≤ 9223372036854775807)
      (hc : Row5 w g o kids.length c)
      (hk : ∀ i x, kids[i]? = some x → RepP w P (five c i) x) :
      RepP w P (.agg #[.int .i64 k, .int .i64 m, .int .u64 b, .string t, .slice a kids.length cap]) (.mk k m b t kids)
theorem RepP.rep {w : World} {P : Nat → Prop} {v : Value} {d : D} (h : RepP w P v d) : Rep w v d := by
  induction h with
  | mk k m b t a cap g o c kids hw ha hc hk ih => exact .mk k m b t a cap g o c kids hw (fun h0 => ⟨(ha h0).1, (ha h0).2.2⟩) hc ih
theorem RepP.carry {w w1 : World} {P Q : Nat → Prop} {v : Value} {d : D} (h : RepP w P v d) (hb : ∀ b, P b → b < w.heap.size → w1.heap[b]? = w.heap[b]? ∧ Q b) (hz : w.heap.size ≤ w1.heap.size) : RepP w1 Q v d := by
  induction h with
  | mk k m b t a cap g o c kids hw ha hc hk ih =>
    refine .mk k m b t a cap g o c kids hw (fun h0 => ?_) ?_ ih
    · obtain ⟨h1, h2, h3, h4⟩ := ha h0
      exact ⟨h1, (hb g h2 h3).2, Nat.lt_of_lt_of_le h3 hz, h4⟩
    · by_cases h0 : 0 < kids.length
      · obtain ⟨_, h2, h3, _⟩ := ha h0
        have hq := (hb g h2 h3).1
        intro i hi
        obtain ⟨q0, q1, q2, q3, q4⟩ := hc i hi
        exact ⟨(World.cell?_of_block (w := w) hq).trans q0, (World.cell?_of_block (w := w) hq).trans q1, (World.cell?_of_block (w := w) hq).trans q2, (World.cell?_of_block (w := w) hq).trans q3, (World.cell?_of_block (w := w) hq).trans q4⟩
      · exact fun i hi => absurd hi (by omega)
theorem RepP.of_rep {w : World} {v : Value} {d : D} (h : Rep w v d) : RepP w (fun b => b < w.heap.size) v d := by
  induction h with
  | mk k m b t a cap g o c kids hw ha hc hk ih => exact .mk k m b t a cap g o c kids hw (fun h0 => ⟨(ha h0).1, (ha h0).2.1, (ha h0).2⟩) hc ih
theorem RepP.of_repQ {w : World} {P : Nat → Prop} {v : Value} {d : D} (h : RepQ w P v d) : RepP w P v d := by
  induction h with
  | mk k m b t a cap g o c kids hw ha hc hk ih => exact .mk k m b t a cap g o c kids hw (fun h0 => ⟨(ha h0).1, (ha h0).2.1.1, (ha h0).2.2⟩) hc ih
theorem RepP.later {w w1 : World} {P : Nat → Prop} {v : Value} {d : D} (h : RepP w P v d) (hb : Below w.heap.size w w1) : RepP w1 P v d := h.carry (fun b hq hl => ⟨hb.block b hl, hq⟩) hb.size
theorem RepP.set10x {w : World} {P : Nat → Prop} {g : Nat} {v : Value} {d : D} (h : RepP w P v d) (hb : ∀ b, P b → b ≠ g) {x0 x1 x2 x3 x4 x5 x6 x7 x8 x9 : Value} : RepP ((((((((((w.setCell ⟨g, 0, none⟩ x0).setCell ⟨g, 1, none⟩ x1).setCell ⟨g, 2, none⟩ x2).setCell ⟨g, 3, none⟩ x3).setCell ⟨g, 4, none⟩ x4).setCell ⟨g, 5, none⟩ x5).setCell ⟨g, 6, none⟩ x6).setCell ⟨g, 7, none⟩ x7).setCell ⟨g, 8, none⟩ x8).setCell ⟨g, 9, none⟩ x9) P v d :=
  h.carry (fun i hi _ => ⟨set10_other w g _ _ _ _ _ _ _ _ _ _ i (hb i hi), hi⟩) (by rw [set10_size]; exact Nat.le_refl _)
/-- A result that bears a value, its parts in blocks of P. -/
def GaveP (w : World) (P : Nat → Prop) (v : Value) (d : D) : Prop := ∃ (k m b : Int) (t : ByteArray) (a : Option Addr) (n cap : Nat), v = .agg #[.int .i64 0, .int .i64 0, .int .i64 0, .int .i64 0, .bool true, .int .i64 k, .int .i64 m, .int .u64 b, .string t, .slice a n cap] ∧ RepP w P (.agg #[.int .i64 k, .int .i64 m, .int .u64 b, .string t, .slice a n cap]) d
theorem GaveP.of_resV {w : World} {P : Nat → Prop} {v : Value} {d : D} (h : ResV w P v (.gave d)) : GaveP w P v d := by
  obtain ⟨k, m, b, t, a, n, cap, h1, h2⟩ := h
  exact ⟨k, m, b, t, a, n, cap, h1, .of_repQ h2⟩
theorem GaveP.carry {w w1 : World} {P Q : Nat → Prop} {v : Value} {d : D} (h : GaveP w P v d) (hb : ∀ b, P b → b < w.heap.size → w1.heap[b]? = w.heap[b]? ∧ Q b) (hz : w.heap.size ≤ w1.heap.size) : GaveP w1 Q v d := by
  obtain ⟨k, m, b, t, a, n, cap, h1, h2⟩ := h
  exact ⟨k, m, b, t, a, n, cap, h1, h2.carry hb hz⟩
/-- A result that bears an error and no value. -/
def errV (e pk pn : Int) : Value := .agg #[.int .i64 e, .int .i64 0, .int .i64 pk, .int .i64 pn, .bool false, .int .i64 0, .int .i64 0, .int .u64 0, .string ⟨#[]⟩, .slice none 0 0]
/-- What finds a map's own function. -/
def Finds (op : Int) (f : FuncId) : Prop := (∀ W, Calls Tryz.prog 16 #[.int .i64 op] W fun x w' => ∃ G cp, x = .returned (.tuple #[.agg #[.func (.func f) #[] #[], .func (.func G) #[] cp], .bool true]) ∧ Below W.heap.size W w') ∧ ∀ args w, (callFunc f args).run Tryz.prog w = .ok (.enter f args) w
theorem finds_1 : Finds 1 39 := ⟨fun W => (find_1 W).mono fun _ _ ⟨_, _, _, _, _, h, _, _, _, _, _, _, _, _, hb⟩ => ⟨_, _, h, hb⟩, fun _ _ => by kernel_rfl⟩
theorem finds_2 : Finds 2 41 := ⟨fun W => (find_2 W).mono fun _ _ ⟨_, _, _, _, _, h, _, _, _, _, _, _, _, _, hb⟩ => ⟨_, _, h, hb⟩, fun _ _ => by kernel_rfl⟩
theorem finds_3 : Finds 3 43 := ⟨fun W => (find_3 W).mono fun _ _ ⟨_, _, _, _, _, h, _, _, _, _, _, _, _, _, hb⟩ => ⟨_, _, h, hb⟩, fun _ _ => by kernel_rfl⟩
theorem finds_4 : Finds 4 45 := ⟨fun W => (find_4 W).mono fun _ _ ⟨_, _, _, _, _, h, _, _, _, _, _, _, _, _, hb⟩ => ⟨_, _, h, hb⟩, fun _ _ => by kernel_rfl⟩
theorem finds_5 : Finds 5 46 := ⟨fun W => (find_5 W).mono fun _ _ ⟨_, _, _, _, _, h, _, _, _, _, _, _, _, _, hb⟩ => ⟨_, _, h, hb⟩, fun _ _ => by kernel_rfl⟩
theorem finds_6 : Finds 6 47 := ⟨fun W => (find_6 W).mono fun _ _ ⟨_, _, _, _, _, h, _, _, _, _, _, _, _, _, hb⟩ => ⟨_, _, h, hb⟩, fun _ _ => by kernel_rfl⟩
theorem finds_7 : Finds 7 50 := ⟨fun W => (find_7 W).mono fun _ _ ⟨_, _, _, _, _, h, _, _, _, _, _, _, _, _, hb⟩ => ⟨_, _, h, hb⟩, fun _ _ => by kernel_rfl⟩
theorem finds_8 : Finds 8 51 := ⟨fun W => (find_8 W).mono fun _ _ ⟨_, _, _, _, _, h, _, _, _, _, _, _, _, _, hb⟩ => ⟨_, _, h, hb⟩, fun _ _ => by kernel_rfl⟩

set_option maxRecDepth 100000 in
set_option maxHeartbeats 400000 in
theorem sclone_zero (w : World) : Calls Tryz.prog 19 #[(.agg #[.int .i64 0, .int .i64 0, .int .u64 0, .string ⟨#[]⟩, .slice none 0 0])] w fun x w' => x = .returned (.agg #[.int .i64 0, .int .i64 0, .int .u64 0, .string ⟨#[]⟩, .slice none 0 0]) ∧ Below w.heap.size w w' := by
  obtain ⟨W1, hW1, hb1, hz, hx1, hx2⟩ := rows2 w (.int .i64 0) (.int .i64 0) (.int .u64 0) (.string ⟨#[]⟩) (.slice none 0 0)
  go_enter Tryz.func19, Tryz.ntmps19
  go_wp2_with fail
  rw [← hW1]
  clear hW1
  go_loopw [11] (fun i wr => i = .int .i64 0 ∧ wr = W1) (fun _ _ => 0)
  case atStart => exact ⟨rfl, rfl⟩
  case round =>
    obtain ⟨rfl, rfl⟩ := hrel
    have p0 : wr.cell? ⟨w.heap.size, 0, none⟩ = some (.int .i64 0) := hx1.cell 0 rfl
    have p1 : wr.cell? ⟨w.heap.size, 1, none⟩ = some (.int .i64 0) := hx1.cell 1 rfl
    have p2 : wr.cell? ⟨w.heap.size, 2, none⟩ = some (.int .u64 0) := hx1.cell 2 rfl
    have p3 : wr.cell? ⟨w.heap.size, 3, none⟩ = some (.string ⟨#[]⟩) := hx1.cell 3 rfl
    have p4 : wr.cell? ⟨w.heap.size, 4, none⟩ = some (.slice none 0 0) := hx1.cell 4 rfl
    have q0 : wr.cell? ⟨(w.heap.size + 1), 0, none⟩ = some (.int .i64 0) := hx2.cell 0 rfl
    have fq0 := hx2.thaw 0
    have q1 : wr.cell? ⟨(w.heap.size + 1), 1, none⟩ = some (.int .i64 0) := hx2.cell 1 rfl
    have fq1 := hx2.thaw 1
    have q2 : wr.cell? ⟨(w.heap.size + 1), 2, none⟩ = some (.int .u64 0) := hx2.cell 2 rfl
    have fq2 := hx2.thaw 2
    have q3 : wr.cell? ⟨(w.heap.size + 1), 3, none⟩ = some (.string ⟨#[]⟩) := hx2.cell 3 rfl
    have fq3 := hx2.thaw 3
    have q4 : wr.cell? ⟨(w.heap.size + 1), 4, none⟩ = some (.slice none 0 0) := hx2.cell 4 rfl
    have fq4 := hx2.thaw 4
    go_wp2_with fail
    exact bodyPost_ret (results_cell_row rfl _ _ (w.heap.size + 1) 25 _ (0, 0) _ rfl (Box5.set5 hx2 _ _ _ _ _) Tryz.underlying25 rfl (by kernel_rfl)) rfl
      ⟨rfl, set5_below hb1 (by simp)⟩

set_option maxRecDepth 100000 in
set_option maxHeartbeats 3200000 in
theorem mapg_pan {op : Int} {f : FuncId} (HF : Finds op f) (tp : ByteArray) {pk pn : Int} {k m b : Int} {t : ByteArray} {a : Option Addr} {l cap : Nat} (w : World) (HD : ∀ W, Below w.heap.size w W → Calls Tryz.prog f #[.string tp, (.agg #[.int .i64 k, .int .i64 m, .int .u64 b, .string t, .slice a l cap])] W fun x w' => x = .panicked (thrown 50 (.agg #[.int .i64 110, .int .i64 0, .int .i64 pk, .int .i64 pn, .bool false, .int .i64 0, .int .i64 0, .int .u64 0, .string ⟨#[]⟩, .slice none 0 0])) ∧ Below W.heap.size W w') :
    Calls Tryz.prog 8 #[.int .i64 op, .string tp, (.agg #[.int .i64 k, .int .i64 m, .int .u64 b, .string t, .slice a l cap])] w fun x w' => x = .returned (errV 110 pk pn) ∧ Below w.heap.size w w' := by
  have HH := Lib.hid HD
  clear HD
  obtain ⟨W1, hW1, hb1, hz, hx1, hx2⟩ := res_worlds w (.int .i64 k) (.int .i64 m) (.int .u64 b) (.string t) (.slice a l cap)
  have hzo := hz.out
  have hcall := HF.2
  have HG := Lib.hid HF.1
  clear HF
  go_enter_defers Tryz.func8, Tryz.ntmps8
  go_upto_region 1 with fail
  rw [← hW1]
  clear hW1
  go_wp2_with fail
  refine (HG.out _).mono ?_
  rintro e w2 ⟨G, cp, rfl, hb2⟩
  have hy1 := hx1.row.later hb2
  have hy2 := hx2.later hb2
  have hbw2 := hb1.trans (hb2.mono hb1.size)
  obtain ⟨Wa, hWa, hba, hma⟩ := map_world2 w2 (.func (.func f) #[] #[]) (.func (.func G) #[] cp)
  have hu1 := hy1.later hba
  have hu2 := hy2.later hba
  have hbwa := hbw2.trans (hba.mono hbw2.size)
  dsimp only
  go_upto_region 2 with fail
  rw [← hWa]
  clear hWa
  have d0 : Wa.cell? ⟨w2.heap.size, 0, none⟩ = some (.func (.func f) #[] #[]) := hma.cell 0 rfl
  have p0 : Wa.cell? ⟨w.heap.size, 0, none⟩ = some (.int .i64 k) := hu1.cell 0 rfl
  have p1 : Wa.cell? ⟨w.heap.size, 1, none⟩ = some (.int .i64 m) := hu1.cell 1 rfl
  have p2 : Wa.cell? ⟨w.heap.size, 2, none⟩ = some (.int .u64 b) := hu1.cell 2 rfl
  have p3 : Wa.cell? ⟨w.heap.size, 3, none⟩ = some (.string t) := hu1.cell 3 rfl
  have p4 : Wa.cell? ⟨w.heap.size, 4, none⟩ = some (.slice a l cap) := hu1.cell 4 rfl
  have q0 : Wa.cell? ⟨(w.heap.size + 1), 0, none⟩ = some (.int .i64 0) := hu2.cell 0 rfl
  have fq0 := hu2.thaw 0
  have q1 : Wa.cell? ⟨(w.heap.size + 1), 1, none⟩ = some (.int .i64 0) := hu2.cell 1 rfl
  have fq1 := hu2.thaw 1
  have q2 : Wa.cell? ⟨(w.heap.size + 1), 2, none⟩ = some (.int .i64 0) := hu2.cell 2 rfl
  have fq2 := hu2.thaw 2
  have q3 : Wa.cell? ⟨(w.heap.size + 1), 3, none⟩ = some (.int .i64 0) := hu2.cell 3 rfl
  have fq3 := hu2.thaw 3
  have q4 : Wa.cell? ⟨(w.heap.size + 1), 4, none⟩ = some (.bool false) := hu2.cell 4 rfl
  have fq4 := hu2.thaw 4
  have q5 : Wa.cell? ⟨(w.heap.size + 1), 5, none⟩ = some (.int .i64 0) := hu2.cell 5 rfl
  have fq5 := hu2.thaw 5
  have q6 : Wa.cell? ⟨(w.heap.size + 1), 6, none⟩ = some (.int .i64 0) := hu2.cell 6 rfl
  have fq6 := hu2.thaw 6
  have q7 : Wa.cell? ⟨(w.heap.size + 1), 7, none⟩ = some (.int .u64 0) := hu2.cell 7 rfl
  have fq7 := hu2.thaw 7
  have q8 : Wa.cell? ⟨(w.heap.size + 1), 8, none⟩ = some (.string ⟨#[]⟩) := hu2.cell 8 rfl
  have fq8 := hu2.thaw 8
  have q9 : Wa.cell? ⟨(w.heap.size + 1), 9, none⟩ = some (.slice none 0 0) := hu2.cell 9 rfl
  have fq9 := hu2.thaw 9
  go_wp2_with fail
  refine (HH.out _ hbwa).mono ?_
  rintro e w3 ⟨rfl, hb3⟩
  have hv2 := hu2.later hb3
  have hbw3 := hbwa.trans (hb3.mono hbwa.size)
  clear p0 p1 p2 p3 p4 q0 q1 q2 q3 q4 q5 q6 q7 q8 q9 fq0 fq1 fq2 fq3 fq4 fq5 fq6 fq7 fq8 fq9 d0
  go_wp2_with fail
  refine leaves_cons (f := 17) (args := #[.pointer (some ⟨w.heap.size + 1, 0, none⟩)]) (by simp) (by simp [go_sem]) ?_
  refine (map1_panicking (w.heap.size + 1) [] _ _ _ _ _ _ _ _ _ _ _ hv2).mono ?_
  rintro e u' W' ⟨rfl, rfl, hR, hB⟩
  exact ⟨_, results_cell_row rfl _ _ (w.heap.size + 1) 33 _ (0, 0) _ rfl hR Tryz.underlying33 rfl (by kernel_rfl), rfl, hB _ _ hbw3 (by omega)⟩
end Go.Proofs.YtecdniimikfbhaaGreatDoor
