/- Guard: contracts, joined texts (G63, G64, G66, G38, G39). -/
import Derived.Test.YtecdniimikfbhaaGreatDoorM05
import Derived.Test.YtecdniimikfbhaaGreatDoorM07
import Derived.Test.YtecdniimikfbhaaGreatDoorM08

/- Contracts of guard's place. -/
namespace Go.Proofs.YtecdniimikfbhaaGreatDoor
open Go Go.RowKit Go.ChangeShapes Go.WideShapes

theorem fld_1 (k m b : Int) (t : ByteArray) (a : Option Addr) (l c : Nat) (w : World) : (Instr.field 25 (.agg #[.int .i64 k, .int .i64 m, .int .u64 b, .string t, .slice a l c]) 1).run Tryz.prog w = .ok (.int .i64 m) w := by kernel_rfl
theorem fld_4 (k m b : Int) (t : ByteArray) (a : Option Addr) (l c : Nat) (w : World) : (Instr.field 25 (.agg #[.int .i64 k, .int .i64 m, .int .u64 b, .string t, .slice a l c]) 4).run Tryz.prog w = .ok (.slice a l c) w := by kernel_rfl
attribute [local go_sem] fld_1 fld_4
set_option maxRecDepth 100000 in
theorem place_no {k : Nat} (hk : k ≤ 13) {m b : Int} {t : ByteArray} {a : Option Addr} {l cap : Nat} (h : isB k 8 = false) (n : Int) (w : World) :
    Calls Tryz.prog 83 #[(.agg #[.int .i64 k, .int .i64 m, .int .u64 b, .string t, .slice a l cap]), .int .i64 n] w fun x w' => x = .panicked (thrown 181 (.agg #[.int .i64 k])) ∧ Below w.heap.size w w' := by
  have HF := Lib.hid (fun W => kind_no k hk 8 h (.int .i64 m) (.int .u64 b) (.string t) (.slice a l cap) W)
  clear h
  obtain ⟨W1, hW1, hb1, hz, hx1, hx2⟩ := rows2 w (.int .i64 k) (.int .i64 m) (.int .u64 b) (.string t) (.slice a l cap)
  have p0 : W1.cell? ⟨w.heap.size, 0, none⟩ = some (.int .i64 k) := hx1.cell 0 rfl
  have p1 : W1.cell? ⟨w.heap.size, 1, none⟩ = some (.int .i64 m) := hx1.cell 1 rfl
  have p2 : W1.cell? ⟨w.heap.size, 2, none⟩ = some (.int .u64 b) := hx1.cell 2 rfl
  have p3 : W1.cell? ⟨w.heap.size, 3, none⟩ = some (.string t) := hx1.cell 3 rfl
  have p4 : W1.cell? ⟨w.heap.size, 4, none⟩ = some (.slice a l cap) := hx1.cell 4 rfl
  go_enter Tryz.func83, Tryz.ntmps83
  go_upto_region 1 with fail
  rw [← hW1]
  clear hW1
  go_wp2_with (go_at_call 81; refine (HF.out _).mono ?_; rintro e w2 ⟨rfl, hb2⟩)
  exact ⟨rfl, rfl, hb1.trans (hb2.mono hb1.size)⟩

set_option maxRecDepth 100000 in
set_option maxHeartbeats 1600000 in
theorem place_out {w0 : World} {d : D} {k : Nat} (hk : k ≤ 13) {m b : Int} {t : ByteArray} {a : Option Addr} {l cap : Nat} (h : isB k 8 = true) (hv : Rep w0 (.agg #[.int .i64 k, .int .i64 m, .int .u64 b, .string t, .slice a l cap]) d) (hs : Slim d) (n : Int) (hn : n < 0 ∨ 0 ≤ n ∧ (d.kids.length : Int) ≤ n) (w : World) (hb0 : Below w0.heap.size w0 w) :
    Calls Tryz.prog 83 #[(.agg #[.int .i64 k, .int .i64 m, .int .u64 b, .string t, .slice a l cap]), .int .i64 n] w fun x w' => x = .panicked (thrown 182 (.agg #[.int .i64 n])) ∧ Below w.heap.size w w' := by
  have HF := Lib.hid (fun W hb => kind_yes k hk 8 h hv hs W hb)
  have HB := Lib.hid hb0
  clear h hv hs hb0
  obtain ⟨W1, hW1, hb1, hz, hx1, hx2⟩ := rows2 w (.int .i64 k) (.int .i64 m) (.int .u64 b) (.string t) (.slice a l cap)
  have p0 : W1.cell? ⟨w.heap.size, 0, none⟩ = some (.int .i64 k) := hx1.cell 0 rfl
  have p1 : W1.cell? ⟨w.heap.size, 1, none⟩ = some (.int .i64 m) := hx1.cell 1 rfl
  have p2 : W1.cell? ⟨w.heap.size, 2, none⟩ = some (.int .u64 b) := hx1.cell 2 rfl
  have p3 : W1.cell? ⟨w.heap.size, 3, none⟩ = some (.string t) := hx1.cell 3 rfl
  have p4 : W1.cell? ⟨w.heap.size, 4, none⟩ = some (.slice a l cap) := hx1.cell 4 rfl
  go_enter Tryz.func83, Tryz.ntmps83
  go_upto_region 1 with fail
  rw [← hW1]
  clear hW1
  rcases hn with hn | ⟨hn0, hn1⟩
  · go_wp2_with (go_at_call 81; refine (HF.out _ (HB.out.trans (hb1.mono HB.out.size))).mono ?_; rintro e w2 ⟨v', rfl, hv', hb2⟩; obtain ⟨k5, m5, b5, t5, a5, cap5, g5, o5, c5, kids5, rfl, rfl, _⟩ := hv'.rep.inv)
    exact ⟨rfl, rfl, hb1.trans (hb2.mono hb1.size)⟩
  · have hn2 : ¬ n < 0 := by omega
    go_wp2_with (go_at_call 81; refine (HF.out _ (HB.out.trans (hb1.mono HB.out.size))).mono ?_; rintro e w2 ⟨v', rfl, hv', hb2⟩; obtain ⟨k5, m5, b5, t5, a5, cap5, g5, o5, c5, kids5, rfl, rfl, _⟩ := hv'.rep.inv; have hn3 : (kids5.length : Int) ≤ n := hn1)
    exact ⟨rfl, rfl, hb1.trans (hb2.mono hb1.size)⟩
end Go.Proofs.YtecdniimikfbhaaGreatDoor

/- Contract of guard's place within the bounds. -/
namespace Go.Proofs.YtecdniimikfbhaaGreatDoor
open Go Go.RowKit Go.ChangeShapes Go.WideShapes

attribute [local go_sem] fld_1 fld_4
theorem RepQ.inv {w : World} {Q : Nat → Prop} {v : Value} {d : D} (h : RepQ w Q v d) : ∃ (k m b : Int) (t : ByteArray) (a : Option Addr) (cap g o : Nat) (c : Nat → Nat → Value) (kids : List D), v = .agg #[.int .i64 k, .int .i64 m, .int .u64 b, .string t, .slice a kids.length cap] ∧ d = .mk k m b t kids ∧
    (0 < kids.length → a = some ⟨g, o, none⟩ ∧ OwnB w Q g ∧ g < w.heap.size ∧ kids.length ≤ cap ∧ cap ≤ 9223372036854775807) ∧ Row5 w g o kids.length c ∧ (∀ i x, kids[i]? = some x → RepQ w Q (five c i) x) := by
  cases h with
  | mk k m b t a cap g o c kids hw ha hc hk => exact ⟨k, m, b, t, a, cap, g, o, c, kids, rfl, rfl, ha, hc, hk⟩
/-- A part of a Datum in memory: where it lies. -/
theorem RepQ.kid {w : World} {Q : Nat → Prop} {v : Value} {d x : D} (h : RepQ w Q v d) {i : Nat} (hi : d.kids[i]? = some x) : ∃ (k m b : Int) (t : ByteArray) (cap g o : Nat) (k6 m6 b6 : Int) (t6 : ByteArray) (a6 : Option Addr) (n6 cap6 : Nat),
    v = .agg #[.int .i64 k, .int .i64 m, .int .u64 b, .string t, .slice (some ⟨g, o, none⟩) d.kids.length cap] ∧ i < d.kids.length ∧ d.kids.length ≤ cap ∧ cap ≤ 9223372036854775807 ∧ g < w.heap.size ∧
    w.cell? ⟨g, o + i * 5, none⟩ = some (.int .i64 k6) ∧ w.cell? ⟨g, o + i * 5 + 1, none⟩ = some (.int .i64 m6) ∧ w.cell? ⟨g, o + i * 5 + 2, none⟩ = some (.int .u64 b6) ∧ w.cell? ⟨g, o + i * 5 + 3, none⟩ = some (.string t6) ∧ w.cell? ⟨g, o + i * 5 + 4, none⟩ = some (.slice a6 n6 cap6) ∧
    RepQ w Q (.agg #[.int .i64 k6, .int .i64 m6, .int .u64 b6, .string t6, .slice a6 n6 cap6]) x := by
  obtain ⟨k, m, b, t, a, cap, g, o, c, kids, rfl, rfl, ha, hc, hk⟩ := h.inv
  have hi' : kids[i]? = some x := hi
  have hlt : i < kids.length := (List.getElem?_eq_some_iff.1 hi').1
  obtain ⟨rfl, hq, hg, hcp, hcm⟩ := ha (by omega)
  obtain ⟨q0, q1, q2, q3, q4⟩ := hc i hlt
  have hx := hk i x hi'
  obtain ⟨k6, m6, b6, t6, a6, n6, cap6, e6⟩ := hx.form
  obtain ⟨f0, f1, f2, f3, f4⟩ := five_inv e6
  rw [f0] at q0
  rw [f1] at q1
  rw [f2] at q2
  rw [f3] at q3
  rw [f4] at q4
  rw [e6] at hx
  exact ⟨k, m, b, t, cap, g, o, k6, m6, b6, t6, a6, n6, cap6, rfl, hlt, hcp, hcm, hg, q0, q1, q2, q3, q4, hx⟩

set_option maxRecDepth 100000 in
set_option maxHeartbeats 3200000 in
theorem place_in {w0 : World} {d x : D} {k : Nat} (hk : k ≤ 13) {m b : Int} {t : ByteArray} {a : Option Addr} {l cap : Nat} (h : isB k 8 = true) (hv : Rep w0 (.agg #[.int .i64 k, .int .i64 m, .int .u64 b, .string t, .slice a l cap]) d) (hs : Slim d) (i : Nat) (hi : d.kids[i]? = some x) (w : World) (hb0 : Below w0.heap.size w0 w) :
    Calls Tryz.prog 83 #[(.agg #[.int .i64 k, .int .i64 m, .int .u64 b, .string t, .slice a l cap]), .int .i64 i] w fun y w' => ∃ v', y = .returned v' ∧ RepQ w' (fun b => w.heap.size ≤ b) v' x ∧ Below w.heap.size w w' := by
  have HF := Lib.hid (fun W hb => kind_yes k hk 8 h hv hs W hb)
  have HB := Lib.hid hb0
  have HI := Lib.hid hi
  have hlt : i < d.kids.length := (List.getElem?_eq_some_iff.1 hi).1
  have hlen : d.kids.length ≤ 4096 := by cases d; exact hs.inv.1
  clear h hv hs hb0 hi
  obtain ⟨W1, hW1, hb1, hz, hx1, hx2⟩ := rows2 w (.int .i64 k) (.int .i64 m) (.int .u64 b) (.string t) (.slice a l cap)
  have p0 : W1.cell? ⟨w.heap.size, 0, none⟩ = some (.int .i64 k) := hx1.cell 0 rfl
  have p1 : W1.cell? ⟨w.heap.size, 1, none⟩ = some (.int .i64 m) := hx1.cell 1 rfl
  have p2 : W1.cell? ⟨w.heap.size, 2, none⟩ = some (.int .u64 b) := hx1.cell 2 rfl
  have p3 : W1.cell? ⟨w.heap.size, 3, none⟩ = some (.string t) := hx1.cell 3 rfl
  have p4 : W1.cell? ⟨w.heap.size, 4, none⟩ = some (.slice a l cap) := hx1.cell 4 rfl
  go_enter Tryz.func83, Tryz.ntmps83
  go_upto_region 1 with fail
  rw [← hW1]
  clear hW1
  have hn0 : ¬ ((i : Int) < 0) := by omega
  have hn1 : ¬ ((d.kids.length : Int) ≤ i) := by omega
  have hn2 : (i : Int).toNat = i := by omega
  have hni : i ≤ 9223372036854775807 := by omega
  go_wp2_with (go_at_call 81; refine (HF.out _ (HB.out.trans (hb1.mono HB.out.size))).mono ?_; rintro e w2 ⟨v', rfl, hv', hb2⟩; obtain ⟨k5, m5, b5, t5, cap5, g5, o5, k6, m6, b6, t6, a6, n6, cap6, rfl, -, hcp, hcm, hg5, q0, q1, q2, q3, q4, hx5⟩ := hv'.kid HI.out; have hgl := Lib.hid hg5; clear hg5; have hy := hx2.later hb2; have z0 : w2.cell? ⟨w.heap.size + 1, 0, none⟩ = some (.int .i64 0) := hy.cell 0 rfl; have f0 := hy.thaw 0; have z1 : w2.cell? ⟨w.heap.size + 1, 1, none⟩ = some (.int .i64 0) := hy.cell 1 rfl; have f1 := hy.thaw 1; have z2 : w2.cell? ⟨w.heap.size + 1, 2, none⟩ = some (.int .u64 0) := hy.cell 2 rfl; have f2 := hy.thaw 2; have z3 : w2.cell? ⟨w.heap.size + 1, 3, none⟩ = some (.string ⟨#[]⟩) := hy.cell 3 rfl; have f3 := hy.thaw 3; have z4 : w2.cell? ⟨w.heap.size + 1, 4, none⟩ = some (.slice none 0 0) := hy.cell 4 rfl; have f4 := hy.thaw 4; dsimp only)
  have hzo := hz.out
  exact bodyPost_ret (results_cell_row rfl _ _ (w.heap.size + 1) 25 _ (0, 0) _ rfl (((((hy.set 0 _).set 1 _).set 2 _).set 3 _).set 4 _) Tryz.underlying25 rfl (by kernel_rfl)) rfl
    ⟨_, rfl, RepQ.set5 (N := W1.heap.size) hx5 (by omega) (by omega), set5_below (hb1.trans (hb2.mono hb1.size)) (by omega)⟩
end Go.Proofs.YtecdniimikfbhaaGreatDoor

/- Contracts of the reference's Gave, Panicked, quotient. -/
namespace Go.Proofs.YtecdniimikfbhaaGreatDoor
open Go Go.RowKit Go.ChangeShapes Go.WideShapes

theorem res1_world (w : World) : ∃ W1, W1 = w.alloc (.cells #[.int .i64 0, .int .i64 0, .int .i64 0, .int .i64 0, .bool false, .int .i64 0, .int .i64 0, .int .u64 0, .string ⟨#[]⟩, .slice none 0 0] 33) ∧ Below w.heap.size w W1 ∧ Row W1 w.heap.size #[.int .i64 0, .int .i64 0, .int .i64 0, .int .i64 0, .bool false, .int .i64 0, .int .i64 0, .int .u64 0, .string ⟨#[]⟩, .slice none 0 0] 33 := ⟨_, rfl, by go_grown, Row.new _ _ _⟩
/-- The quotient. -/
def quoI (a b : Int) : Int := wrap64 (a.tdiv b)

set_option maxRecDepth 100000 in
set_option maxHeartbeats 800000 in
theorem rgave_v (k m b : Int) (t : ByteArray) (a : Option Addr) (l cap : Nat) (w : World) :
    Calls Tryz.prog 22 #[(.agg #[.int .i64 k, .int .i64 m, .int .u64 b, .string t, .slice a l cap])] w fun x w' => x = .returned (.agg #[.int .i64 0, .int .i64 0, .int .i64 0, .int .i64 0, .bool true, .int .i64 k, .int .i64 m, .int .u64 b, .string t, .slice a l cap]) ∧ Below w.heap.size w w' := by
  obtain ⟨W1, hW1, hb1, hz, hx1, hx2⟩ := res_worlds w (.int .i64 k) (.int .i64 m) (.int .u64 b) (.string t) (.slice a l cap)
  obtain ⟨p0, p1, p2, p3, p4⟩ := hx1.cells
  have q0 : W1.cell? ⟨w.heap.size + 1, 0, none⟩ = some (.int .i64 0) := hx2.cell 0 rfl
  have fq0 := hx2.thaw 0
  have q1 : W1.cell? ⟨w.heap.size + 1, 1, none⟩ = some (.int .i64 0) := hx2.cell 1 rfl
  have fq1 := hx2.thaw 1
  have q2 : W1.cell? ⟨w.heap.size + 1, 2, none⟩ = some (.int .i64 0) := hx2.cell 2 rfl
  have fq2 := hx2.thaw 2
  have q3 : W1.cell? ⟨w.heap.size + 1, 3, none⟩ = some (.int .i64 0) := hx2.cell 3 rfl
  have fq3 := hx2.thaw 3
  have q4 : W1.cell? ⟨w.heap.size + 1, 4, none⟩ = some (.bool false) := hx2.cell 4 rfl
  have fq4 := hx2.thaw 4
  have q5 : W1.cell? ⟨w.heap.size + 1, 5, none⟩ = some (.int .i64 0) := hx2.cell 5 rfl
  have fq5 := hx2.thaw 5
  have q6 : W1.cell? ⟨w.heap.size + 1, 6, none⟩ = some (.int .i64 0) := hx2.cell 6 rfl
  have fq6 := hx2.thaw 6
  have q7 : W1.cell? ⟨w.heap.size + 1, 7, none⟩ = some (.int .u64 0) := hx2.cell 7 rfl
  have fq7 := hx2.thaw 7
  have q8 : W1.cell? ⟨w.heap.size + 1, 8, none⟩ = some (.string ⟨#[]⟩) := hx2.cell 8 rfl
  have fq8 := hx2.thaw 8
  have q9 : W1.cell? ⟨w.heap.size + 1, 9, none⟩ = some (.slice none 0 0) := hx2.cell 9 rfl
  have fq9 := hx2.thaw 9
  go_enter Tryz.func22, Tryz.ntmps22
  go_upto_region 1 with fail
  rw [← hW1]
  clear hW1
  go_wp2_with fail
  exact bodyPost_ret (results_cell_row rfl _ _ (w.heap.size + 1) 33 _ (0, 0) _ rfl (hx2.set10 _ _ _ _ _ _ _ _ _ _) Tryz.underlying33 rfl (by kernel_rfl)) rfl ⟨rfl, set10_below hb1 (by omega)⟩

set_option maxRecDepth 100000 in
set_option maxHeartbeats 800000 in
theorem rpan_v (p n : Int) (w : World) :
    Calls Tryz.prog 31 #[.int .i64 p, .int .i64 n] w fun x w' => x = .returned (.agg #[.int .i64 110, .int .i64 0, .int .i64 p, .int .i64 n, .bool false, .int .i64 0, .int .i64 0, .int .u64 0, .string ⟨#[]⟩, .slice none 0 0]) ∧ Below w.heap.size w w' := by
  obtain ⟨W1, hW1, hb1, hx2⟩ := res1_world w
  have q0 : W1.cell? ⟨w.heap.size, 0, none⟩ = some (.int .i64 0) := hx2.cell 0 rfl
  have fq0 := hx2.thaw 0
  have q1 : W1.cell? ⟨w.heap.size, 1, none⟩ = some (.int .i64 0) := hx2.cell 1 rfl
  have fq1 := hx2.thaw 1
  have q2 : W1.cell? ⟨w.heap.size, 2, none⟩ = some (.int .i64 0) := hx2.cell 2 rfl
  have fq2 := hx2.thaw 2
  have q3 : W1.cell? ⟨w.heap.size, 3, none⟩ = some (.int .i64 0) := hx2.cell 3 rfl
  have fq3 := hx2.thaw 3
  have q4 : W1.cell? ⟨w.heap.size, 4, none⟩ = some (.bool false) := hx2.cell 4 rfl
  have fq4 := hx2.thaw 4
  have q5 : W1.cell? ⟨w.heap.size, 5, none⟩ = some (.int .i64 0) := hx2.cell 5 rfl
  have fq5 := hx2.thaw 5
  have q6 : W1.cell? ⟨w.heap.size, 6, none⟩ = some (.int .i64 0) := hx2.cell 6 rfl
  have fq6 := hx2.thaw 6
  have q7 : W1.cell? ⟨w.heap.size, 7, none⟩ = some (.int .u64 0) := hx2.cell 7 rfl
  have fq7 := hx2.thaw 7
  have q8 : W1.cell? ⟨w.heap.size, 8, none⟩ = some (.string ⟨#[]⟩) := hx2.cell 8 rfl
  have fq8 := hx2.thaw 8
  have q9 : W1.cell? ⟨w.heap.size, 9, none⟩ = some (.slice none 0 0) := hx2.cell 9 rfl
  have fq9 := hx2.thaw 9
  go_enter Tryz.func31, Tryz.ntmps31
  go_upto_region 1 with fail
  rw [← hW1]
  clear hW1
  go_wp2_with fail
  exact bodyPost_ret (results_cell_row rfl _ _ w.heap.size 33 _ (0, 0) _ rfl (hx2.set10 _ _ _ _ _ _ _ _ _ _) Tryz.underlying33 rfl (by kernel_rfl)) rfl ⟨rfl, set10_below hb1 (Nat.le_refl _)⟩

end Go.Proofs.YtecdniimikfbhaaGreatDoor

/- Contracts of the reference's Match, of kinds and of interfaces. -/
namespace Go.Proofs.YtecdniimikfbhaaGreatDoor
open Go Go.RowKit Go.ChangeShapes Go.WideShapes

theorem bit_nat (n k : Nat) (hn : n < 4294967296) : (bits BinOp.and IntKind.u32 ((n : Int) / 2 ^ k) 1 == 1) = n.testBit k := by
  have e : (n : Int) / 2 ^ k = ((n / 2 ^ k : Nat) : Int) := by simp
  have hd : n / 2 ^ k < 4294967296 := Nat.lt_of_le_of_lt (Nat.div_le_self _ _) hn
  rw [e, show (1 : Int) = ((1 : Nat) : Int) from rfl, u32_and_nat _ 1 hd (by omega), Bool.eq_iff_iff, beq_iff_eq, Nat.testBit, Nat.shiftRight_eq_div_pow]
  rw [Nat.and_comm, bne_iff_ne]
  have := Nat.one_and_eq_mod_two (n / 2 ^ k)
  rw [this]
  omega
set_option maxHeartbeats 800000 in
theorem match_of (op n : Int) (s : Nat) (hs : s < 4294967296) (k : Nat) (hk : k ≤ 13) (m b t sl : Value) (w : World) (HK : ∀ W, Below w.heap.size w W → Calls Tryz.prog 56 #[.agg #[.int .i64 op, .int .i64 n, .slice none 0 0]] W fun x w' => x = .returned (.int .u32 s) ∧ Below W.heap.size W w') :
    Calls Tryz.prog 38 #[.agg #[.int .i64 op, .int .i64 n, .slice none 0 0], .agg #[.int .i64 k, m, b, t, sl]] w fun x w' => x = .returned (.bool (s.testBit k)) ∧ Below w.heap.size w w' := by
  have HK1 := Lib.hid HK
  clear HK
  obtain ⟨W1, hW1⟩ : ∃ W1, W1 = (w.alloc (.cells #[.int .i64 op, .int .i64 n, .slice none 0 0] 74)).alloc (.cells #[.int .i64 k, m, b, t, sl] 25) := ⟨_, rfl⟩
  have hb1 : Below w.heap.size w W1 := by rw [hW1]; exact ((Below.refl _ _).alloc (Nat.le_refl _) _).alloc (by simp) _
  have hx1 : Row W1 w.heap.size #[.int .i64 op, .int .i64 n, .slice none 0 0] 74 := by rw [hW1]; exact (Row.new w _ _).old _
  have hx2 : Row W1 (w.heap.size + 1) #[.int .i64 k, m, b, t, sl] 25 := by
    rw [hW1]; have h := Row.new (w.alloc (.cells #[.int .i64 op, .int .i64 n, .slice none 0 0] 74)) #[.int .i64 k, m, b, t, sl] 25; simpa using h
  have hx2d : Row W1.drew (w.heap.size + 1) #[.int .i64 k, m, b, t, sl] 25 := hx2
  have p0 : W1.cell? ⟨w.heap.size, 0, none⟩ = some (.int .i64 op) := hx1.cell 0 rfl
  have p1 : W1.cell? ⟨w.heap.size, 1, none⟩ = some (.int .i64 n) := hx1.cell 1 rfl
  have p2 : W1.cell? ⟨w.heap.size, 2, none⟩ = some (.slice none 0 0) := hx1.cell 2 rfl
  have q0 : W1.cell? ⟨w.heap.size + 1, 0, none⟩ = some (.int .i64 k) := hx2.cell 0 rfl
  go_enter Tryz.func38, Tryz.ntmps38
  go_upto_region 1 with fail
  rw [← hW1]
  clear hW1
  go_region_with (go_at_call 56; refine (HK1.out _ hb1.drew).mono ?_; rintro e w2 ⟨rfl, hb2⟩; have q1 : w2.cell? ⟨w.heap.size + 1, 0, none⟩ = some (.int .i64 k) := (hx2d.later hb2).cell 0 rfl; dsimp only)
  all_goals
    go_wp2_with fail
    refine bodyPost_ret (results_tmp rfl _ _ _) rfl ⟨?_, hb1.drew.trans (hb2.mono hb1.size)⟩
    go_simp
    exact bit_nat s k hs

theorem hasFi_eq (k : Nat) (f : Int) (hf : 0 ≤ f ∧ f < 10) : hasFi k f = decide (missN k (methsI f) = -1) := by
  have hm : ∀ l : List Nat, (l.all (hasM k)) = decide (missN k l = -1) := fun l => by
    induction l with
    | nil => rfl
    | cons m l ih =>
      cases h : hasM k m
      · simp [missN, h]
      · simp [missN, h, ih]
  obtain ⟨n, rfl⟩ : ∃ n : Nat, f = n := ⟨f.toNat, by omega⟩
  rw [methsI_nat n (by omega), ← hm]
  simp [hasFi, hasF, hf]
  omega
theorem hasFi_out (k : Nat) (f : Int) (hf : ¬ (0 ≤ f ∧ f < 10)) : hasFi k f = false := by
  unfold hasFi
  rw [decide_eq_false hf]
  rfl
theorem methsI_pos (f : Int) (hf : 0 ≤ f ∧ f < 10) : 0 < (methsI f).length := by
  obtain ⟨n, rfl⟩ : ∃ n : Nat, f = n := ⟨f.toNat, by omega⟩
  rw [methsI_nat n (by omega)]
  have hn : n < 10 := by omega
  have h : ∀ n, n < 10 → 0 < (meths n).length := by decide
  exact h n hn
theorem hasFi_0 (f : Int) : hasFi 0 f = false := by
  by_cases hf : 0 ≤ f ∧ f < 10
  · obtain ⟨n, rfl⟩ : ∃ n : Nat, f = n := ⟨f.toNat, by omega⟩
    have hn : n < 10 := by omega
    have h : ∀ n, n < 10 → hasF 0 n = false := by decide
    simp [hasFi, h n hn]
  · exact hasFi_out 0 f hf

set_option maxHeartbeats 800000 in
theorem rimpl_any (k : Nat) (hk : k ≤ 13) (f : Int) (w : World) : Calls Tryz.prog 67 #[.int .i64 k, .int .i64 f] w fun x w' => x = .returned (.bool (hasFi k f)) ∧ Below w.heap.size w w' := by
  have HM := Lib.hid (fun w => rmeths_any f w)
  have HL := Lib.hid (fun w => lacks_any k hk f w)
  by_cases h0 : k = 0
  · subst h0
    rw [hasFi_0]
    clear HM HL
    go_enter Tryz.func67, Tryz.ntmps67
    go_wp2_with fail
    go_ret
    exact ⟨rfl, Below.refl _ _⟩
  · have k1 : decide ((0 : Int) < k) = true := by simp; omega
    have k2 : decide ((k : Int) < 14) = true := by simp; omega
    have k3 : 0 < k := by omega
    clear h0
    by_cases hf : 0 ≤ f ∧ f < 10
    · have hpos := methsI_pos f hf
      rw [hasFi_eq k f hf]
      generalize methsI f = ms at *
      generalize missN k ms = mm at *
      clear hf
      go_enter Tryz.func67, Tryz.ntmps67
      go_wp2_with (first | (go_at_call 54; refine (HM.out _).mono ?_; rintro e w1 ⟨v, rfl, ⟨a, b, rfl, hab, hcl⟩, hb1⟩; clear hab hcl) | (go_at_call 32; refine (HL.out _).mono ?_; rintro e w2 ⟨rfl, hb2⟩))
      go_ret
      exact ⟨by congr 2, hb1.trans (hb2.mono hb1.size)⟩
    · rw [hasFi_out k f hf]
      rw [methsI_no f hf] at HM
      clear HL hf
      go_enter Tryz.func67, Tryz.ntmps67
      go_wp2_with (go_at_call 54; refine (HM.out _).mono ?_; rintro e w1 ⟨v, rfl, ⟨a, b, rfl, hab, hcl⟩, hb1⟩; clear hab hcl)
      go_ret
      exact ⟨rfl, hb1⟩
end Go.Proofs.YtecdniimikfbhaaGreatDoor

/- Contracts of the reference's Kinds, of kinds and of interfaces; and what Match answers. -/
namespace Go.Proofs.YtecdniimikfbhaaGreatDoor
open Go Go.RowKit Go.ChangeShapes Go.WideShapes

/-- The kinds that an assertion to a kind asks for, as a number. -/
def kmask (n : Nat) : Nat := if n = 11 then 6144 else 2 ^ n
/-- The kinds below j that have an interface. -/
def fmask (f : Nat) : Nat → Nat
  | 0 => 0
  | j + 1 => if hasF j f = true then fmask f j ||| 2 ^ j else fmask f j
theorem kinds_k1 (w : World) : Calls Tryz.prog 56 #[.agg #[.int .i64 2, .int .i64 1, .slice none 0 0]] w fun x w' => x = .returned (.int .u32 (kmask 1 : Nat)) ∧ Below w.heap.size w w' := by
  go_enter Tryz.func56, Tryz.ntmps56
  go_wp2
  go_ret
  exact ⟨rfl, by go_grown⟩
theorem kinds_k2 (w : World) : Calls Tryz.prog 56 #[.agg #[.int .i64 2, .int .i64 2, .slice none 0 0]] w fun x w' => x = .returned (.int .u32 (kmask 2 : Nat)) ∧ Below w.heap.size w w' := by
  go_enter Tryz.func56, Tryz.ntmps56
  go_wp2
  go_ret
  exact ⟨rfl, by go_grown⟩
theorem kinds_k3 (w : World) : Calls Tryz.prog 56 #[.agg #[.int .i64 2, .int .i64 3, .slice none 0 0]] w fun x w' => x = .returned (.int .u32 (kmask 3 : Nat)) ∧ Below w.heap.size w w' := by
  go_enter Tryz.func56, Tryz.ntmps56
  go_wp2
  go_ret
  exact ⟨rfl, by go_grown⟩
theorem kinds_k4 (w : World) : Calls Tryz.prog 56 #[.agg #[.int .i64 2, .int .i64 4, .slice none 0 0]] w fun x w' => x = .returned (.int .u32 (kmask 4 : Nat)) ∧ Below w.heap.size w w' := by
  go_enter Tryz.func56, Tryz.ntmps56
  go_wp2
  go_ret
  exact ⟨rfl, by go_grown⟩
theorem kinds_k5 (w : World) : Calls Tryz.prog 56 #[.agg #[.int .i64 2, .int .i64 5, .slice none 0 0]] w fun x w' => x = .returned (.int .u32 (kmask 5 : Nat)) ∧ Below w.heap.size w w' := by
  go_enter Tryz.func56, Tryz.ntmps56
  go_wp2
  go_ret
  exact ⟨rfl, by go_grown⟩
theorem kinds_k6 (w : World) : Calls Tryz.prog 56 #[.agg #[.int .i64 2, .int .i64 6, .slice none 0 0]] w fun x w' => x = .returned (.int .u32 (kmask 6 : Nat)) ∧ Below w.heap.size w w' := by
  go_enter Tryz.func56, Tryz.ntmps56
  go_wp2
  go_ret
  exact ⟨rfl, by go_grown⟩
theorem kinds_k7 (w : World) : Calls Tryz.prog 56 #[.agg #[.int .i64 2, .int .i64 7, .slice none 0 0]] w fun x w' => x = .returned (.int .u32 (kmask 7 : Nat)) ∧ Below w.heap.size w w' := by
  go_enter Tryz.func56, Tryz.ntmps56
  go_wp2
  go_ret
  exact ⟨rfl, by go_grown⟩
theorem kinds_k8 (w : World) : Calls Tryz.prog 56 #[.agg #[.int .i64 2, .int .i64 8, .slice none 0 0]] w fun x w' => x = .returned (.int .u32 (kmask 8 : Nat)) ∧ Below w.heap.size w w' := by
  go_enter Tryz.func56, Tryz.ntmps56
  go_wp2
  go_ret
  exact ⟨rfl, by go_grown⟩
theorem kinds_k9 (w : World) : Calls Tryz.prog 56 #[.agg #[.int .i64 2, .int .i64 9, .slice none 0 0]] w fun x w' => x = .returned (.int .u32 (kmask 9 : Nat)) ∧ Below w.heap.size w w' := by
  go_enter Tryz.func56, Tryz.ntmps56
  go_wp2
  go_ret
  exact ⟨rfl, by go_grown⟩
theorem kinds_k10 (w : World) : Calls Tryz.prog 56 #[.agg #[.int .i64 2, .int .i64 10, .slice none 0 0]] w fun x w' => x = .returned (.int .u32 (kmask 10 : Nat)) ∧ Below w.heap.size w w' := by
  go_enter Tryz.func56, Tryz.ntmps56
  go_wp2
  go_ret
  exact ⟨rfl, by go_grown⟩
theorem kinds_k11 (w : World) : Calls Tryz.prog 56 #[.agg #[.int .i64 2, .int .i64 11, .slice none 0 0]] w fun x w' => x = .returned (.int .u32 (kmask 11 : Nat)) ∧ Below w.heap.size w w' := by
  go_enter Tryz.func56, Tryz.ntmps56
  go_wp2
  go_ret
  exact ⟨rfl, by go_grown⟩
theorem kinds_k12 (w : World) : Calls Tryz.prog 56 #[.agg #[.int .i64 2, .int .i64 12, .slice none 0 0]] w fun x w' => x = .returned (.int .u32 (kmask 12 : Nat)) ∧ Below w.heap.size w w' := by
  go_enter Tryz.func56, Tryz.ntmps56
  go_wp2
  go_ret
  exact ⟨rfl, by go_grown⟩
theorem kinds_k13 (w : World) : Calls Tryz.prog 56 #[.agg #[.int .i64 2, .int .i64 13, .slice none 0 0]] w fun x w' => x = .returned (.int .u32 (kmask 13 : Nat)) ∧ Below w.heap.size w w' := by
  go_enter Tryz.func56, Tryz.ntmps56
  go_wp2
  go_ret
  exact ⟨rfl, by go_grown⟩
theorem hasFi_nat {f : Nat} (hf : f < 10) (j : Nat) : hasFi j f = hasF j f := by
  unfold hasFi
  rw [decide_eq_true (by omega), Int.toNat_natCast]
  rfl
theorem fmask_no {f j : Nat} (hf : f < 10) (h : hasFi j f = false) : fmask f (j + 1) = fmask f j := by
  rw [hasFi_nat hf] at h
  simp [fmask, h]
theorem fmask_lt (f : Nat) : ∀ j, j ≤ 14 → fmask f j < 4294967296
  | 0, _ => by show 0 < 4294967296; decide
  | j + 1, h => by
    have h1 := fmask_lt f j (by omega)
    have h2 : 2 ^ j < 4294967296 := Nat.pow_lt_pow_right (by omega) (show j < 32 by omega)
    unfold fmask
    split
    · exact Nat.or_lt_two_pow (n := 32) h1 h2
    · exact h1
theorem fmask_yes {f j : Nat} (hf : f < 10) (hj : j < 14) (h : hasFi j f = true) : bits BinOp.or IntKind.u32 (fmask f j : Nat) (2 ^ j % 4294967296) = (fmask f (j + 1) : Nat) := by
  rw [hasFi_nat hf] at h
  have h2 : 2 ^ j < 4294967296 := Nat.pow_lt_pow_right (by omega) (show j < 32 by omega)
  have e : ((2 : Int) ^ j % 4294967296) = ((2 ^ j : Nat) : Int) := by
    have e1 : ((2 : Int) ^ j) = ((2 ^ j : Nat) : Int) := by simp
    rw [e1]
    generalize 2 ^ j = z at h2 ⊢
    omega
  rw [e, u32_or_nat _ _ (fmask_lt f j (by omega)) h2]
  simp [fmask, h]
set_option maxHeartbeats 1600000 in
theorem kinds_face (f : Nat) (hf : f < 10) (w : World) : Calls Tryz.prog 56 #[.agg #[.int .i64 3, .int .i64 f, .slice none 0 0]] w fun x w' => x = .returned (.int .u32 (fmask f 14 : Nat)) ∧ Below w.heap.size w w' := by
  have HI := Lib.hid (fun (k : Nat) (hk : k ≤ 13) w => rimpl_any k hk f w)
  obtain ⟨W1, hW1⟩ : ∃ W1, W1 = w.alloc (.cells #[.int .i64 3, .int .i64 f, .slice none 0 0] 74) := ⟨_, rfl⟩
  have hb1 : Below w.heap.size w W1 := by rw [hW1]; exact (Below.refl _ _).alloc (Nat.le_refl _) _
  have hx1 : Row W1 w.heap.size #[.int .i64 3, .int .i64 f, .slice none 0 0] 74 := by rw [hW1]; exact Row.new w _ _
  have p0 : W1.cell? ⟨w.heap.size, 0, none⟩ = some (.int .i64 3) := hx1.cell 0 rfl
  go_enter Tryz.func56, Tryz.ntmps56
  go_upto_region 1 with fail
  rw [← hW1]
  clear hW1
  go_wp2_with fail
  go_loopw [3, 4] (fun s i wr => ∃ j : Nat, j ≤ 14 ∧ i = .int .i64 j ∧ s = .int .u32 (fmask f j : Nat) ∧ Below W1.heap.size W1 wr) (fun _ i _ => 14 - (intOf i).toNat)
  case atStart => exact ⟨0, by omega, rfl, rfl, Below.refl _ _⟩
  case round =>
    obtain ⟨j, hj, rfl, rfl, hbr⟩ := hrel
    have q1 : wr.cell? ⟨w.heap.size, 1, none⟩ = some (.int .i64 f) := (hx1.later hbr).cell 1 rfl
    by_cases hlt : j < 14
    · have HIj := Lib.hid (HI.out j (by omega))
      have hlt' : decide ((j : Int) < 14) = true := by simp; omega
      cases h : hasFi j f
      · rw [h] at HIj
        go_wp2_with (go_at_call 67; refine (HIj.out _).mono ?_; rintro e w2 ⟨rfl, hb2⟩)
        go_roundw
        case rel => exact ⟨j + 1, by omega, by go_num, by rw [fmask_no hf h], hbr.trans (hb2.mono hbr.size)⟩
        case measure => simp [intOf]; omega
      · rw [h] at HIj
        go_wp2_with (go_at_call 67; refine (HIj.out _).mono ?_; rintro e w2 ⟨rfl, hb2⟩)
        go_roundw
        case rel => exact ⟨j + 1, by omega, by go_num, by rw [fmask_yes hf hlt h], hbr.trans (hb2.mono hbr.size)⟩
        case measure => simp [intOf]; omega
    · obtain rfl : j = 14 := by omega
      go_wp2_with fail
      go_ret
      exact ⟨rfl, hb1.trans (hbr.mono hb1.size)⟩

theorem kmask_bit : ∀ n, n < 14 → 1 ≤ n → ∀ k, k < 14 → (kmask n).testBit k = isB k n := by decide +kernel
theorem fmask_bit : ∀ f, f < 10 → ∀ k, k < 14 → (fmask f 14).testBit k = hasF k f := by decide +kernel
theorem kmask_lt (n : Nat) (hn : n < 14) : kmask n < 4294967296 := by
  have h : ∀ n, n < 14 → kmask n < 4294967296 := by decide +kernel
  exact h n hn
theorem match_kind (n k : Nat) (hn : 1 ≤ n ∧ n < 14) (hk : k ≤ 13) (m b t sl : Value) (w : World) : Calls Tryz.prog 38 #[.agg #[.int .i64 2, .int .i64 n, .slice none 0 0], .agg #[.int .i64 k, m, b, t, sl]] w fun x w' => x = .returned (.bool (isB k n)) ∧ Below w.heap.size w w' := by
  rw [← kmask_bit n hn.2 hn.1 k (by omega)]
  refine match_of 2 n (kmask n) (kmask_lt n hn.2) k hk m b t sl w (fun W _ => ?_)
  have hn' := hn.2
  match n, hn' with
  | 0, _ => omega
  | 1, _ => exact kinds_k1 W
  | 2, _ => exact kinds_k2 W
  | 3, _ => exact kinds_k3 W
  | 4, _ => exact kinds_k4 W
  | 5, _ => exact kinds_k5 W
  | 6, _ => exact kinds_k6 W
  | 7, _ => exact kinds_k7 W
  | 8, _ => exact kinds_k8 W
  | 9, _ => exact kinds_k9 W
  | 10, _ => exact kinds_k10 W
  | 11, _ => exact kinds_k11 W
  | 12, _ => exact kinds_k12 W
  | 13, _ => exact kinds_k13 W
  | n + 14, h => omega
theorem match_face (f k : Nat) (hf : f < 10) (hk : k ≤ 13) (m b t sl : Value) (w : World) : Calls Tryz.prog 38 #[.agg #[.int .i64 3, .int .i64 f, .slice none 0 0], .agg #[.int .i64 k, m, b, t, sl]] w fun x w' => x = .returned (.bool (hasF k f)) ∧ Below w.heap.size w w' := by
  rw [← fmask_bit f hf k (by omega)]
  exact match_of 3 f (fmask f 14) (fmask_lt f 14 (by omega)) k hk m b t sl w (fun W _ => kinds_face f hf W)
end Go.Proofs.YtecdniimikfbhaaGreatDoor
