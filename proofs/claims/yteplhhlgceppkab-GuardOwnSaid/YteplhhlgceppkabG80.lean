/- GuardOwn: the law's own walk. -/
import Derived.Test.YteplhhlgceppkabM16
import Derived.Deep.RegionHeld3
import Derived.Deep.DeepCutAuto
namespace Go.Proofs.Yteplhhlgceppkab
open Go Go.RowKit Go.ChangeShapes Go.WideShapes

/-- A row of cells that may be written, in a block from N on. -/
def Held (w : World) (N g o l : Nat) : Prop := N ≤ g ∧ g < w.heap.size ∧ (∀ j, w.frozen? ⟨g, j, none⟩ = false) ∧ ∀ p, p < l * 5 → ∃ v, w.cell? ⟨g, o + p, none⟩ = some v
theorem Held.set {w : World} {N g o l : Nat} (h : Held w N g o l) (q : Addr) (x : Value) : Held (w.setCell q x) N g o l :=
  ⟨h.1, by simpa using h.2.1, fun j => by rw [World.frozen?_setCell]; exact h.2.2.1 j, fun p hp => by
    obtain ⟨v, hv⟩ := h.2.2.2 p hp
    exact cell?_setCell_some hv⟩
theorem Held.later {w w1 : World} {N g o l : Nat} (h : Held w N g o l) (hb : Below w.heap.size w w1) : Held w1 N g o l :=
  ⟨h.1, Nat.lt_of_lt_of_le h.2.1 hb.size, fun j => (frozen_block (hb.block g h.2.1) j).trans (h.2.2.1 j), fun p hp => by
    obtain ⟨v, hv⟩ := h.2.2.2 p hp
    exact ⟨v, (hb.cell (p := ⟨g, _, none⟩) h.2.1).trans hv⟩⟩
theorem ResV.held {w : World} {N : Nat} {o : Out} {e4 c4 p4' n4 k7 m7 b7 : Int} {h4 : Bool} {t7 : ByteArray} {a7 : Option Addr} {l7 cap7 : Nat} (h : ResV w (fun b => N ≤ b) (.agg #[.int .i64 e4, .int .i64 c4, .int .i64 p4', .int .i64 n4, .bool h4, .int .i64 k7, .int .i64 m7, .int .u64 b7, .string t7, .slice a7 l7 cap7]) o) (hs : ∀ d, o = .gave d → Slim d) :
    l7 = 0 ∨ ∃ g of, a7 = some ⟨g, of, none⟩ ∧ l7 ≤ cap7 ∧ cap7 ≤ 9223372036854775807 ∧ l7 ≤ 4096 ∧ Held w N g of l7 := by
  cases o with
  | gave d =>
    obtain ⟨k, m, b, t, a, n, cap, e, h2⟩ := h
    simp only [Value.agg.injEq, Array.mk.injEq, List.cons.injEq, Value.int.injEq, Value.slice.injEq, Value.string.injEq, true_and, and_true] at e
    obtain ⟨-, -, -, -, -, rfl, rfl, rfl, rfl, rfl, rfl, rfl⟩ := e
    obtain ⟨k0, m0, b0, t0, a0, cap0, g, of, c, kids, e, rfl, ha, hc, hk⟩ := h2.inv
    simp only [Value.agg.injEq, Array.mk.injEq, List.cons.injEq, Value.int.injEq, Value.slice.injEq, Value.string.injEq, true_and, and_true] at e
    obtain ⟨rfl, rfl, rfl, rfl, rfl, rfl, rfl⟩ := e
    by_cases h0 : 0 < kids.length
    · obtain ⟨rfl, hq, hg, hcp, hcm⟩ := ha h0
      refine Or.inr ⟨g, of, rfl, hcp, hcm, (hs _ rfl).inv.1, hq.1, hg, hq.2, fun p hp => ?_⟩
      obtain ⟨q0, q1, q2, q3, q4⟩ := hc (p / 5) (by omega)
      have hm : p = p / 5 * 5 + p % 5 := by omega
      have hm5 : p % 5 = 0 ∨ p % 5 = 1 ∨ p % 5 = 2 ∨ p % 5 = 3 ∨ p % 5 = 4 := by omega
      rw [hm, ← Nat.add_assoc]
      rcases hm5 with h5 | h5 | h5 | h5 | h5 <;> rw [h5]
      · exact ⟨_, q0⟩
      · exact ⟨_, q1⟩
      · exact ⟨_, q2⟩
      · exact ⟨_, q3⟩
      · exact ⟨_, q4⟩
    · exact Or.inl (by omega)
  | pan p n =>
    have e := h
    simp only [ResV, Value.agg.injEq, Array.mk.injEq, List.cons.injEq, Value.slice.injEq, and_true] at e
    exact Or.inl e.2.2.2.2.2.2.2.2.2.2.1
  | err =>
    have e := h
    simp only [ResV, Value.agg.injEq, Array.mk.injEq, List.cons.injEq, Value.slice.injEq, and_true] at e
    exact Or.inl e.2.2.2.2.2.2.2.2.2.2.1

theorem heldA {W w1 : World} {B : Nat} {s0 s1 s2 s3 s4 s5 s6 s7 s8 s9 s10 s11 : Value} (h : w1.cell? ⟨B, 0, none⟩ = some s0 ∧ w1.cell? ⟨B, 1, none⟩ = some s1 ∧ w1.cell? ⟨B, 2, none⟩ = some s2 ∧ w1.cell? ⟨B, 3, none⟩ = some s3 ∧ w1.cell? ⟨B, 4, none⟩ = some s4 ∧ w1.cell? ⟨B, 5, none⟩ = some s5 ∧ w1.cell? ⟨B, 6, none⟩ = some s6 ∧ w1.cell? ⟨B, 7, none⟩ = some s7 ∧ w1.cell? ⟨B, 8, none⟩ = some s8 ∧ w1.cell? ⟨B, 9, none⟩ = some s9 ∧ w1.cell? ⟨B, 10, none⟩ = some s10 ∧ w1.cell? ⟨B, 11, none⟩ = some s11 ∧ Below W.heap.size W w1) : Below W.heap.size W w1 := by
  obtain ⟨_, _, _, _, _, _, _, _, _, _, _, _, h⟩ := h
  exact h
theorem keepB {W w1 w2 : World} {B : Nat} {s0 s1 s2 s3 s4 s5 s6 s7 s8 s9 s10 s11 : Value} (hB : B < W.heap.size) (h : w1.cell? ⟨B, 0, none⟩ = some s0 ∧ w1.cell? ⟨B, 1, none⟩ = some s1 ∧ w1.cell? ⟨B, 2, none⟩ = some s2 ∧ w1.cell? ⟨B, 3, none⟩ = some s3 ∧ w1.cell? ⟨B, 4, none⟩ = some s4 ∧ w1.cell? ⟨B, 5, none⟩ = some s5 ∧ w1.cell? ⟨B, 6, none⟩ = some s6 ∧ w1.cell? ⟨B, 7, none⟩ = some s7 ∧ w1.cell? ⟨B, 8, none⟩ = some s8 ∧ w1.cell? ⟨B, 9, none⟩ = some s9 ∧ w1.cell? ⟨B, 10, none⟩ = some s10 ∧ w1.cell? ⟨B, 11, none⟩ = some s11 ∧ Below W.heap.size W w1) (hb : Below W.heap.size w1 w2) : w2.cell? ⟨B, 0, none⟩ = some s0 ∧ w2.cell? ⟨B, 1, none⟩ = some s1 ∧ w2.cell? ⟨B, 2, none⟩ = some s2 ∧ w2.cell? ⟨B, 3, none⟩ = some s3 ∧ w2.cell? ⟨B, 4, none⟩ = some s4 ∧ w2.cell? ⟨B, 5, none⟩ = some s5 ∧ w2.cell? ⟨B, 6, none⟩ = some s6 ∧ w2.cell? ⟨B, 7, none⟩ = some s7 ∧ w2.cell? ⟨B, 8, none⟩ = some s8 ∧ w2.cell? ⟨B, 9, none⟩ = some s9 ∧ w2.cell? ⟨B, 10, none⟩ = some s10 ∧ w2.cell? ⟨B, 11, none⟩ = some s11 ∧ Below W.heap.size W w2 := by
  obtain ⟨c0, c1, c2, c3, c4, c5, c6, c7, c8, c9, c10, c11, h⟩ := h
  exact ⟨(hb.cell (p := ⟨B, _, none⟩) hB).trans c0, (hb.cell (p := ⟨B, _, none⟩) hB).trans c1, (hb.cell (p := ⟨B, _, none⟩) hB).trans c2, (hb.cell (p := ⟨B, _, none⟩) hB).trans c3, (hb.cell (p := ⟨B, _, none⟩) hB).trans c4, (hb.cell (p := ⟨B, _, none⟩) hB).trans c5, (hb.cell (p := ⟨B, _, none⟩) hB).trans c6, (hb.cell (p := ⟨B, _, none⟩) hB).trans c7, (hb.cell (p := ⟨B, _, none⟩) hB).trans c8, (hb.cell (p := ⟨B, _, none⟩) hB).trans c9, (hb.cell (p := ⟨B, _, none⟩) hB).trans c10, (hb.cell (p := ⟨B, _, none⟩) hB).trans c11, h.trans hb⟩
theorem Row.fill {w : World} {g : Nat} {T : TypeId} {c0 c1 c2 c3 c4 c5 c6 c7 c8 c9 c10 c11 : Value} (h : Row w g #[c0, c1, c2, c3, c4, c5, c6, c7, c8, c9, c10, c11] T) (s0 s1 s2 s3 s4 s5 s6 s7 s8 s9 s10 s11 : Value) : Row ((((((((((((w.setCell ⟨g, 0, none⟩ s0).setCell ⟨g, 1, none⟩ s1).setCell ⟨g, 2, none⟩ s2).setCell ⟨g, 3, none⟩ s3).setCell ⟨g, 4, none⟩ s4).setCell ⟨g, 5, none⟩ s5).setCell ⟨g, 6, none⟩ s6).setCell ⟨g, 7, none⟩ s7).setCell ⟨g, 8, none⟩ s8).setCell ⟨g, 9, none⟩ s9).setCell ⟨g, 10, none⟩ s10).setCell ⟨g, 11, none⟩ s11) g #[s0, s1, s2, s3, s4, s5, s6, s7, s8, s9, s10, s11] T := by
  have h1 := ((((((((((((h.set 0 s0).set 1 s1).set 2 s2).set 3 s3).set 4 s4).set 5 s5).set 6 s6).set 7 s7).set 8 s8).set 9 s9).set 10 s10).set 11 s11)
  simpa using h1
theorem heap_fill (w : World) (g : Nat) (s0 s1 s2 s3 s4 s5 s6 s7 s8 s9 s10 s11 : Value) (i : Nat) (h : i ≠ g) : ((((((((((((w.setCell ⟨g, 0, none⟩ s0).setCell ⟨g, 1, none⟩ s1).setCell ⟨g, 2, none⟩ s2).setCell ⟨g, 3, none⟩ s3).setCell ⟨g, 4, none⟩ s4).setCell ⟨g, 5, none⟩ s5).setCell ⟨g, 6, none⟩ s6).setCell ⟨g, 7, none⟩ s7).setCell ⟨g, 8, none⟩ s8).setCell ⟨g, 9, none⟩ s9).setCell ⟨g, 10, none⟩ s10).setCell ⟨g, 11, none⟩ s11).heap[i]? = w.heap[i]? := by
  rw [heap_setCell_other _ _ _ _ h, heap_setCell_other _ _ _ _ h, heap_setCell_other _ _ _ _ h, heap_setCell_other _ _ _ _ h, heap_setCell_other _ _ _ _ h, heap_setCell_other _ _ _ _ h, heap_setCell_other _ _ _ _ h, heap_setCell_other _ _ _ _ h, heap_setCell_other _ _ _ _ h, heap_setCell_other _ _ _ _ h, heap_setCell_other _ _ _ _ h, heap_setCell_other _ _ _ _ h]
theorem below_fill {B g : Nat} {w w1 : World} (h : Below B w w1) (hb : B ≤ g) (s0 s1 s2 s3 s4 s5 s6 s7 s8 s9 s10 s11 : Value) : Below B w ((((((((((((w1.setCell ⟨g, 0, none⟩ s0).setCell ⟨g, 1, none⟩ s1).setCell ⟨g, 2, none⟩ s2).setCell ⟨g, 3, none⟩ s3).setCell ⟨g, 4, none⟩ s4).setCell ⟨g, 5, none⟩ s5).setCell ⟨g, 6, none⟩ s6).setCell ⟨g, 7, none⟩ s7).setCell ⟨g, 8, none⟩ s8).setCell ⟨g, 9, none⟩ s9).setCell ⟨g, 10, none⟩ s10).setCell ⟨g, 11, none⟩ s11) :=
  ((((((((((((h.setCell (p := ⟨g, 0, none⟩) hb _).setCell (p := ⟨g, 1, none⟩) hb _).setCell (p := ⟨g, 2, none⟩) hb _).setCell (p := ⟨g, 3, none⟩) hb _).setCell (p := ⟨g, 4, none⟩) hb _).setCell (p := ⟨g, 5, none⟩) hb _).setCell (p := ⟨g, 6, none⟩) hb _).setCell (p := ⟨g, 7, none⟩) hb _).setCell (p := ⟨g, 8, none⟩) hb _).setCell (p := ⟨g, 9, none⟩) hb _).setCell (p := ⟨g, 10, none⟩) hb _).setCell (p := ⟨g, 11, none⟩) hb _)
theorem RepQ.fill {w : World} {N g : Nat} {v : Value} {d : D} (h : RepQ w (fun b => N ≤ b) v d) (hb : g < N) (s0 s1 s2 s3 s4 s5 s6 s7 s8 s9 s10 s11 : Value) : RepQ ((((((((((((w.setCell ⟨g, 0, none⟩ s0).setCell ⟨g, 1, none⟩ s1).setCell ⟨g, 2, none⟩ s2).setCell ⟨g, 3, none⟩ s3).setCell ⟨g, 4, none⟩ s4).setCell ⟨g, 5, none⟩ s5).setCell ⟨g, 6, none⟩ s6).setCell ⟨g, 7, none⟩ s7).setCell ⟨g, 8, none⟩ s8).setCell ⟨g, 9, none⟩ s9).setCell ⟨g, 10, none⟩ s10).setCell ⟨g, 11, none⟩ s11) (fun b => N ≤ b) v d :=
  h.carry (fun i hi _ => ⟨heap_fill w g _ _ _ _ _ _ _ _ _ _ _ _ i (by have : N ≤ i := hi; omega), hi⟩) (by simp)
theorem keepA {W w1 w2 : World} {B : Nat} {s0 s1 s2 s3 s4 s5 s6 s7 s8 s9 s10 s11 : Value} (hB : B < W.heap.size) (h : w1.cell? ⟨B, 0, none⟩ = some s0 ∧ w1.cell? ⟨B, 1, none⟩ = some s1 ∧ w1.cell? ⟨B, 2, none⟩ = some s2 ∧ w1.cell? ⟨B, 3, none⟩ = some s3 ∧ w1.cell? ⟨B, 4, none⟩ = some s4 ∧ w1.cell? ⟨B, 5, none⟩ = some s5 ∧ w1.cell? ⟨B, 6, none⟩ = some s6 ∧ w1.cell? ⟨B, 7, none⟩ = some s7 ∧ w1.cell? ⟨B, 8, none⟩ = some s8 ∧ w1.cell? ⟨B, 9, none⟩ = some s9 ∧ w1.cell? ⟨B, 10, none⟩ = some s10 ∧ w1.cell? ⟨B, 11, none⟩ = some s11 ∧ Below W.heap.size W w1) (hb : Below w1.heap.size w1 w2) : w2.cell? ⟨B, 0, none⟩ = some s0 ∧ w2.cell? ⟨B, 1, none⟩ = some s1 ∧ w2.cell? ⟨B, 2, none⟩ = some s2 ∧ w2.cell? ⟨B, 3, none⟩ = some s3 ∧ w2.cell? ⟨B, 4, none⟩ = some s4 ∧ w2.cell? ⟨B, 5, none⟩ = some s5 ∧ w2.cell? ⟨B, 6, none⟩ = some s6 ∧ w2.cell? ⟨B, 7, none⟩ = some s7 ∧ w2.cell? ⟨B, 8, none⟩ = some s8 ∧ w2.cell? ⟨B, 9, none⟩ = some s9 ∧ w2.cell? ⟨B, 10, none⟩ = some s10 ∧ w2.cell? ⟨B, 11, none⟩ = some s11 ∧ Below W.heap.size W w2 := by
  obtain ⟨c0, c1, c2, c3, c4, c5, c6, c7, c8, c9, c10, c11, h⟩ := h
  have hl : B < w1.heap.size := Nat.lt_of_lt_of_le hB h.size
  exact ⟨(hb.cell (p := ⟨B, _, none⟩) hl).trans c0, (hb.cell (p := ⟨B, _, none⟩) hl).trans c1, (hb.cell (p := ⟨B, _, none⟩) hl).trans c2, (hb.cell (p := ⟨B, _, none⟩) hl).trans c3, (hb.cell (p := ⟨B, _, none⟩) hl).trans c4, (hb.cell (p := ⟨B, _, none⟩) hl).trans c5, (hb.cell (p := ⟨B, _, none⟩) hl).trans c6, (hb.cell (p := ⟨B, _, none⟩) hl).trans c7, (hb.cell (p := ⟨B, _, none⟩) hl).trans c8, (hb.cell (p := ⟨B, _, none⟩) hl).trans c9, (hb.cell (p := ⟨B, _, none⟩) hl).trans c10, (hb.cell (p := ⟨B, _, none⟩) hl).trans c11, h.trans (hb.mono h.size)⟩

set_option maxRecDepth 100000 in
set_option maxHeartbeats 12800000 in
theorem own_law {A B : D} {op n : Int} {k m b : Int} {t : ByteArray} {a : Option Addr} {l cap : Nat} {k' m' b' : Int} {t' : ByteArray} {a' : Option Addr} {l' cap' : Nat} {w : World} (hv : Rep w (.agg #[.int .i64 k, .int .i64 m, .int .u64 b, .string t, .slice a l cap]) A) (hv' : Rep w (.agg #[.int .i64 k', .int .i64 m', .int .u64 b', .string t', .slice a' l' cap']) B) :
    Calls Try.prog 5 #[(.agg #[.int .i64 op, .int .i64 k, .int .i64 m, .int .u64 b, .string t, .slice a l cap, .int .i64 k', .int .i64 m', .int .u64 b', .string t', .slice a' l' cap', .int .i64 n])] w fun x w' => x = .returned (.bool true) ∧ Below w.heap.size w w' := by
  have HF := Lib.hid (fun W hW => fit_any (op := op) (n := n) hv hv' W hW)
  obtain ⟨W1, hW1, hb1, hx1⟩ := act1_world w (.int .i64 op) (.int .i64 k) (.int .i64 m) (.int .u64 b) (.string t) (.slice a l cap) (.int .i64 k') (.int .i64 m') (.int .u64 b') (.string t') (.slice a' l' cap') (.int .i64 n)
  have p0 : W1.cell? ⟨w.heap.size, 0, none⟩ = some (.int .i64 op) := hx1.cell 0 rfl
  have p1 : W1.cell? ⟨w.heap.size, 1, none⟩ = some (.int .i64 k) := hx1.cell 1 rfl
  have p2 : W1.cell? ⟨w.heap.size, 2, none⟩ = some (.int .i64 m) := hx1.cell 2 rfl
  have p3 : W1.cell? ⟨w.heap.size, 3, none⟩ = some (.int .u64 b) := hx1.cell 3 rfl
  have p4 : W1.cell? ⟨w.heap.size, 4, none⟩ = some (.string t) := hx1.cell 4 rfl
  have p5 : W1.cell? ⟨w.heap.size, 5, none⟩ = some (.slice a l cap) := hx1.cell 5 rfl
  have p6 : W1.cell? ⟨w.heap.size, 6, none⟩ = some (.int .i64 k') := hx1.cell 6 rfl
  have p7 : W1.cell? ⟨w.heap.size, 7, none⟩ = some (.int .i64 m') := hx1.cell 7 rfl
  have p8 : W1.cell? ⟨w.heap.size, 8, none⟩ = some (.int .u64 b') := hx1.cell 8 rfl
  have p9 : W1.cell? ⟨w.heap.size, 9, none⟩ = some (.string t') := hx1.cell 9 rfl
  have p10 : W1.cell? ⟨w.heap.size, 10, none⟩ = some (.slice a' l' cap') := hx1.cell 10 rfl
  have p11 : W1.cell? ⟨w.heap.size, 11, none⟩ = some (.int .i64 n) := hx1.cell 11 rfl
  go_enter Try.func5, Try.ntmps5
  go_upto_region 1 with fail
  rw [← hW1]
  clear hW1
  go_wp2_with fail
  refine (HF.out _ hb1).mono ?_
  rintro x w2 ⟨r, rfl, hr, hb2⟩
  have hb12 := hb1.trans (hb2.mono hb1.size)
  have hx2 := hx1.later hb2
  have hlt1 := hx1.lt
  clear p0 p1 p2 p3 p4 p5 p6 p7 p8 p9 p10 p11 HF hx1
  cases r
  · dsimp only
    go_wp2_with (go_at_call 7; refine (awake_any _).mono ?_; rintro e w3 ⟨rfl, hb3⟩)
    go_ret
    exact ⟨rfl, hb12.trans (hb3.mono hb12.size)⟩
  · obtain ⟨hA, hB⟩ := hr rfl
    clear hr
    obtain ⟨o, ho⟩ := both_any hA hB op n
    have HT := Lib.hid ho.2
    have HL := Lib.hid ho.1
    have HCA := Lib.hid (fun W hW => copy_any hv hA.1 W hW)
    have HCB := Lib.hid (fun W hW => copy_any hv' hB.1 W hW)
    have HV := Lib.hid hv
    have HV' := Lib.hid hv'
    clear hv hv' hA hB ho
    have p0 : w2.cell? ⟨w.heap.size, 0, none⟩ = some (.int .i64 op) := hx2.cell 0 rfl
    have p1 : w2.cell? ⟨w.heap.size, 1, none⟩ = some (.int .i64 k) := hx2.cell 1 rfl
    have p2 : w2.cell? ⟨w.heap.size, 2, none⟩ = some (.int .i64 m) := hx2.cell 2 rfl
    have p3 : w2.cell? ⟨w.heap.size, 3, none⟩ = some (.int .u64 b) := hx2.cell 3 rfl
    have p4 : w2.cell? ⟨w.heap.size, 4, none⟩ = some (.string t) := hx2.cell 4 rfl
    have p5 : w2.cell? ⟨w.heap.size, 5, none⟩ = some (.slice a l cap) := hx2.cell 5 rfl
    have p6 : w2.cell? ⟨w.heap.size, 6, none⟩ = some (.int .i64 k') := hx2.cell 6 rfl
    have p7 : w2.cell? ⟨w.heap.size, 7, none⟩ = some (.int .i64 m') := hx2.cell 7 rfl
    have p8 : w2.cell? ⟨w.heap.size, 8, none⟩ = some (.int .u64 b') := hx2.cell 8 rfl
    have p9 : w2.cell? ⟨w.heap.size, 9, none⟩ = some (.string t') := hx2.cell 9 rfl
    have p10 : w2.cell? ⟨w.heap.size, 10, none⟩ = some (.slice a' l' cap') := hx2.cell 10 rfl
    have p11 : w2.cell? ⟨w.heap.size, 11, none⟩ = some (.int .i64 n) := hx2.cell 11 rfl
    dsimp only
    go_upto_region 3 with fail
    go_cut [3] (fun s3 wc => ∃ (X : Nat) (k5 m5 b5 : Int) (t5 : ByteArray) (a5 : Option Addr) (n5 cap5 : Nat) (k6 m6 b6 : Int) (t6 : ByteArray) (a6 : Option Addr) (n6 cap6 : Nat), s3 = .pointer (some ⟨X, 0, none⟩) ∧ Row wc w.heap.size #[.int .i64 op, .int .i64 k, .int .i64 m, .int .u64 b, .string t, .slice a l cap, .int .i64 k', .int .i64 m', .int .u64 b', .string t', .slice a' l' cap', .int .i64 n] 27 ∧ Row wc X #[.int .i64 op, .int .i64 k5, .int .i64 m5, .int .u64 b5, .string t5, .slice a5 n5 cap5, .int .i64 k6, .int .i64 m6, .int .u64 b6, .string t6, .slice a6 n6 cap6, .int .i64 n] 27 ∧ Rep wc (.agg #[.int .i64 k5, .int .i64 m5, .int .u64 b5, .string t5, .slice a5 n5 cap5]) A ∧ Rep wc (.agg #[.int .i64 k6, .int .i64 m6, .int .u64 b6, .string t6, .slice a6 n6 cap6]) B ∧ Below w.heap.size w wc)
    case first =>
      have hlt2 := hx2.lt
      have hX0 : Row (w2.alloc (.cells #[.int .i64 0, .int .i64 0, .int .i64 0, .int .u64 0, .string ⟨#[]⟩, .slice none 0 0, .int .i64 0, .int .i64 0, .int .u64 0, .string ⟨#[]⟩, .slice none 0 0, .int .i64 0] 27)).drew w2.heap.size #[.int .i64 0, .int .i64 0, .int .i64 0, .int .u64 0, .string ⟨#[]⟩, .slice none 0 0, .int .i64 0, .int .i64 0, .int .u64 0, .string ⟨#[]⟩, .slice none 0 0, .int .i64 0] 27 := Row.new _ _ _
      go_region_held3 (fun w' => w'.cell? ⟨w.heap.size, 0, none⟩ = some (.int .i64 op) ∧ w'.cell? ⟨w.heap.size, 1, none⟩ = some (.int .i64 k) ∧ w'.cell? ⟨w.heap.size, 2, none⟩ = some (.int .i64 m) ∧ w'.cell? ⟨w.heap.size, 3, none⟩ = some (.int .u64 b) ∧ w'.cell? ⟨w.heap.size, 4, none⟩ = some (.string t) ∧ w'.cell? ⟨w.heap.size, 5, none⟩ = some (.slice a l cap) ∧ w'.cell? ⟨w.heap.size, 6, none⟩ = some (.int .i64 k') ∧ w'.cell? ⟨w.heap.size, 7, none⟩ = some (.int .i64 m') ∧ w'.cell? ⟨w.heap.size, 8, none⟩ = some (.int .u64 b') ∧ w'.cell? ⟨w.heap.size, 9, none⟩ = some (.string t') ∧ w'.cell? ⟨w.heap.size, 10, none⟩ = some (.slice a' l' cap') ∧ w'.cell? ⟨w.heap.size, 11, none⟩ = some (.int .i64 n) ∧ Below w2.heap.size w2 w')
        (first | (with_reducible exact hS2) | (with_reducible exact hS1) | (with_reducible assumption) | (with_reducible exact keepB hlt2 hS2 ((Below.refl _ _).alloc hzB _)) | (with_reducible exact keepB hlt2 hS2 (below_fill (Below.refl _ _) (by first | exact Nat.le_refl _ | exact hzA) _ _ _ _ _ _ _ _ _ _ _ _)) | (with_reducible exact keepB hlt2 hS1 ((Below.refl _ _).alloc hzA _)) | (with_reducible exact keepA hlt2 (by assumption) ((Below.refl _ _).alloc (Nat.le_refl _) _)) | (exact ⟨p0, p1, p2, p3, p4, p5, p6, p7, p8, p9, p10, p11, by go_grown⟩) | fail)
        (first | (have _h := hbA; go_at_call 8; refine (HCB.out _ (hb12.trans ((heldA (by assumption)).mono hb12.size))).mono ?_; rintro e y2 ⟨v2, rfl, hvB, hbB⟩; obtain ⟨k6, m6, b6, t6, a6, n6, cap6, rfl⟩ := hvB.form; have hzB := Nat.le_trans (heldA (by assumption)).size hbB.size; have hS2 := keepA hlt2 (by assumption) hbB; first | (with_reducible have hXB := (Row.new _ _ _).later hbB; have x0 := hXB.cell 0 rfl; have x1 := hXB.cell 1 rfl; have x2 := hXB.cell 2 rfl; have x3 := hXB.cell 3 rfl; have x4 := hXB.cell 4 rfl; have x5 := hXB.cell 5 rfl; have x6 := hXB.cell 6 rfl; have x7 := hXB.cell 7 rfl; have x8 := hXB.cell 8 rfl; have x9 := hXB.cell 9 rfl; have x10 := hXB.cell 10 rfl; have x11 := hXB.cell 11 rfl; have fx := hXB.thaw) | (have hXB := hXA.later hbB; have x0 := hXB.cell 0 rfl; have x1 := hXB.cell 1 rfl; have x2 := hXB.cell 2 rfl; have x3 := hXB.cell 3 rfl; have x4 := hXB.cell 4 rfl; have x5 := hXB.cell 5 rfl; have x6 := hXB.cell 6 rfl; have x7 := hXB.cell 7 rfl; have x8 := hXB.cell 8 rfl; have x9 := hXB.cell 9 rfl; have x10 := hXB.cell 10 rfl; have x11 := hXB.cell 11 rfl; have fx := hXB.thaw) | skip) | (go_at_call 8; refine (HCA.out _ (hb12.trans ((heldA (by assumption)).mono hb12.size))).mono ?_; rintro e y1 ⟨v1, rfl, hvA, hbA⟩; obtain ⟨k5, m5, b5, t5, a5, n5, cap5, rfl⟩ := hvA.form; have hzA := Nat.le_trans (heldA (by assumption)).size hbA.size; have hS1 := keepA hlt2 (by assumption) hbA; first | (with_reducible have hXA := hX0.later hbA) | skip))
      · have hbX := heldA hS2
        have hb1X := hb12.trans (hbX.mono hb12.size)
        go_wp2_with fail
        go_meet
        refine ⟨_, k5, m5, b5, t5, a5, n5, cap5, k6, m6, b6, t6, a6, n6, cap6, rfl, ?_, ?_, ?_, ?_, ?_⟩
        · exact (hx2.later hbX).old _
        · exact Row.new _ _ _
        · exact (hvA.rep.carry hbB).carry ((Below.refl _ _).alloc (Nat.le_refl _) _)
        · exact hvB.rep.carry ((Below.refl _ _).alloc (Nat.le_refl _) _)
        · exact hb1X.alloc hb1X.size _
      · have hbX := heldA hS2
        have hb1X := hb12.trans (hbX.mono hb12.size)
        go_wp2_with fail
        go_meet
        refine ⟨_, k5, m5, b5, t5, a5, n5, cap5, k6, m6, b6, t6, a6, n6, cap6, rfl, ?_, ?_, ?_, ?_, ?_⟩
        · exact (hx2.later hbX).keep (heap_fill y2 y1.heap.size _ _ _ _ _ _ _ _ _ _ _ _ w.heap.size (by omega))
        · exact hXB.fill _ _ _ _ _ _ _ _ _ _ _ _
        · exact hvA.rep.carry (below_fill (((Below.refl _ y1).alloc (Nat.le_refl _) _).trans (hbB.mono (by simp))) (Nat.le_refl _) _ _ _ _ _ _ _ _ _ _ _ _)
        · exact (hvB.fill (g := y1.heap.size) (by simp) _ _ _ _ _ _ _ _ _ _ _ _).rep
        · exact below_fill hb1X (by omega) _ _ _ _ _ _ _ _ _ _ _ _
      · have hbX := heldA hS2
        have hb1X := hb12.trans (hbX.mono hb12.size)
        go_wp2_with fail
        go_meet
        refine ⟨_, k5, m5, b5, t5, a5, n5, cap5, k6, m6, b6, t6, a6, n6, cap6, rfl, ?_, ?_, ?_, ?_, ?_⟩
        · exact (hx2.later hbX).keep (heap_fill y2 w2.heap.size _ _ _ _ _ _ _ _ _ _ _ _ w.heap.size (by omega))
        · exact hXB.fill _ _ _ _ _ _ _ _ _ _ _ _
        · exact ((hvA.later hbB).fill (g := w2.heap.size) (by simp) _ _ _ _ _ _ _ _ _ _ _ _).rep
        · exact (hvB.fill (g := w2.heap.size) hXA.lt _ _ _ _ _ _ _ _ _ _ _ _).rep
        · exact below_fill hb1X (by omega) _ _ _ _ _ _ _ _ _ _ _ _
    case rest =>
      obtain ⟨X, k5, m5, b5, t5, a5, n5, cap5, k6, m6, b6, t6, a6, n6, cap6, rfl, ha, hx, hA, hB, hbw⟩ := hcut
      obtain ⟨Wc, rfl⟩ : ∃ Wc : World, Wc = wc := ⟨_, rfl⟩
      clear p0 p1 p2 p3 p4 p5 p6 p7 p8 p9 p10 p11 hx2
      have p0 : Wc.cell? ⟨X, 0, none⟩ = some (.int .i64 op) := hx.cell 0 rfl
      have p1 : Wc.cell? ⟨X, 1, none⟩ = some (.int .i64 k5) := hx.cell 1 rfl
      have p2 : Wc.cell? ⟨X, 2, none⟩ = some (.int .i64 m5) := hx.cell 2 rfl
      have p3 : Wc.cell? ⟨X, 3, none⟩ = some (.int .u64 b5) := hx.cell 3 rfl
      have p4 : Wc.cell? ⟨X, 4, none⟩ = some (.string t5) := hx.cell 4 rfl
      have p5 : Wc.cell? ⟨X, 5, none⟩ = some (.slice a5 n5 cap5) := hx.cell 5 rfl
      have p6 : Wc.cell? ⟨X, 6, none⟩ = some (.int .i64 k6) := hx.cell 6 rfl
      have p7 : Wc.cell? ⟨X, 7, none⟩ = some (.int .i64 m6) := hx.cell 7 rfl
      have p8 : Wc.cell? ⟨X, 8, none⟩ = some (.int .u64 b6) := hx.cell 8 rfl
      have p9 : Wc.cell? ⟨X, 9, none⟩ = some (.string t6) := hx.cell 9 rfl
      have p10 : Wc.cell? ⟨X, 10, none⟩ = some (.slice a6 n6 cap6) := hx.cell 10 rfl
      have p11 : Wc.cell? ⟨X, 11, none⟩ = some (.int .i64 n) := hx.cell 11 rfl
      have HG := Lib.hid (HT.out Wc _ _ _ _ _ _ _ _ _ _ _ _ _ _ hA hB)
      have HR := Lib.hid (HT.out w _ _ _ _ _ _ _ _ _ _ _ _ _ _ HV.out HV'.out)
      go_wp2_with fail
      refine (HG.out _ (Below.refl _ _)).1.mono ?_
      rintro e w4 ⟨v4, rfl, hg4, hb4⟩
      have hgf := hg4.form
      obtain ⟨e4, c4, p4', n4, h4, k7, m7, b7, t7, a7, l7, cap7, rfl⟩ := hgf
      have ha4 := ha.later hb4
      have hx4 := hx.later hb4
      have hX := hx.lt
      have hW := ha.lt
      have hbw4 := hbw.trans (hb4.mono hbw.size)
      have hz4 := hb4.size
      have hL := hg4.held HL.out
      have HaW := Lib.hid ha
      have HxW := Lib.hid hx
      clear p0 p1 p2 p3 p4 p5 p6 p7 p8 p9 p10 p11 ha hx ha4 hx4
      obtain ⟨Wb, hWb⟩ : ∃ Wb, Wb = w4.alloc (.cells #[.int .i64 e4, .int .i64 c4, .int .i64 p4', .int .i64 n4, .bool h4, .int .i64 k7, .int .i64 m7, .int .u64 b7, .string t7, .slice a7 l7 cap7] 35) := ⟨_, rfl⟩
      have hbb : Below w4.heap.size w4 Wb := by rw [hWb]; exact (Below.refl _ _).alloc (Nat.le_refl _) _
      have hbcb := hb4.trans (hbb.mono hb4.size)
      have hr5 : Row Wb w4.heap.size #[.int .i64 e4, .int .i64 c4, .int .i64 p4', .int .i64 n4, .bool h4, .int .i64 k7, .int .i64 m7, .int .u64 b7, .string t7, .slice a7 l7 cap7] 35 := by rw [hWb]; exact Row.new _ _ _
      have hL5 : l7 = 0 ∨ ∃ g of, a7 = some ⟨g, of, none⟩ ∧ l7 ≤ cap7 ∧ cap7 ≤ 9223372036854775807 ∧ l7 ≤ 4096 ∧ Held Wb Wc.heap.size g of l7 ∧ g < w4.heap.size := by
        rcases hL with h | ⟨g, of, h1, h2, h3, h4, h5⟩
        · exact Or.inl h
        · exact Or.inr ⟨g, of, h1, h2, h3, h4, h5.later hbb, h5.2.1⟩
      clear hL
      dsimp only
      go_upto_region 5 with fail
      rw [← hWb]
      clear hWb
      have q0 : Wb.cell? ⟨w4.heap.size, 0, none⟩ = some (.int .i64 e4) := hr5.cell 0 rfl
      have q1 : Wb.cell? ⟨w4.heap.size, 1, none⟩ = some (.int .i64 c4) := hr5.cell 1 rfl
      have q2 : Wb.cell? ⟨w4.heap.size, 2, none⟩ = some (.int .i64 p4') := hr5.cell 2 rfl
      have q3 : Wb.cell? ⟨w4.heap.size, 3, none⟩ = some (.int .i64 n4) := hr5.cell 3 rfl
      have q4 : Wb.cell? ⟨w4.heap.size, 4, none⟩ = some (.bool h4) := hr5.cell 4 rfl
      have q5 : Wb.cell? ⟨w4.heap.size, 5, none⟩ = some (.int .i64 k7) := hr5.cell 5 rfl
      have q6 : Wb.cell? ⟨w4.heap.size, 6, none⟩ = some (.int .i64 m7) := hr5.cell 6 rfl
      have q7 : Wb.cell? ⟨w4.heap.size, 7, none⟩ = some (.int .u64 b7) := hr5.cell 7 rfl
      have q8 : Wb.cell? ⟨w4.heap.size, 8, none⟩ = some (.string t7) := hr5.cell 8 rfl
      have q9 : Wb.cell? ⟨w4.heap.size, 9, none⟩ = some (.slice a7 l7 cap7) := hr5.cell 9 rfl
      go_wp2_with fail
      go_loopw [27] (fun i wr => ∃ j : Nat, j ≤ l7 ∧ i = .int .i64 j ∧ Below Wc.heap.size Wc wr ∧ Row wr w4.heap.size #[.int .i64 e4, .int .i64 c4, .int .i64 p4', .int .i64 n4, .bool h4, .int .i64 k7, .int .i64 m7, .int .u64 b7, .string t7, .slice a7 l7 cap7] 35 ∧ (l7 = 0 ∨ ∃ g of, a7 = some ⟨g, of, none⟩ ∧ l7 ≤ cap7 ∧ cap7 ≤ 9223372036854775807 ∧ l7 ≤ 4096 ∧ Held wr Wc.heap.size g of l7 ∧ g < w4.heap.size)) (fun i _ => l7 - (intOf i).toNat)
      case atStart => exact ⟨0, by omega, rfl, hbcb, hr5, hL5⟩
      case round =>
        obtain ⟨j, hj, rfl, hbr, hrr, hLr⟩ := hrel
        clear q0 q1 q2 q3 q4 q5 q6 q7 q8 q9
        by_cases hlt : j < l7
        · rcases hLr with h0 | ⟨g, of, rfl, hcp, hcm, h4k, hH, hgw⟩
          · omega
          obtain ⟨v0, i0⟩ := hH.2.2.2 (j * 5) (by omega)
          obtain ⟨v1, i1⟩ := hH.2.2.2 (j * 5 + 1) (by omega)
          obtain ⟨v2, i2⟩ := hH.2.2.2 (j * 5 + 2) (by omega)
          obtain ⟨v3, i3⟩ := hH.2.2.2 (j * 5 + 3) (by omega)
          obtain ⟨v4, i4⟩ := hH.2.2.2 (j * 5 + 4) (by omega)
          rw [← Nat.add_assoc] at i1 i2 i3 i4
          have fz0 := hH.2.2.1 (of + j * 5)
          have fz1 := hH.2.2.1 (of + j * 5 + 1)
          have fz2 := hH.2.2.1 (of + j * 5 + 2)
          have fz3 := hH.2.2.1 (of + j * 5 + 3)
          have fz4 := hH.2.2.1 (of + j * 5 + 4)
          have hHH := Lib.hid hH
          clear hH
          have r9 : wr.cell? ⟨w4.heap.size, 9, none⟩ = some (.slice (some ⟨g, of, none⟩) l7 cap7) := hrr.cell 9 rfl
          go_wp2_with fail
          go_roundw
          case rel =>
            have hgN := hHH.out.1
            refine ⟨j + 1, by omega, by go_num, ?_, ?_, Or.inr ⟨g, of, rfl, hcp, hcm, h4k, ?_, hgw⟩⟩
            · exact ((((hbr.setCell (p := ⟨g, _, none⟩) hgN _).setCell (p := ⟨g, _, none⟩) hgN _).setCell (p := ⟨g, _, none⟩) hgN _).setCell (p := ⟨g, _, none⟩) hgN _).setCell (p := ⟨g, _, none⟩) hgN _
            · exact ((((hrr.other _ _ (by omega)).other _ _ (by omega)).other _ _ (by omega)).other _ _ (by omega)).other _ _ (by omega)
            · exact ((((hHH.out.set _ _).set _ _).set _ _).set _ _).set _ _
          case measure => simp [intOf]; omega
        · obtain rfl : j = l7 := by omega
          clear hLr hrr
          have hbwr := hbw.trans (hbr.mono hbw.size)
          have hdr : Below wr.heap.size wr wr.drew := by go_grown
          have har : Row wr w.heap.size #[.int .i64 op, .int .i64 k, .int .i64 m, .int .u64 b, .string t, .slice a l cap, .int .i64 k', .int .i64 m', .int .u64 b', .string t', .slice a' l' cap', .int .i64 n] 27 := HaW.out.later hbr
          have hxr : Row wr X #[.int .i64 op, .int .i64 k5, .int .i64 m5, .int .u64 b5, .string t5, .slice a5 n5 cap5, .int .i64 k6, .int .i64 m6, .int .u64 b6, .string t6, .slice a6 n6 cap6, .int .i64 n] 27 := HxW.out.later hbr
          have hbcd := hbr.trans (hdr.mono hbr.size)
          have hbwd := hbwr.trans (hdr.mono hbwr.size)
          have p0 : wr.cell? ⟨w.heap.size, 0, none⟩ = some (.int .i64 op) := har.cell 0 rfl
          have p1 : wr.cell? ⟨w.heap.size, 1, none⟩ = some (.int .i64 k) := har.cell 1 rfl
          have p2 : wr.cell? ⟨w.heap.size, 2, none⟩ = some (.int .i64 m) := har.cell 2 rfl
          have p3 : wr.cell? ⟨w.heap.size, 3, none⟩ = some (.int .u64 b) := har.cell 3 rfl
          have p4 : wr.cell? ⟨w.heap.size, 4, none⟩ = some (.string t) := har.cell 4 rfl
          have p5 : wr.cell? ⟨w.heap.size, 5, none⟩ = some (.slice a l cap) := har.cell 5 rfl
          have p6 : wr.cell? ⟨w.heap.size, 6, none⟩ = some (.int .i64 k') := har.cell 6 rfl
          have p7 : wr.cell? ⟨w.heap.size, 7, none⟩ = some (.int .i64 m') := har.cell 7 rfl
          have p8 : wr.cell? ⟨w.heap.size, 8, none⟩ = some (.int .u64 b') := har.cell 8 rfl
          have p9 : wr.cell? ⟨w.heap.size, 9, none⟩ = some (.string t') := har.cell 9 rfl
          have p10 : wr.cell? ⟨w.heap.size, 10, none⟩ = some (.slice a' l' cap') := har.cell 10 rfl
          have p11 : wr.cell? ⟨w.heap.size, 11, none⟩ = some (.int .i64 n) := har.cell 11 rfl
          have q0 : wr.cell? ⟨X, 0, none⟩ = some (.int .i64 op) := hxr.cell 0 rfl
          have q1 : wr.cell? ⟨X, 1, none⟩ = some (.int .i64 k5) := hxr.cell 1 rfl
          have q2 : wr.cell? ⟨X, 2, none⟩ = some (.int .i64 m5) := hxr.cell 2 rfl
          have q3 : wr.cell? ⟨X, 3, none⟩ = some (.int .u64 b5) := hxr.cell 3 rfl
          have q4 : wr.cell? ⟨X, 4, none⟩ = some (.string t5) := hxr.cell 4 rfl
          have q5 : wr.cell? ⟨X, 5, none⟩ = some (.slice a5 n5 cap5) := hxr.cell 5 rfl
          have q6 : wr.cell? ⟨X, 6, none⟩ = some (.int .i64 k6) := hxr.cell 6 rfl
          have q7 : wr.cell? ⟨X, 7, none⟩ = some (.int .i64 m6) := hxr.cell 7 rfl
          have q8 : wr.cell? ⟨X, 8, none⟩ = some (.int .u64 b6) := hxr.cell 8 rfl
          have q9 : wr.cell? ⟨X, 9, none⟩ = some (.string t6) := hxr.cell 9 rfl
          have q10 : wr.cell? ⟨X, 10, none⟩ = some (.slice a6 n6 cap6) := hxr.cell 10 rfl
          have q11 : wr.cell? ⟨X, 11, none⟩ = some (.int .i64 n) := hxr.cell 11 rfl
          have HA := Lib.hid hA
          have HB := Lib.hid hB
          clear hA hB
          go_wp2_with fail
          go_region_with (first
            | (go_at_call 9; refine (HG.out _ hbcd).1.mono ?_; rintro e w5 ⟨v5, rfl, hg6, hb5'⟩; have hb5 := hdr.trans (hb5'.mono hdr.size); have hbc5 := hbr.trans (hb5.mono hbr.size); have hbw5 := hbwr.trans (hb5.mono hbwr.size); have har5 := har.later hb5; have y0 : w5.cell? ⟨w.heap.size, 0, none⟩ = some (.int .i64 op) := har5.cell 0 rfl; have y1 : w5.cell? ⟨w.heap.size, 1, none⟩ = some (.int .i64 k) := har5.cell 1 rfl; have y2 : w5.cell? ⟨w.heap.size, 2, none⟩ = some (.int .i64 m) := har5.cell 2 rfl; have y3 : w5.cell? ⟨w.heap.size, 3, none⟩ = some (.int .u64 b) := har5.cell 3 rfl; have y4 : w5.cell? ⟨w.heap.size, 4, none⟩ = some (.string t) := har5.cell 4 rfl; have y5 : w5.cell? ⟨w.heap.size, 5, none⟩ = some (.slice a l cap) := har5.cell 5 rfl; have y6 : w5.cell? ⟨w.heap.size, 6, none⟩ = some (.int .i64 k') := har5.cell 6 rfl; have y7 : w5.cell? ⟨w.heap.size, 7, none⟩ = some (.int .i64 m') := har5.cell 7 rfl; have y8 : w5.cell? ⟨w.heap.size, 8, none⟩ = some (.int .u64 b') := har5.cell 8 rfl; have y9 : w5.cell? ⟨w.heap.size, 9, none⟩ = some (.string t') := har5.cell 9 rfl; have y10 : w5.cell? ⟨w.heap.size, 10, none⟩ = some (.slice a' l' cap') := har5.cell 10 rfl; have y11 : w5.cell? ⟨w.heap.size, 11, none⟩ = some (.int .i64 n) := har5.cell 11 rfl; dsimp only)
            | (go_at_call 11; refine (HR.out _ hbw5).2.mono ?_; rintro e w6 ⟨v6, rfl, hg7, hb6⟩; dsimp only)
            | (go_at_call 10; refine (rsame_any (hg6.later hb6) hg7 _ (Below.refl _ _)).mono ?_; rintro e w7 ⟨rfl, hb7⟩; have hb67 := hb6.trans (hb7.mono hb6.size); have har7 := har5.later hb67; have hxr7 := (hxr.later hb5).later hb67; have hbc7 := hbc5.trans (hb67.mono hbc5.size); have hbw7 := hbw5.trans (hb67.mono hbw5.size); have z1 : w7.cell? ⟨w.heap.size, 1, none⟩ = some (.int .i64 k) := har7.cell 1 rfl; have z2 : w7.cell? ⟨w.heap.size, 2, none⟩ = some (.int .i64 m) := har7.cell 2 rfl; have z3 : w7.cell? ⟨w.heap.size, 3, none⟩ = some (.int .u64 b) := har7.cell 3 rfl; have z4 : w7.cell? ⟨w.heap.size, 4, none⟩ = some (.string t) := har7.cell 4 rfl; have z5 : w7.cell? ⟨w.heap.size, 5, none⟩ = some (.slice a l cap) := har7.cell 5 rfl; have x1 : w7.cell? ⟨X, 1, none⟩ = some (.int .i64 k5) := hxr7.cell 1 rfl; have x2 : w7.cell? ⟨X, 2, none⟩ = some (.int .i64 m5) := hxr7.cell 2 rfl; have x3 : w7.cell? ⟨X, 3, none⟩ = some (.int .u64 b5) := hxr7.cell 3 rfl; have x4 : w7.cell? ⟨X, 4, none⟩ = some (.string t5) := hxr7.cell 4 rfl; have x5 : w7.cell? ⟨X, 5, none⟩ = some (.slice a5 n5 cap5) := hxr7.cell 5 rfl; dsimp only)
            | (go_at_call 12; refine (same_self (w0 := w7) (HA.out.carry hbc7) _ (HV.out.carry hbw7) _ (Below.refl _ _)).mono ?_; rintro e w8 ⟨rfl, hb8⟩; have hbw8 := hbw7.trans (hb8.mono hbw7.size); dsimp only)
            | (go_at_call 7; refine (awake_any _).mono ?_; rintro e w9 ⟨rfl, hb9⟩; have hbw9 := hbw8.trans (hb9.mono hbw8.size); dsimp only))
          all_goals (go_wp2_with fail; go_ret; exact ⟨rfl, hbw9⟩)
end Go.Proofs.Yteplhhlgceppkab
