/- Guard: contracts, joined texts (G74, G62, G60, G75). -/
import Derived.Test.YteplhhlgceppkabGreatM08
import Derived.Test.YteplhhlgceppkabGreatM10
import Derived.Test.YteplhhlgceppkabGreatM12
import Derived.Test.YteplhhlgceppkabGreatM14

/- Contracts of the reference's Try, an act each: the rest. -/
namespace Go.Proofs.YteplhhlgceppkabGreat
open Go Go.RowKit Go.ChangeShapes Go.WideShapes

set_option maxRecDepth 100000 in
set_option maxHeartbeats 3200000 in
theorem rt_index_in {w0 : World} {k m b : Int} {t : ByteArray} {a : Option Addr} {l cap : Nat} {kb mb bb : Int} {tb : ByteArray} {ab : Option Addr} {lb capb : Nat} {d x : D} (hv : Rep w0 (.agg #[.int .i64 k, .int .i64 m, .int .u64 b, .string t, .slice a l cap]) d) (hs : Slim d) (hk : k = 8) (i : Nat) (hi : d.kids[i]? = some x) (w : World) (hb0 : Below w0.heap.size w0 w) :
    Calls Tryz.prog 15 #[(.agg #[.int .i64 4, .int .i64 k, .int .i64 m, .int .u64 b, .string t, .slice a l cap, .int .i64 kb, .int .i64 mb, .int .u64 bb, .string tb, .slice ab lb capb, .int .i64 i])] w fun y w' => ∃ v', y = .returned v' ∧ ResV w' (fun b => w.heap.size ≤ b) v' (.gave x) ∧ Below w.heap.size w w' := by
  obtain ⟨k', m', b', t', cap', g, o, k6, m6, b6, t6, a6, n6, cap6, e1, hlt, hcp, hcm, hg, i0, i1, i2, i3, i4, hx⟩ := hv.kid hi
  simp only [Value.agg.injEq, Array.mk.injEq, List.cons.injEq, Value.int.injEq, Value.slice.injEq, Value.string.injEq, true_and, and_true] at e1
  obtain ⟨rfl, rfl, rfl, rfl, rfl, rfl, rfl⟩ := e1
  subst hk
  have HC := Lib.hid (fun W h => copy_any hx (hs.kid hi) W h)
  have hlen : d.kids.length ≤ 4096 := by cases d; exact hs.inv.1
  generalize d.kids.length = l at *
  have hgl := Lib.hid hg
  have HB := Lib.hid hb0
  clear hv hs hi hx hg
  have hn0 : ¬ ((i : Int) < 0) := by omega
  have hn1 : ¬ ((l : Int) ≤ i) := by omega
  have hn2 : (i : Int).toNat = i := by omega
  have hni : i ≤ 9223372036854775807 := by omega
  obtain ⟨W1, hW1, hb1, hz, hx1, hx2⟩ := act_worlds w (.int .i64 4) (.int .i64 8) (.int .i64 m) (.int .u64 b) (.string t) (.slice (some ⟨g, o, none⟩) l cap) (.int .i64 kb) (.int .i64 mb) (.int .u64 bb) (.string tb) (.slice ab lb capb) (.int .i64 i)
  have h01 : Below w0.heap.size w0 W1 := hb0.trans (hb1.mono hb0.size)
  have p0 : W1.cell? ⟨w.heap.size, 0, none⟩ = some (.int .i64 4) := hx1.cell 0 rfl
  have p1 : W1.cell? ⟨w.heap.size, 1, none⟩ = some (.int .i64 8) := hx1.cell 1 rfl
  have p2 : W1.cell? ⟨w.heap.size, 2, none⟩ = some (.int .i64 m) := hx1.cell 2 rfl
  have p3 : W1.cell? ⟨w.heap.size, 3, none⟩ = some (.int .u64 b) := hx1.cell 3 rfl
  have p4 : W1.cell? ⟨w.heap.size, 4, none⟩ = some (.string t) := hx1.cell 4 rfl
  have p5 : W1.cell? ⟨w.heap.size, 5, none⟩ = some (.slice (some ⟨g, o, none⟩) l cap) := hx1.cell 5 rfl
  have p6 : W1.cell? ⟨w.heap.size, 6, none⟩ = some (.int .i64 kb) := hx1.cell 6 rfl
  have p7 : W1.cell? ⟨w.heap.size, 7, none⟩ = some (.int .i64 mb) := hx1.cell 7 rfl
  have p8 : W1.cell? ⟨w.heap.size, 8, none⟩ = some (.int .u64 bb) := hx1.cell 8 rfl
  have p9 : W1.cell? ⟨w.heap.size, 9, none⟩ = some (.string tb) := hx1.cell 9 rfl
  have p10 : W1.cell? ⟨w.heap.size, 10, none⟩ = some (.slice ab lb capb) := hx1.cell 10 rfl
  have p11 : W1.cell? ⟨w.heap.size, 11, none⟩ = some (.int .i64 i) := hx1.cell 11 rfl
  have q0 : W1.cell? ⟨w.heap.size + 1, 0, none⟩ = some (.int .i64 0) := hx2.cell 0 rfl
  have fq0 := hx2.thaw 0
  have q1 : W1.cell? ⟨w.heap.size + 1, 1, none⟩ = some (.int .i64 0) := hx2.cell 1 rfl
  have fq1 := hx2.thaw 1
  have q2 : W1.cell? ⟨w.heap.size + 1, 2, none⟩ = some (.int .i64 0) := hx2.cell 2 rfl
  have fq2 := hx2.thaw 2
  have q3 : W1.cell? ⟨w.heap.size + 1, 3, none⟩ = some (.int .i64 0) := hx2.cell 3 rfl
  have fq3 := hx2.thaw 3
  have q4 : W1.cell? ⟨w.heap.size + 1, 4, none⟩ = some (.bool false) := hx2.cell 4 rfl
  have fq4 := hx2.thaw 4
  have q5 : W1.cell? ⟨w.heap.size + 1, 5, none⟩ = some (.int .i64 0) := hx2.cell 5 rfl
  have fq5 := hx2.thaw 5
  have q6 : W1.cell? ⟨w.heap.size + 1, 6, none⟩ = some (.int .i64 0) := hx2.cell 6 rfl
  have fq6 := hx2.thaw 6
  have q7 : W1.cell? ⟨w.heap.size + 1, 7, none⟩ = some (.int .u64 0) := hx2.cell 7 rfl
  have fq7 := hx2.thaw 7
  have q8 : W1.cell? ⟨w.heap.size + 1, 8, none⟩ = some (.string ⟨#[]⟩) := hx2.cell 8 rfl
  have fq8 := hx2.thaw 8
  have q9 : W1.cell? ⟨w.heap.size + 1, 9, none⟩ = some (.slice none 0 0) := hx2.cell 9 rfl
  have fq9 := hx2.thaw 9
  have j0 : W1.cell? ⟨g, o + i * 5, none⟩ = some (.int .i64 k6) := (h01.cell (p := ⟨g, o + i * 5, none⟩) hgl.out).trans i0
  have j1 : W1.cell? ⟨g, o + i * 5 + 1, none⟩ = some (.int .i64 m6) := (h01.cell (p := ⟨g, o + i * 5 + 1, none⟩) hgl.out).trans i1
  have j2 : W1.cell? ⟨g, o + i * 5 + 2, none⟩ = some (.int .u64 b6) := (h01.cell (p := ⟨g, o + i * 5 + 2, none⟩) hgl.out).trans i2
  have j3 : W1.cell? ⟨g, o + i * 5 + 3, none⟩ = some (.string t6) := (h01.cell (p := ⟨g, o + i * 5 + 3, none⟩) hgl.out).trans i3
  have j4 : W1.cell? ⟨g, o + i * 5 + 4, none⟩ = some (.slice a6 n6 cap6) := (h01.cell (p := ⟨g, o + i * 5 + 4, none⟩) hgl.out).trans i4
  clear hb0 i0 i1 i2 i3 i4
  go_enter Tryz.func15, Tryz.ntmps15
  go_upto_region 1 with fail
  rw [← hW1]
  clear hW1
  go_wp2_with (first | (go_at_call 22; refine (HC.out _ h01).mono ?_; rintro e w2 ⟨v', rfl, hv', hb2⟩; obtain ⟨k5, m5, b5, t5, a5, n5, cap5, rfl⟩ := hv'.form; dsimp only) | (go_at_call 21; refine (rgave_v _ _ _ _ _ _ _ _).mono ?_; rintro e w3 ⟨rfl, hbg⟩; have hbx := hb2.trans (hbg.mono hb2.size); have hy := hx2.later hbx; have z0 : w3.cell? ⟨w.heap.size + 1, 0, none⟩ = some (.int .i64 0) := hy.cell 0 rfl; have fz0 := hy.thaw 0; have z1 : w3.cell? ⟨w.heap.size + 1, 1, none⟩ = some (.int .i64 0) := hy.cell 1 rfl; have fz1 := hy.thaw 1; have z2 : w3.cell? ⟨w.heap.size + 1, 2, none⟩ = some (.int .i64 0) := hy.cell 2 rfl; have fz2 := hy.thaw 2; have z3 : w3.cell? ⟨w.heap.size + 1, 3, none⟩ = some (.int .i64 0) := hy.cell 3 rfl; have fz3 := hy.thaw 3; have z4 : w3.cell? ⟨w.heap.size + 1, 4, none⟩ = some (.bool false) := hy.cell 4 rfl; have fz4 := hy.thaw 4; have z5 : w3.cell? ⟨w.heap.size + 1, 5, none⟩ = some (.int .i64 0) := hy.cell 5 rfl; have fz5 := hy.thaw 5; have z6 : w3.cell? ⟨w.heap.size + 1, 6, none⟩ = some (.int .i64 0) := hy.cell 6 rfl; have fz6 := hy.thaw 6; have z7 : w3.cell? ⟨w.heap.size + 1, 7, none⟩ = some (.int .u64 0) := hy.cell 7 rfl; have fz7 := hy.thaw 7; have z8 : w3.cell? ⟨w.heap.size + 1, 8, none⟩ = some (.string ⟨#[]⟩) := hy.cell 8 rfl; have fz8 := hy.thaw 8; have z9 : w3.cell? ⟨w.heap.size + 1, 9, none⟩ = some (.slice none 0 0) := hy.cell 9 rfl; have fz9 := hy.thaw 9; dsimp only))
  have hzo := hz.out
  exact bodyPost_ret (results_cell_row rfl _ _ (w.heap.size + 1) 42 _ (0, 0) _ rfl (hy.set10 _ _ _ _ _ _ _ _ _ _) Tryz.underlying42 rfl (by kernel_rfl)) rfl
    ⟨_, rfl, ⟨_, _, _, _, _, _, _, rfl, RepQ.set10 (N := W1.heap.size) (hv'.later hbg) (by omega) (by omega)⟩, set10_below (hb1.trans (hbx.mono hb1.size)) (by omega)⟩

set_option maxRecDepth 100000 in
set_option maxHeartbeats 3200000 in
theorem rt_compare_none {w0 : World} {k : Int} {m b : Int} {t : ByteArray} {a : Option Addr} {l cap : Nat} {k' m' b' : Int} {t' : ByteArray} {a' : Option Addr} {l' cap' : Nat} {n : Int} (HO : ∀ W, Below w0.heap.size w0 W → Calls Tryz.prog 27 #[(.agg #[.int .i64 k, .int .i64 m, .int .u64 b, .string t, .slice a l cap]), (.agg #[.int .i64 k', .int .i64 m', .int .u64 b', .string t', .slice a' l' cap'])] W fun x w' => x = .returned (eqR (none)) ∧ Below W.heap.size W w') (w : World) (hb0 : Below w0.heap.size w0 w) :
    Calls Tryz.prog 15 #[(.agg #[.int .i64 6, .int .i64 k, .int .i64 m, .int .u64 b, .string t, .slice a l cap, .int .i64 k', .int .i64 m', .int .u64 b', .string t', .slice a' l' cap', .int .i64 n])] w fun x w' => ∃ v', x = .returned v' ∧ ResV w' (fun b => w.heap.size ≤ b) v' (.pan 5 0) ∧ Below w.heap.size w w' := by
  have HH := Lib.hid HO
  have HB := Lib.hid hb0
  clear HO hb0
  obtain ⟨W1, hW1, hb1, hz, hx1, hx2⟩ := act_worlds w (.int .i64 6) (.int .i64 k) (.int .i64 m) (.int .u64 b) (.string t) (.slice a l cap) (.int .i64 k') (.int .i64 m') (.int .u64 b') (.string t') (.slice a' l' cap') (.int .i64 n)
  have p0 : W1.cell? ⟨w.heap.size, 0, none⟩ = some (.int .i64 6) := hx1.cell 0 rfl
  have p1 : W1.cell? ⟨w.heap.size, 1, none⟩ = some (.int .i64 k) := hx1.cell 1 rfl
  have p2 : W1.cell? ⟨w.heap.size, 2, none⟩ = some (.int .i64 m) := hx1.cell 2 rfl
  have p3 : W1.cell? ⟨w.heap.size, 3, none⟩ = some (.int .u64 b) := hx1.cell 3 rfl
  have p4 : W1.cell? ⟨w.heap.size, 4, none⟩ = some (.string t) := hx1.cell 4 rfl
  have p5 : W1.cell? ⟨w.heap.size, 5, none⟩ = some (.slice a l cap) := hx1.cell 5 rfl
  have p6 : W1.cell? ⟨w.heap.size, 6, none⟩ = some (.int .i64 k') := hx1.cell 6 rfl
  have p7 : W1.cell? ⟨w.heap.size, 7, none⟩ = some (.int .i64 m') := hx1.cell 7 rfl
  have p8 : W1.cell? ⟨w.heap.size, 8, none⟩ = some (.int .u64 b') := hx1.cell 8 rfl
  have p9 : W1.cell? ⟨w.heap.size, 9, none⟩ = some (.string t') := hx1.cell 9 rfl
  have p10 : W1.cell? ⟨w.heap.size, 10, none⟩ = some (.slice a' l' cap') := hx1.cell 10 rfl
  have p11 : W1.cell? ⟨w.heap.size, 11, none⟩ = some (.int .i64 n) := hx1.cell 11 rfl
  have q0 : W1.cell? ⟨w.heap.size + 1, 0, none⟩ = some (.int .i64 0) := hx2.cell 0 rfl
  have fq0 := hx2.thaw 0
  have q1 : W1.cell? ⟨w.heap.size + 1, 1, none⟩ = some (.int .i64 0) := hx2.cell 1 rfl
  have fq1 := hx2.thaw 1
  have q2 : W1.cell? ⟨w.heap.size + 1, 2, none⟩ = some (.int .i64 0) := hx2.cell 2 rfl
  have fq2 := hx2.thaw 2
  have q3 : W1.cell? ⟨w.heap.size + 1, 3, none⟩ = some (.int .i64 0) := hx2.cell 3 rfl
  have fq3 := hx2.thaw 3
  have q4 : W1.cell? ⟨w.heap.size + 1, 4, none⟩ = some (.bool false) := hx2.cell 4 rfl
  have fq4 := hx2.thaw 4
  have q5 : W1.cell? ⟨w.heap.size + 1, 5, none⟩ = some (.int .i64 0) := hx2.cell 5 rfl
  have fq5 := hx2.thaw 5
  have q6 : W1.cell? ⟨w.heap.size + 1, 6, none⟩ = some (.int .i64 0) := hx2.cell 6 rfl
  have fq6 := hx2.thaw 6
  have q7 : W1.cell? ⟨w.heap.size + 1, 7, none⟩ = some (.int .u64 0) := hx2.cell 7 rfl
  have fq7 := hx2.thaw 7
  have q8 : W1.cell? ⟨w.heap.size + 1, 8, none⟩ = some (.string ⟨#[]⟩) := hx2.cell 8 rfl
  have fq8 := hx2.thaw 8
  have q9 : W1.cell? ⟨w.heap.size + 1, 9, none⟩ = some (.slice none 0 0) := hx2.cell 9 rfl
  have fq9 := hx2.thaw 9
  go_enter Tryz.func15, Tryz.ntmps15
  go_upto_region 1 with fail
  rw [← hW1]
  clear hW1
  go_wp2_with (first | (go_at_call 27; refine (HH.out _ (HB.out.trans (hb1.mono HB.out.size))).mono ?_; rintro e w2 ⟨rfl, hb2⟩; unfold eqR; dsimp only) | (go_at_call 25; refine (rpan_v _ _ _).mono ?_; rintro e w3 ⟨rfl, hbg⟩; have hbx := hb2.trans (hbg.mono hb2.size); have hy := hx2.later hbx; have z0 : w3.cell? ⟨w.heap.size + 1, 0, none⟩ = some (.int .i64 0) := hy.cell 0 rfl; have fz0 := hy.thaw 0; have z1 : w3.cell? ⟨w.heap.size + 1, 1, none⟩ = some (.int .i64 0) := hy.cell 1 rfl; have fz1 := hy.thaw 1; have z2 : w3.cell? ⟨w.heap.size + 1, 2, none⟩ = some (.int .i64 0) := hy.cell 2 rfl; have fz2 := hy.thaw 2; have z3 : w3.cell? ⟨w.heap.size + 1, 3, none⟩ = some (.int .i64 0) := hy.cell 3 rfl; have fz3 := hy.thaw 3; have z4 : w3.cell? ⟨w.heap.size + 1, 4, none⟩ = some (.bool false) := hy.cell 4 rfl; have fz4 := hy.thaw 4; have z5 : w3.cell? ⟨w.heap.size + 1, 5, none⟩ = some (.int .i64 0) := hy.cell 5 rfl; have fz5 := hy.thaw 5; have z6 : w3.cell? ⟨w.heap.size + 1, 6, none⟩ = some (.int .i64 0) := hy.cell 6 rfl; have fz6 := hy.thaw 6; have z7 : w3.cell? ⟨w.heap.size + 1, 7, none⟩ = some (.int .u64 0) := hy.cell 7 rfl; have fz7 := hy.thaw 7; have z8 : w3.cell? ⟨w.heap.size + 1, 8, none⟩ = some (.string ⟨#[]⟩) := hy.cell 8 rfl; have fz8 := hy.thaw 8; have z9 : w3.cell? ⟨w.heap.size + 1, 9, none⟩ = some (.slice none 0 0) := hy.cell 9 rfl; have fz9 := hy.thaw 9; dsimp only))
  have hzo := hz.out
  exact bodyPost_ret (results_cell_row rfl _ _ (w.heap.size + 1) 42 _ (0, 0) _ rfl (hy.set10 _ _ _ _ _ _ _ _ _ _) Tryz.underlying42 rfl (by kernel_rfl)) rfl
    ⟨_, rfl, rfl, set10_below (hb1.trans (hbx.mono hb1.size)) (by omega)⟩

theorem litQ (w : World) (Q : Nat → Prop) (k m : Int) (hk : (Lit.int .i64 k).wf = true) (hm : (Lit.int .i64 m).wf = true) : RepQ w Q (.agg #[.int .i64 k, .int .i64 m, .int .u64 0, .string ⟨#[]⟩, .slice none 0 0]) (.mk k m 0 ⟨#[]⟩ []) :=
  RepQ.mk k m 0 ⟨#[]⟩ none 0 0 0 (fun _ _ => .bool false) [] ⟨hk, hm, by decide, by decide⟩ (fun h => absurd h (by simp)) (fun i hi => absurd hi (by simp)) (fun i x hx => by simp at hx)
/-- A truth as a Datum. -/
def boolD (r : Bool) : D := .mk 6 (boolI r) 0 ⟨#[]⟩ []

set_option maxRecDepth 100000 in
set_option maxHeartbeats 3200000 in
theorem rt_compare_true {w0 : World} {k : Int} {m b : Int} {t : ByteArray} {a : Option Addr} {l cap : Nat} {k' m' b' : Int} {t' : ByteArray} {a' : Option Addr} {l' cap' : Nat} {n : Int} (HO : ∀ W, Below w0.heap.size w0 W → Calls Tryz.prog 27 #[(.agg #[.int .i64 k, .int .i64 m, .int .u64 b, .string t, .slice a l cap]), (.agg #[.int .i64 k', .int .i64 m', .int .u64 b', .string t', .slice a' l' cap'])] W fun x w' => x = .returned (eqR (some true)) ∧ Below W.heap.size W w') (w : World) (hb0 : Below w0.heap.size w0 w) :
    Calls Tryz.prog 15 #[(.agg #[.int .i64 6, .int .i64 k, .int .i64 m, .int .u64 b, .string t, .slice a l cap, .int .i64 k', .int .i64 m', .int .u64 b', .string t', .slice a' l' cap', .int .i64 n])] w fun x w' => ∃ v', x = .returned v' ∧ ResV w' (fun b => w.heap.size ≤ b) v' (.gave (boolD true)) ∧ Below w.heap.size w w' := by
  have HH := Lib.hid HO
  have HB := Lib.hid hb0
  clear HO hb0
  obtain ⟨W1, hW1, hb1, hz, hx1, hx2⟩ := act_worlds w (.int .i64 6) (.int .i64 k) (.int .i64 m) (.int .u64 b) (.string t) (.slice a l cap) (.int .i64 k') (.int .i64 m') (.int .u64 b') (.string t') (.slice a' l' cap') (.int .i64 n)
  have p0 : W1.cell? ⟨w.heap.size, 0, none⟩ = some (.int .i64 6) := hx1.cell 0 rfl
  have p1 : W1.cell? ⟨w.heap.size, 1, none⟩ = some (.int .i64 k) := hx1.cell 1 rfl
  have p2 : W1.cell? ⟨w.heap.size, 2, none⟩ = some (.int .i64 m) := hx1.cell 2 rfl
  have p3 : W1.cell? ⟨w.heap.size, 3, none⟩ = some (.int .u64 b) := hx1.cell 3 rfl
  have p4 : W1.cell? ⟨w.heap.size, 4, none⟩ = some (.string t) := hx1.cell 4 rfl
  have p5 : W1.cell? ⟨w.heap.size, 5, none⟩ = some (.slice a l cap) := hx1.cell 5 rfl
  have p6 : W1.cell? ⟨w.heap.size, 6, none⟩ = some (.int .i64 k') := hx1.cell 6 rfl
  have p7 : W1.cell? ⟨w.heap.size, 7, none⟩ = some (.int .i64 m') := hx1.cell 7 rfl
  have p8 : W1.cell? ⟨w.heap.size, 8, none⟩ = some (.int .u64 b') := hx1.cell 8 rfl
  have p9 : W1.cell? ⟨w.heap.size, 9, none⟩ = some (.string t') := hx1.cell 9 rfl
  have p10 : W1.cell? ⟨w.heap.size, 10, none⟩ = some (.slice a' l' cap') := hx1.cell 10 rfl
  have p11 : W1.cell? ⟨w.heap.size, 11, none⟩ = some (.int .i64 n) := hx1.cell 11 rfl
  have q0 : W1.cell? ⟨w.heap.size + 1, 0, none⟩ = some (.int .i64 0) := hx2.cell 0 rfl
  have fq0 := hx2.thaw 0
  have q1 : W1.cell? ⟨w.heap.size + 1, 1, none⟩ = some (.int .i64 0) := hx2.cell 1 rfl
  have fq1 := hx2.thaw 1
  have q2 : W1.cell? ⟨w.heap.size + 1, 2, none⟩ = some (.int .i64 0) := hx2.cell 2 rfl
  have fq2 := hx2.thaw 2
  have q3 : W1.cell? ⟨w.heap.size + 1, 3, none⟩ = some (.int .i64 0) := hx2.cell 3 rfl
  have fq3 := hx2.thaw 3
  have q4 : W1.cell? ⟨w.heap.size + 1, 4, none⟩ = some (.bool false) := hx2.cell 4 rfl
  have fq4 := hx2.thaw 4
  have q5 : W1.cell? ⟨w.heap.size + 1, 5, none⟩ = some (.int .i64 0) := hx2.cell 5 rfl
  have fq5 := hx2.thaw 5
  have q6 : W1.cell? ⟨w.heap.size + 1, 6, none⟩ = some (.int .i64 0) := hx2.cell 6 rfl
  have fq6 := hx2.thaw 6
  have q7 : W1.cell? ⟨w.heap.size + 1, 7, none⟩ = some (.int .u64 0) := hx2.cell 7 rfl
  have fq7 := hx2.thaw 7
  have q8 : W1.cell? ⟨w.heap.size + 1, 8, none⟩ = some (.string ⟨#[]⟩) := hx2.cell 8 rfl
  have fq8 := hx2.thaw 8
  have q9 : W1.cell? ⟨w.heap.size + 1, 9, none⟩ = some (.slice none 0 0) := hx2.cell 9 rfl
  have fq9 := hx2.thaw 9
  go_enter Tryz.func15, Tryz.ntmps15
  go_upto_region 1 with fail
  rw [← hW1]
  clear hW1
  go_wp2_with (first | (go_at_call 27; refine (HH.out _ (HB.out.trans (hb1.mono HB.out.size))).mono ?_; rintro e w2 ⟨rfl, hb2⟩; unfold eqR; dsimp only) | (go_at_call 21; refine (rgave_v _ _ _ _ _ _ _ _).mono ?_; rintro e w3 ⟨rfl, hbg⟩; have hbx := hb2.trans (hbg.mono hb2.size); have hy := hx2.later hbx; have z0 : w3.cell? ⟨w.heap.size + 1, 0, none⟩ = some (.int .i64 0) := hy.cell 0 rfl; have fz0 := hy.thaw 0; have z1 : w3.cell? ⟨w.heap.size + 1, 1, none⟩ = some (.int .i64 0) := hy.cell 1 rfl; have fz1 := hy.thaw 1; have z2 : w3.cell? ⟨w.heap.size + 1, 2, none⟩ = some (.int .i64 0) := hy.cell 2 rfl; have fz2 := hy.thaw 2; have z3 : w3.cell? ⟨w.heap.size + 1, 3, none⟩ = some (.int .i64 0) := hy.cell 3 rfl; have fz3 := hy.thaw 3; have z4 : w3.cell? ⟨w.heap.size + 1, 4, none⟩ = some (.bool false) := hy.cell 4 rfl; have fz4 := hy.thaw 4; have z5 : w3.cell? ⟨w.heap.size + 1, 5, none⟩ = some (.int .i64 0) := hy.cell 5 rfl; have fz5 := hy.thaw 5; have z6 : w3.cell? ⟨w.heap.size + 1, 6, none⟩ = some (.int .i64 0) := hy.cell 6 rfl; have fz6 := hy.thaw 6; have z7 : w3.cell? ⟨w.heap.size + 1, 7, none⟩ = some (.int .u64 0) := hy.cell 7 rfl; have fz7 := hy.thaw 7; have z8 : w3.cell? ⟨w.heap.size + 1, 8, none⟩ = some (.string ⟨#[]⟩) := hy.cell 8 rfl; have fz8 := hy.thaw 8; have z9 : w3.cell? ⟨w.heap.size + 1, 9, none⟩ = some (.slice none 0 0) := hy.cell 9 rfl; have fz9 := hy.thaw 9; dsimp only))
  have hzo := hz.out
  exact bodyPost_ret (results_cell_row rfl _ _ (w.heap.size + 1) 42 _ (0, 0) _ rfl (hy.set10 _ _ _ _ _ _ _ _ _ _) Tryz.underlying42 rfl (by kernel_rfl)) rfl
    ⟨_, rfl, ⟨_, _, _, _, _, _, _, rfl, litQ _ _ 6 1 (by decide) (by decide)⟩, set10_below (hb1.trans (hbx.mono hb1.size)) (by omega)⟩

set_option maxRecDepth 100000 in
set_option maxHeartbeats 3200000 in
theorem rt_compare_false {w0 : World} {k : Int} {m b : Int} {t : ByteArray} {a : Option Addr} {l cap : Nat} {k' m' b' : Int} {t' : ByteArray} {a' : Option Addr} {l' cap' : Nat} {n : Int} (HO : ∀ W, Below w0.heap.size w0 W → Calls Tryz.prog 27 #[(.agg #[.int .i64 k, .int .i64 m, .int .u64 b, .string t, .slice a l cap]), (.agg #[.int .i64 k', .int .i64 m', .int .u64 b', .string t', .slice a' l' cap'])] W fun x w' => x = .returned (eqR (some false)) ∧ Below W.heap.size W w') (w : World) (hb0 : Below w0.heap.size w0 w) :
    Calls Tryz.prog 15 #[(.agg #[.int .i64 6, .int .i64 k, .int .i64 m, .int .u64 b, .string t, .slice a l cap, .int .i64 k', .int .i64 m', .int .u64 b', .string t', .slice a' l' cap', .int .i64 n])] w fun x w' => ∃ v', x = .returned v' ∧ ResV w' (fun b => w.heap.size ≤ b) v' (.gave (boolD false)) ∧ Below w.heap.size w w' := by
  have HH := Lib.hid HO
  have HB := Lib.hid hb0
  clear HO hb0
  obtain ⟨W1, hW1, hb1, hz, hx1, hx2⟩ := act_worlds w (.int .i64 6) (.int .i64 k) (.int .i64 m) (.int .u64 b) (.string t) (.slice a l cap) (.int .i64 k') (.int .i64 m') (.int .u64 b') (.string t') (.slice a' l' cap') (.int .i64 n)
  have p0 : W1.cell? ⟨w.heap.size, 0, none⟩ = some (.int .i64 6) := hx1.cell 0 rfl
  have p1 : W1.cell? ⟨w.heap.size, 1, none⟩ = some (.int .i64 k) := hx1.cell 1 rfl
  have p2 : W1.cell? ⟨w.heap.size, 2, none⟩ = some (.int .i64 m) := hx1.cell 2 rfl
  have p3 : W1.cell? ⟨w.heap.size, 3, none⟩ = some (.int .u64 b) := hx1.cell 3 rfl
  have p4 : W1.cell? ⟨w.heap.size, 4, none⟩ = some (.string t) := hx1.cell 4 rfl
  have p5 : W1.cell? ⟨w.heap.size, 5, none⟩ = some (.slice a l cap) := hx1.cell 5 rfl
  have p6 : W1.cell? ⟨w.heap.size, 6, none⟩ = some (.int .i64 k') := hx1.cell 6 rfl
  have p7 : W1.cell? ⟨w.heap.size, 7, none⟩ = some (.int .i64 m') := hx1.cell 7 rfl
  have p8 : W1.cell? ⟨w.heap.size, 8, none⟩ = some (.int .u64 b') := hx1.cell 8 rfl
  have p9 : W1.cell? ⟨w.heap.size, 9, none⟩ = some (.string t') := hx1.cell 9 rfl
  have p10 : W1.cell? ⟨w.heap.size, 10, none⟩ = some (.slice a' l' cap') := hx1.cell 10 rfl
  have p11 : W1.cell? ⟨w.heap.size, 11, none⟩ = some (.int .i64 n) := hx1.cell 11 rfl
  have q0 : W1.cell? ⟨w.heap.size + 1, 0, none⟩ = some (.int .i64 0) := hx2.cell 0 rfl
  have fq0 := hx2.thaw 0
  have q1 : W1.cell? ⟨w.heap.size + 1, 1, none⟩ = some (.int .i64 0) := hx2.cell 1 rfl
  have fq1 := hx2.thaw 1
  have q2 : W1.cell? ⟨w.heap.size + 1, 2, none⟩ = some (.int .i64 0) := hx2.cell 2 rfl
  have fq2 := hx2.thaw 2
  have q3 : W1.cell? ⟨w.heap.size + 1, 3, none⟩ = some (.int .i64 0) := hx2.cell 3 rfl
  have fq3 := hx2.thaw 3
  have q4 : W1.cell? ⟨w.heap.size + 1, 4, none⟩ = some (.bool false) := hx2.cell 4 rfl
  have fq4 := hx2.thaw 4
  have q5 : W1.cell? ⟨w.heap.size + 1, 5, none⟩ = some (.int .i64 0) := hx2.cell 5 rfl
  have fq5 := hx2.thaw 5
  have q6 : W1.cell? ⟨w.heap.size + 1, 6, none⟩ = some (.int .i64 0) := hx2.cell 6 rfl
  have fq6 := hx2.thaw 6
  have q7 : W1.cell? ⟨w.heap.size + 1, 7, none⟩ = some (.int .u64 0) := hx2.cell 7 rfl
  have fq7 := hx2.thaw 7
  have q8 : W1.cell? ⟨w.heap.size + 1, 8, none⟩ = some (.string ⟨#[]⟩) := hx2.cell 8 rfl
  have fq8 := hx2.thaw 8
  have q9 : W1.cell? ⟨w.heap.size + 1, 9, none⟩ = some (.slice none 0 0) := hx2.cell 9 rfl
  have fq9 := hx2.thaw 9
  go_enter Tryz.func15, Tryz.ntmps15
  go_upto_region 1 with fail
  rw [← hW1]
  clear hW1
  go_wp2_with (first | (go_at_call 27; refine (HH.out _ (HB.out.trans (hb1.mono HB.out.size))).mono ?_; rintro e w2 ⟨rfl, hb2⟩; unfold eqR; dsimp only) | (go_at_call 21; refine (rgave_v _ _ _ _ _ _ _ _).mono ?_; rintro e w3 ⟨rfl, hbg⟩; have hbx := hb2.trans (hbg.mono hb2.size); have hy := hx2.later hbx; have z0 : w3.cell? ⟨w.heap.size + 1, 0, none⟩ = some (.int .i64 0) := hy.cell 0 rfl; have fz0 := hy.thaw 0; have z1 : w3.cell? ⟨w.heap.size + 1, 1, none⟩ = some (.int .i64 0) := hy.cell 1 rfl; have fz1 := hy.thaw 1; have z2 : w3.cell? ⟨w.heap.size + 1, 2, none⟩ = some (.int .i64 0) := hy.cell 2 rfl; have fz2 := hy.thaw 2; have z3 : w3.cell? ⟨w.heap.size + 1, 3, none⟩ = some (.int .i64 0) := hy.cell 3 rfl; have fz3 := hy.thaw 3; have z4 : w3.cell? ⟨w.heap.size + 1, 4, none⟩ = some (.bool false) := hy.cell 4 rfl; have fz4 := hy.thaw 4; have z5 : w3.cell? ⟨w.heap.size + 1, 5, none⟩ = some (.int .i64 0) := hy.cell 5 rfl; have fz5 := hy.thaw 5; have z6 : w3.cell? ⟨w.heap.size + 1, 6, none⟩ = some (.int .i64 0) := hy.cell 6 rfl; have fz6 := hy.thaw 6; have z7 : w3.cell? ⟨w.heap.size + 1, 7, none⟩ = some (.int .u64 0) := hy.cell 7 rfl; have fz7 := hy.thaw 7; have z8 : w3.cell? ⟨w.heap.size + 1, 8, none⟩ = some (.string ⟨#[]⟩) := hy.cell 8 rfl; have fz8 := hy.thaw 8; have z9 : w3.cell? ⟨w.heap.size + 1, 9, none⟩ = some (.slice none 0 0) := hy.cell 9 rfl; have fz9 := hy.thaw 9; dsimp only))
  have hzo := hz.out
  exact bodyPost_ret (results_cell_row rfl _ _ (w.heap.size + 1) 42 _ (0, 0) _ rfl (hy.set10 _ _ _ _ _ _ _ _ _ _) Tryz.underlying42 rfl (by kernel_rfl)) rfl
    ⟨_, rfl, ⟨_, _, _, _, _, _, _, rfl, litQ _ _ 6 0 (by decide) (by decide)⟩, set10_below (hb1.trans (hbx.mono hb1.size)) (by omega)⟩

set_option maxRecDepth 100000 in
set_option maxHeartbeats 3200000 in
theorem rt_div_a {k : Int} {m b : Int} {t : ByteArray} {a : Option Addr} {l cap : Nat} {k' m' b' : Int} {t' : ByteArray} {a' : Option Addr} {l' cap' : Nat} {n : Int} (h : k ≠ 1) (w : World) :
    Calls Tryz.prog 15 #[(.agg #[.int .i64 7, .int .i64 k, .int .i64 m, .int .u64 b, .string t, .slice a l cap, .int .i64 k', .int .i64 m', .int .u64 b', .string t', .slice a' l' cap', .int .i64 n])] w fun x w' => ∃ v', x = .returned v' ∧ ResV w' (fun b => w.heap.size ≤ b) v' (.pan 2 k) ∧ Below w.heap.size w w' := by
  obtain ⟨W1, hW1, hb1, hz, hx1, hx2⟩ := act_worlds w (.int .i64 7) (.int .i64 k) (.int .i64 m) (.int .u64 b) (.string t) (.slice a l cap) (.int .i64 k') (.int .i64 m') (.int .u64 b') (.string t') (.slice a' l' cap') (.int .i64 n)
  have p0 : W1.cell? ⟨w.heap.size, 0, none⟩ = some (.int .i64 7) := hx1.cell 0 rfl
  have p1 : W1.cell? ⟨w.heap.size, 1, none⟩ = some (.int .i64 k) := hx1.cell 1 rfl
  have p2 : W1.cell? ⟨w.heap.size, 2, none⟩ = some (.int .i64 m) := hx1.cell 2 rfl
  have p3 : W1.cell? ⟨w.heap.size, 3, none⟩ = some (.int .u64 b) := hx1.cell 3 rfl
  have p4 : W1.cell? ⟨w.heap.size, 4, none⟩ = some (.string t) := hx1.cell 4 rfl
  have p5 : W1.cell? ⟨w.heap.size, 5, none⟩ = some (.slice a l cap) := hx1.cell 5 rfl
  have p6 : W1.cell? ⟨w.heap.size, 6, none⟩ = some (.int .i64 k') := hx1.cell 6 rfl
  have p7 : W1.cell? ⟨w.heap.size, 7, none⟩ = some (.int .i64 m') := hx1.cell 7 rfl
  have p8 : W1.cell? ⟨w.heap.size, 8, none⟩ = some (.int .u64 b') := hx1.cell 8 rfl
  have p9 : W1.cell? ⟨w.heap.size, 9, none⟩ = some (.string t') := hx1.cell 9 rfl
  have p10 : W1.cell? ⟨w.heap.size, 10, none⟩ = some (.slice a' l' cap') := hx1.cell 10 rfl
  have p11 : W1.cell? ⟨w.heap.size, 11, none⟩ = some (.int .i64 n) := hx1.cell 11 rfl
  have q0 : W1.cell? ⟨w.heap.size + 1, 0, none⟩ = some (.int .i64 0) := hx2.cell 0 rfl
  have fq0 := hx2.thaw 0
  have q1 : W1.cell? ⟨w.heap.size + 1, 1, none⟩ = some (.int .i64 0) := hx2.cell 1 rfl
  have fq1 := hx2.thaw 1
  have q2 : W1.cell? ⟨w.heap.size + 1, 2, none⟩ = some (.int .i64 0) := hx2.cell 2 rfl
  have fq2 := hx2.thaw 2
  have q3 : W1.cell? ⟨w.heap.size + 1, 3, none⟩ = some (.int .i64 0) := hx2.cell 3 rfl
  have fq3 := hx2.thaw 3
  have q4 : W1.cell? ⟨w.heap.size + 1, 4, none⟩ = some (.bool false) := hx2.cell 4 rfl
  have fq4 := hx2.thaw 4
  have q5 : W1.cell? ⟨w.heap.size + 1, 5, none⟩ = some (.int .i64 0) := hx2.cell 5 rfl
  have fq5 := hx2.thaw 5
  have q6 : W1.cell? ⟨w.heap.size + 1, 6, none⟩ = some (.int .i64 0) := hx2.cell 6 rfl
  have fq6 := hx2.thaw 6
  have q7 : W1.cell? ⟨w.heap.size + 1, 7, none⟩ = some (.int .u64 0) := hx2.cell 7 rfl
  have fq7 := hx2.thaw 7
  have q8 : W1.cell? ⟨w.heap.size + 1, 8, none⟩ = some (.string ⟨#[]⟩) := hx2.cell 8 rfl
  have fq8 := hx2.thaw 8
  have q9 : W1.cell? ⟨w.heap.size + 1, 9, none⟩ = some (.slice none 0 0) := hx2.cell 9 rfl
  have fq9 := hx2.thaw 9
  go_enter Tryz.func15, Tryz.ntmps15
  go_upto_region 1 with fail
  rw [← hW1]
  clear hW1
  go_wp2_with ((go_at_call 25; refine (rpan_v _ _ _).mono ?_; rintro e w2 ⟨rfl, hbx⟩; have hy := hx2.later hbx; have z0 : w2.cell? ⟨w.heap.size + 1, 0, none⟩ = some (.int .i64 0) := hy.cell 0 rfl; have fz0 := hy.thaw 0; have z1 : w2.cell? ⟨w.heap.size + 1, 1, none⟩ = some (.int .i64 0) := hy.cell 1 rfl; have fz1 := hy.thaw 1; have z2 : w2.cell? ⟨w.heap.size + 1, 2, none⟩ = some (.int .i64 0) := hy.cell 2 rfl; have fz2 := hy.thaw 2; have z3 : w2.cell? ⟨w.heap.size + 1, 3, none⟩ = some (.int .i64 0) := hy.cell 3 rfl; have fz3 := hy.thaw 3; have z4 : w2.cell? ⟨w.heap.size + 1, 4, none⟩ = some (.bool false) := hy.cell 4 rfl; have fz4 := hy.thaw 4; have z5 : w2.cell? ⟨w.heap.size + 1, 5, none⟩ = some (.int .i64 0) := hy.cell 5 rfl; have fz5 := hy.thaw 5; have z6 : w2.cell? ⟨w.heap.size + 1, 6, none⟩ = some (.int .i64 0) := hy.cell 6 rfl; have fz6 := hy.thaw 6; have z7 : w2.cell? ⟨w.heap.size + 1, 7, none⟩ = some (.int .u64 0) := hy.cell 7 rfl; have fz7 := hy.thaw 7; have z8 : w2.cell? ⟨w.heap.size + 1, 8, none⟩ = some (.string ⟨#[]⟩) := hy.cell 8 rfl; have fz8 := hy.thaw 8; have z9 : w2.cell? ⟨w.heap.size + 1, 9, none⟩ = some (.slice none 0 0) := hy.cell 9 rfl; have fz9 := hy.thaw 9; dsimp only))
  have hzo := hz.out
  exact bodyPost_ret (results_cell_row rfl _ _ (w.heap.size + 1) 42 _ (0, 0) _ rfl (hy.set10 _ _ _ _ _ _ _ _ _ _) Tryz.underlying42 rfl (by kernel_rfl)) rfl
    ⟨_, rfl, rfl, set10_below (hb1.trans (hbx.mono hb1.size)) (by omega)⟩

set_option maxRecDepth 100000 in
set_option maxHeartbeats 3200000 in
theorem rt_div_b {m b : Int} {t : ByteArray} {a : Option Addr} {l cap : Nat} {k' m' b' : Int} {t' : ByteArray} {a' : Option Addr} {l' cap' : Nat} {n : Int} (h : k' ≠ 1) (w : World) :
    Calls Tryz.prog 15 #[(.agg #[.int .i64 7, .int .i64 1, .int .i64 m, .int .u64 b, .string t, .slice a l cap, .int .i64 k', .int .i64 m', .int .u64 b', .string t', .slice a' l' cap', .int .i64 n])] w fun x w' => ∃ v', x = .returned v' ∧ ResV w' (fun b => w.heap.size ≤ b) v' (.pan 2 k') ∧ Below w.heap.size w w' := by
  obtain ⟨W1, hW1, hb1, hz, hx1, hx2⟩ := act_worlds w (.int .i64 7) (.int .i64 1) (.int .i64 m) (.int .u64 b) (.string t) (.slice a l cap) (.int .i64 k') (.int .i64 m') (.int .u64 b') (.string t') (.slice a' l' cap') (.int .i64 n)
  have p0 : W1.cell? ⟨w.heap.size, 0, none⟩ = some (.int .i64 7) := hx1.cell 0 rfl
  have p1 : W1.cell? ⟨w.heap.size, 1, none⟩ = some (.int .i64 1) := hx1.cell 1 rfl
  have p2 : W1.cell? ⟨w.heap.size, 2, none⟩ = some (.int .i64 m) := hx1.cell 2 rfl
  have p3 : W1.cell? ⟨w.heap.size, 3, none⟩ = some (.int .u64 b) := hx1.cell 3 rfl
  have p4 : W1.cell? ⟨w.heap.size, 4, none⟩ = some (.string t) := hx1.cell 4 rfl
  have p5 : W1.cell? ⟨w.heap.size, 5, none⟩ = some (.slice a l cap) := hx1.cell 5 rfl
  have p6 : W1.cell? ⟨w.heap.size, 6, none⟩ = some (.int .i64 k') := hx1.cell 6 rfl
  have p7 : W1.cell? ⟨w.heap.size, 7, none⟩ = some (.int .i64 m') := hx1.cell 7 rfl
  have p8 : W1.cell? ⟨w.heap.size, 8, none⟩ = some (.int .u64 b') := hx1.cell 8 rfl
  have p9 : W1.cell? ⟨w.heap.size, 9, none⟩ = some (.string t') := hx1.cell 9 rfl
  have p10 : W1.cell? ⟨w.heap.size, 10, none⟩ = some (.slice a' l' cap') := hx1.cell 10 rfl
  have p11 : W1.cell? ⟨w.heap.size, 11, none⟩ = some (.int .i64 n) := hx1.cell 11 rfl
  have q0 : W1.cell? ⟨w.heap.size + 1, 0, none⟩ = some (.int .i64 0) := hx2.cell 0 rfl
  have fq0 := hx2.thaw 0
  have q1 : W1.cell? ⟨w.heap.size + 1, 1, none⟩ = some (.int .i64 0) := hx2.cell 1 rfl
  have fq1 := hx2.thaw 1
  have q2 : W1.cell? ⟨w.heap.size + 1, 2, none⟩ = some (.int .i64 0) := hx2.cell 2 rfl
  have fq2 := hx2.thaw 2
  have q3 : W1.cell? ⟨w.heap.size + 1, 3, none⟩ = some (.int .i64 0) := hx2.cell 3 rfl
  have fq3 := hx2.thaw 3
  have q4 : W1.cell? ⟨w.heap.size + 1, 4, none⟩ = some (.bool false) := hx2.cell 4 rfl
  have fq4 := hx2.thaw 4
  have q5 : W1.cell? ⟨w.heap.size + 1, 5, none⟩ = some (.int .i64 0) := hx2.cell 5 rfl
  have fq5 := hx2.thaw 5
  have q6 : W1.cell? ⟨w.heap.size + 1, 6, none⟩ = some (.int .i64 0) := hx2.cell 6 rfl
  have fq6 := hx2.thaw 6
  have q7 : W1.cell? ⟨w.heap.size + 1, 7, none⟩ = some (.int .u64 0) := hx2.cell 7 rfl
  have fq7 := hx2.thaw 7
  have q8 : W1.cell? ⟨w.heap.size + 1, 8, none⟩ = some (.string ⟨#[]⟩) := hx2.cell 8 rfl
  have fq8 := hx2.thaw 8
  have q9 : W1.cell? ⟨w.heap.size + 1, 9, none⟩ = some (.slice none 0 0) := hx2.cell 9 rfl
  have fq9 := hx2.thaw 9
  go_enter Tryz.func15, Tryz.ntmps15
  go_upto_region 1 with fail
  rw [← hW1]
  clear hW1
  go_wp2_with ((go_at_call 25; refine (rpan_v _ _ _).mono ?_; rintro e w2 ⟨rfl, hbx⟩; have hy := hx2.later hbx; have z0 : w2.cell? ⟨w.heap.size + 1, 0, none⟩ = some (.int .i64 0) := hy.cell 0 rfl; have fz0 := hy.thaw 0; have z1 : w2.cell? ⟨w.heap.size + 1, 1, none⟩ = some (.int .i64 0) := hy.cell 1 rfl; have fz1 := hy.thaw 1; have z2 : w2.cell? ⟨w.heap.size + 1, 2, none⟩ = some (.int .i64 0) := hy.cell 2 rfl; have fz2 := hy.thaw 2; have z3 : w2.cell? ⟨w.heap.size + 1, 3, none⟩ = some (.int .i64 0) := hy.cell 3 rfl; have fz3 := hy.thaw 3; have z4 : w2.cell? ⟨w.heap.size + 1, 4, none⟩ = some (.bool false) := hy.cell 4 rfl; have fz4 := hy.thaw 4; have z5 : w2.cell? ⟨w.heap.size + 1, 5, none⟩ = some (.int .i64 0) := hy.cell 5 rfl; have fz5 := hy.thaw 5; have z6 : w2.cell? ⟨w.heap.size + 1, 6, none⟩ = some (.int .i64 0) := hy.cell 6 rfl; have fz6 := hy.thaw 6; have z7 : w2.cell? ⟨w.heap.size + 1, 7, none⟩ = some (.int .u64 0) := hy.cell 7 rfl; have fz7 := hy.thaw 7; have z8 : w2.cell? ⟨w.heap.size + 1, 8, none⟩ = some (.string ⟨#[]⟩) := hy.cell 8 rfl; have fz8 := hy.thaw 8; have z9 : w2.cell? ⟨w.heap.size + 1, 9, none⟩ = some (.slice none 0 0) := hy.cell 9 rfl; have fz9 := hy.thaw 9; dsimp only))
  have hzo := hz.out
  exact bodyPost_ret (results_cell_row rfl _ _ (w.heap.size + 1) 42 _ (0, 0) _ rfl (hy.set10 _ _ _ _ _ _ _ _ _ _) Tryz.underlying42 rfl (by kernel_rfl)) rfl
    ⟨_, rfl, rfl, set10_below (hb1.trans (hbx.mono hb1.size)) (by omega)⟩

set_option maxRecDepth 100000 in
set_option maxHeartbeats 3200000 in
theorem rt_div_0 {m b : Int} {t : ByteArray} {a : Option Addr} {l cap : Nat} {b' : Int} {t' : ByteArray} {a' : Option Addr} {l' cap' : Nat} {n : Int} (w : World) :
    Calls Tryz.prog 15 #[(.agg #[.int .i64 7, .int .i64 1, .int .i64 m, .int .u64 b, .string t, .slice a l cap, .int .i64 1, .int .i64 0, .int .u64 b', .string t', .slice a' l' cap', .int .i64 n])] w fun x w' => ∃ v', x = .returned v' ∧ ResV w' (fun b => w.heap.size ≤ b) v' (.pan 6 0) ∧ Below w.heap.size w w' := by
  obtain ⟨W1, hW1, hb1, hz, hx1, hx2⟩ := act_worlds w (.int .i64 7) (.int .i64 1) (.int .i64 m) (.int .u64 b) (.string t) (.slice a l cap) (.int .i64 1) (.int .i64 0) (.int .u64 b') (.string t') (.slice a' l' cap') (.int .i64 n)
  have p0 : W1.cell? ⟨w.heap.size, 0, none⟩ = some (.int .i64 7) := hx1.cell 0 rfl
  have p1 : W1.cell? ⟨w.heap.size, 1, none⟩ = some (.int .i64 1) := hx1.cell 1 rfl
  have p2 : W1.cell? ⟨w.heap.size, 2, none⟩ = some (.int .i64 m) := hx1.cell 2 rfl
  have p3 : W1.cell? ⟨w.heap.size, 3, none⟩ = some (.int .u64 b) := hx1.cell 3 rfl
  have p4 : W1.cell? ⟨w.heap.size, 4, none⟩ = some (.string t) := hx1.cell 4 rfl
  have p5 : W1.cell? ⟨w.heap.size, 5, none⟩ = some (.slice a l cap) := hx1.cell 5 rfl
  have p6 : W1.cell? ⟨w.heap.size, 6, none⟩ = some (.int .i64 1) := hx1.cell 6 rfl
  have p7 : W1.cell? ⟨w.heap.size, 7, none⟩ = some (.int .i64 0) := hx1.cell 7 rfl
  have p8 : W1.cell? ⟨w.heap.size, 8, none⟩ = some (.int .u64 b') := hx1.cell 8 rfl
  have p9 : W1.cell? ⟨w.heap.size, 9, none⟩ = some (.string t') := hx1.cell 9 rfl
  have p10 : W1.cell? ⟨w.heap.size, 10, none⟩ = some (.slice a' l' cap') := hx1.cell 10 rfl
  have p11 : W1.cell? ⟨w.heap.size, 11, none⟩ = some (.int .i64 n) := hx1.cell 11 rfl
  have q0 : W1.cell? ⟨w.heap.size + 1, 0, none⟩ = some (.int .i64 0) := hx2.cell 0 rfl
  have fq0 := hx2.thaw 0
  have q1 : W1.cell? ⟨w.heap.size + 1, 1, none⟩ = some (.int .i64 0) := hx2.cell 1 rfl
  have fq1 := hx2.thaw 1
  have q2 : W1.cell? ⟨w.heap.size + 1, 2, none⟩ = some (.int .i64 0) := hx2.cell 2 rfl
  have fq2 := hx2.thaw 2
  have q3 : W1.cell? ⟨w.heap.size + 1, 3, none⟩ = some (.int .i64 0) := hx2.cell 3 rfl
  have fq3 := hx2.thaw 3
  have q4 : W1.cell? ⟨w.heap.size + 1, 4, none⟩ = some (.bool false) := hx2.cell 4 rfl
  have fq4 := hx2.thaw 4
  have q5 : W1.cell? ⟨w.heap.size + 1, 5, none⟩ = some (.int .i64 0) := hx2.cell 5 rfl
  have fq5 := hx2.thaw 5
  have q6 : W1.cell? ⟨w.heap.size + 1, 6, none⟩ = some (.int .i64 0) := hx2.cell 6 rfl
  have fq6 := hx2.thaw 6
  have q7 : W1.cell? ⟨w.heap.size + 1, 7, none⟩ = some (.int .u64 0) := hx2.cell 7 rfl
  have fq7 := hx2.thaw 7
  have q8 : W1.cell? ⟨w.heap.size + 1, 8, none⟩ = some (.string ⟨#[]⟩) := hx2.cell 8 rfl
  have fq8 := hx2.thaw 8
  have q9 : W1.cell? ⟨w.heap.size + 1, 9, none⟩ = some (.slice none 0 0) := hx2.cell 9 rfl
  have fq9 := hx2.thaw 9
  go_enter Tryz.func15, Tryz.ntmps15
  go_upto_region 1 with fail
  rw [← hW1]
  clear hW1
  go_wp2_with ((go_at_call 25; refine (rpan_v _ _ _).mono ?_; rintro e w2 ⟨rfl, hbx⟩; have hy := hx2.later hbx; have z0 : w2.cell? ⟨w.heap.size + 1, 0, none⟩ = some (.int .i64 0) := hy.cell 0 rfl; have fz0 := hy.thaw 0; have z1 : w2.cell? ⟨w.heap.size + 1, 1, none⟩ = some (.int .i64 0) := hy.cell 1 rfl; have fz1 := hy.thaw 1; have z2 : w2.cell? ⟨w.heap.size + 1, 2, none⟩ = some (.int .i64 0) := hy.cell 2 rfl; have fz2 := hy.thaw 2; have z3 : w2.cell? ⟨w.heap.size + 1, 3, none⟩ = some (.int .i64 0) := hy.cell 3 rfl; have fz3 := hy.thaw 3; have z4 : w2.cell? ⟨w.heap.size + 1, 4, none⟩ = some (.bool false) := hy.cell 4 rfl; have fz4 := hy.thaw 4; have z5 : w2.cell? ⟨w.heap.size + 1, 5, none⟩ = some (.int .i64 0) := hy.cell 5 rfl; have fz5 := hy.thaw 5; have z6 : w2.cell? ⟨w.heap.size + 1, 6, none⟩ = some (.int .i64 0) := hy.cell 6 rfl; have fz6 := hy.thaw 6; have z7 : w2.cell? ⟨w.heap.size + 1, 7, none⟩ = some (.int .u64 0) := hy.cell 7 rfl; have fz7 := hy.thaw 7; have z8 : w2.cell? ⟨w.heap.size + 1, 8, none⟩ = some (.string ⟨#[]⟩) := hy.cell 8 rfl; have fz8 := hy.thaw 8; have z9 : w2.cell? ⟨w.heap.size + 1, 9, none⟩ = some (.slice none 0 0) := hy.cell 9 rfl; have fz9 := hy.thaw 9; dsimp only))
  have hzo := hz.out
  exact bodyPost_ret (results_cell_row rfl _ _ (w.heap.size + 1) 42 _ (0, 0) _ rfl (hy.set10 _ _ _ _ _ _ _ _ _ _) Tryz.underlying42 rfl (by kernel_rfl)) rfl
    ⟨_, rfl, rfl, set10_below (hb1.trans (hbx.mono hb1.size)) (by omega)⟩

set_option maxRecDepth 100000 in
set_option maxHeartbeats 3200000 in
theorem rt_div_v {m b : Int} {t : ByteArray} {a : Option Addr} {l cap : Nat} {m' b' : Int} {t' : ByteArray} {a' : Option Addr} {l' cap' : Nat} {n : Int} (h : m' ≠ 0) (hq : (Lit.int .i64 (quoI m m')).wf = true) (w : World) :
    Calls Tryz.prog 15 #[(.agg #[.int .i64 7, .int .i64 1, .int .i64 m, .int .u64 b, .string t, .slice a l cap, .int .i64 1, .int .i64 m', .int .u64 b', .string t', .slice a' l' cap', .int .i64 n])] w fun x w' => ∃ v', x = .returned v' ∧ ResV w' (fun b => w.heap.size ≤ b) v' (.gave (numD (quoI m m'))) ∧ Below w.heap.size w w' := by
  generalize hqq : quoI m m' = q at *
  obtain ⟨W1, hW1, hb1, hz, hx1, hx2⟩ := act_worlds w (.int .i64 7) (.int .i64 1) (.int .i64 m) (.int .u64 b) (.string t) (.slice a l cap) (.int .i64 1) (.int .i64 m') (.int .u64 b') (.string t') (.slice a' l' cap') (.int .i64 n)
  have p0 : W1.cell? ⟨w.heap.size, 0, none⟩ = some (.int .i64 7) := hx1.cell 0 rfl
  have p1 : W1.cell? ⟨w.heap.size, 1, none⟩ = some (.int .i64 1) := hx1.cell 1 rfl
  have p2 : W1.cell? ⟨w.heap.size, 2, none⟩ = some (.int .i64 m) := hx1.cell 2 rfl
  have p3 : W1.cell? ⟨w.heap.size, 3, none⟩ = some (.int .u64 b) := hx1.cell 3 rfl
  have p4 : W1.cell? ⟨w.heap.size, 4, none⟩ = some (.string t) := hx1.cell 4 rfl
  have p5 : W1.cell? ⟨w.heap.size, 5, none⟩ = some (.slice a l cap) := hx1.cell 5 rfl
  have p6 : W1.cell? ⟨w.heap.size, 6, none⟩ = some (.int .i64 1) := hx1.cell 6 rfl
  have p7 : W1.cell? ⟨w.heap.size, 7, none⟩ = some (.int .i64 m') := hx1.cell 7 rfl
  have p8 : W1.cell? ⟨w.heap.size, 8, none⟩ = some (.int .u64 b') := hx1.cell 8 rfl
  have p9 : W1.cell? ⟨w.heap.size, 9, none⟩ = some (.string t') := hx1.cell 9 rfl
  have p10 : W1.cell? ⟨w.heap.size, 10, none⟩ = some (.slice a' l' cap') := hx1.cell 10 rfl
  have p11 : W1.cell? ⟨w.heap.size, 11, none⟩ = some (.int .i64 n) := hx1.cell 11 rfl
  have q0 : W1.cell? ⟨w.heap.size + 1, 0, none⟩ = some (.int .i64 0) := hx2.cell 0 rfl
  have fq0 := hx2.thaw 0
  have q1 : W1.cell? ⟨w.heap.size + 1, 1, none⟩ = some (.int .i64 0) := hx2.cell 1 rfl
  have fq1 := hx2.thaw 1
  have q2 : W1.cell? ⟨w.heap.size + 1, 2, none⟩ = some (.int .i64 0) := hx2.cell 2 rfl
  have fq2 := hx2.thaw 2
  have q3 : W1.cell? ⟨w.heap.size + 1, 3, none⟩ = some (.int .i64 0) := hx2.cell 3 rfl
  have fq3 := hx2.thaw 3
  have q4 : W1.cell? ⟨w.heap.size + 1, 4, none⟩ = some (.bool false) := hx2.cell 4 rfl
  have fq4 := hx2.thaw 4
  have q5 : W1.cell? ⟨w.heap.size + 1, 5, none⟩ = some (.int .i64 0) := hx2.cell 5 rfl
  have fq5 := hx2.thaw 5
  have q6 : W1.cell? ⟨w.heap.size + 1, 6, none⟩ = some (.int .i64 0) := hx2.cell 6 rfl
  have fq6 := hx2.thaw 6
  have q7 : W1.cell? ⟨w.heap.size + 1, 7, none⟩ = some (.int .u64 0) := hx2.cell 7 rfl
  have fq7 := hx2.thaw 7
  have q8 : W1.cell? ⟨w.heap.size + 1, 8, none⟩ = some (.string ⟨#[]⟩) := hx2.cell 8 rfl
  have fq8 := hx2.thaw 8
  have q9 : W1.cell? ⟨w.heap.size + 1, 9, none⟩ = some (.slice none 0 0) := hx2.cell 9 rfl
  have fq9 := hx2.thaw 9
  go_enter Tryz.func15, Tryz.ntmps15
  go_upto_region 1 with fail
  rw [← hW1]
  clear hW1
  go_wp2_with (first | (go_at_call 29; refine (quot_any _ _ h _).mono ?_; rintro e w1 ⟨rfl, rfl⟩; rw [hqq]; dsimp only) | (go_at_call 28; refine (rnumber_any _ _).mono ?_; rintro e w2 ⟨rfl, hb2⟩; unfold numV; dsimp only) | (go_at_call 21; refine (rgave_v _ _ _ _ _ _ _ _).mono ?_; rintro e w3 ⟨rfl, hbg⟩; have hbx := hb2.trans (hbg.mono hb2.size); have hy := hx2.later hbx; have z0 : w3.cell? ⟨w.heap.size + 1, 0, none⟩ = some (.int .i64 0) := hy.cell 0 rfl; have fz0 := hy.thaw 0; have z1 : w3.cell? ⟨w.heap.size + 1, 1, none⟩ = some (.int .i64 0) := hy.cell 1 rfl; have fz1 := hy.thaw 1; have z2 : w3.cell? ⟨w.heap.size + 1, 2, none⟩ = some (.int .i64 0) := hy.cell 2 rfl; have fz2 := hy.thaw 2; have z3 : w3.cell? ⟨w.heap.size + 1, 3, none⟩ = some (.int .i64 0) := hy.cell 3 rfl; have fz3 := hy.thaw 3; have z4 : w3.cell? ⟨w.heap.size + 1, 4, none⟩ = some (.bool false) := hy.cell 4 rfl; have fz4 := hy.thaw 4; have z5 : w3.cell? ⟨w.heap.size + 1, 5, none⟩ = some (.int .i64 0) := hy.cell 5 rfl; have fz5 := hy.thaw 5; have z6 : w3.cell? ⟨w.heap.size + 1, 6, none⟩ = some (.int .i64 0) := hy.cell 6 rfl; have fz6 := hy.thaw 6; have z7 : w3.cell? ⟨w.heap.size + 1, 7, none⟩ = some (.int .u64 0) := hy.cell 7 rfl; have fz7 := hy.thaw 7; have z8 : w3.cell? ⟨w.heap.size + 1, 8, none⟩ = some (.string ⟨#[]⟩) := hy.cell 8 rfl; have fz8 := hy.thaw 8; have z9 : w3.cell? ⟨w.heap.size + 1, 9, none⟩ = some (.slice none 0 0) := hy.cell 9 rfl; have fz9 := hy.thaw 9; dsimp only))
  have hzo := hz.out
  exact bodyPost_ret (results_cell_row rfl _ _ (w.heap.size + 1) 42 _ (0, 0) _ rfl (hy.set10 _ _ _ _ _ _ _ _ _ _) Tryz.underlying42 rfl (by kernel_rfl)) rfl
    ⟨_, rfl, ⟨_, _, _, _, _, _, _, rfl, litQ _ _ 1 q (by decide) hq⟩, set10_below (hb1.trans (hbx.mono hb1.size)) (by omega)⟩

set_option maxRecDepth 100000 in
set_option maxHeartbeats 3200000 in
theorem rt_own {k : Int} {m b : Int} {t : ByteArray} {a : Option Addr} {l cap : Nat} {k' m' b' : Int} {t' : ByteArray} {a' : Option Addr} {l' cap' : Nat} {n : Int} (w : World) :
    Calls Tryz.prog 15 #[(.agg #[.int .i64 8, .int .i64 k, .int .i64 m, .int .u64 b, .string t, .slice a l cap, .int .i64 k', .int .i64 m', .int .u64 b', .string t', .slice a' l' cap', .int .i64 n])] w fun x w' => ∃ v', x = .returned v' ∧ ResV w' (fun b => w.heap.size ≤ b) v' (.pan 1 n) ∧ Below w.heap.size w w' := by
  obtain ⟨W1, hW1, hb1, hz, hx1, hx2⟩ := act_worlds w (.int .i64 8) (.int .i64 k) (.int .i64 m) (.int .u64 b) (.string t) (.slice a l cap) (.int .i64 k') (.int .i64 m') (.int .u64 b') (.string t') (.slice a' l' cap') (.int .i64 n)
  have p0 : W1.cell? ⟨w.heap.size, 0, none⟩ = some (.int .i64 8) := hx1.cell 0 rfl
  have p1 : W1.cell? ⟨w.heap.size, 1, none⟩ = some (.int .i64 k) := hx1.cell 1 rfl
  have p2 : W1.cell? ⟨w.heap.size, 2, none⟩ = some (.int .i64 m) := hx1.cell 2 rfl
  have p3 : W1.cell? ⟨w.heap.size, 3, none⟩ = some (.int .u64 b) := hx1.cell 3 rfl
  have p4 : W1.cell? ⟨w.heap.size, 4, none⟩ = some (.string t) := hx1.cell 4 rfl
  have p5 : W1.cell? ⟨w.heap.size, 5, none⟩ = some (.slice a l cap) := hx1.cell 5 rfl
  have p6 : W1.cell? ⟨w.heap.size, 6, none⟩ = some (.int .i64 k') := hx1.cell 6 rfl
  have p7 : W1.cell? ⟨w.heap.size, 7, none⟩ = some (.int .i64 m') := hx1.cell 7 rfl
  have p8 : W1.cell? ⟨w.heap.size, 8, none⟩ = some (.int .u64 b') := hx1.cell 8 rfl
  have p9 : W1.cell? ⟨w.heap.size, 9, none⟩ = some (.string t') := hx1.cell 9 rfl
  have p10 : W1.cell? ⟨w.heap.size, 10, none⟩ = some (.slice a' l' cap') := hx1.cell 10 rfl
  have p11 : W1.cell? ⟨w.heap.size, 11, none⟩ = some (.int .i64 n) := hx1.cell 11 rfl
  have q0 : W1.cell? ⟨w.heap.size + 1, 0, none⟩ = some (.int .i64 0) := hx2.cell 0 rfl
  have fq0 := hx2.thaw 0
  have q1 : W1.cell? ⟨w.heap.size + 1, 1, none⟩ = some (.int .i64 0) := hx2.cell 1 rfl
  have fq1 := hx2.thaw 1
  have q2 : W1.cell? ⟨w.heap.size + 1, 2, none⟩ = some (.int .i64 0) := hx2.cell 2 rfl
  have fq2 := hx2.thaw 2
  have q3 : W1.cell? ⟨w.heap.size + 1, 3, none⟩ = some (.int .i64 0) := hx2.cell 3 rfl
  have fq3 := hx2.thaw 3
  have q4 : W1.cell? ⟨w.heap.size + 1, 4, none⟩ = some (.bool false) := hx2.cell 4 rfl
  have fq4 := hx2.thaw 4
  have q5 : W1.cell? ⟨w.heap.size + 1, 5, none⟩ = some (.int .i64 0) := hx2.cell 5 rfl
  have fq5 := hx2.thaw 5
  have q6 : W1.cell? ⟨w.heap.size + 1, 6, none⟩ = some (.int .i64 0) := hx2.cell 6 rfl
  have fq6 := hx2.thaw 6
  have q7 : W1.cell? ⟨w.heap.size + 1, 7, none⟩ = some (.int .u64 0) := hx2.cell 7 rfl
  have fq7 := hx2.thaw 7
  have q8 : W1.cell? ⟨w.heap.size + 1, 8, none⟩ = some (.string ⟨#[]⟩) := hx2.cell 8 rfl
  have fq8 := hx2.thaw 8
  have q9 : W1.cell? ⟨w.heap.size + 1, 9, none⟩ = some (.slice none 0 0) := hx2.cell 9 rfl
  have fq9 := hx2.thaw 9
  go_enter Tryz.func15, Tryz.ntmps15
  go_upto_region 1 with fail
  rw [← hW1]
  clear hW1
  go_wp2_with ((go_at_call 25; refine (rpan_v _ _ _).mono ?_; rintro e w2 ⟨rfl, hbx⟩; have hy := hx2.later hbx; have z0 : w2.cell? ⟨w.heap.size + 1, 0, none⟩ = some (.int .i64 0) := hy.cell 0 rfl; have fz0 := hy.thaw 0; have z1 : w2.cell? ⟨w.heap.size + 1, 1, none⟩ = some (.int .i64 0) := hy.cell 1 rfl; have fz1 := hy.thaw 1; have z2 : w2.cell? ⟨w.heap.size + 1, 2, none⟩ = some (.int .i64 0) := hy.cell 2 rfl; have fz2 := hy.thaw 2; have z3 : w2.cell? ⟨w.heap.size + 1, 3, none⟩ = some (.int .i64 0) := hy.cell 3 rfl; have fz3 := hy.thaw 3; have z4 : w2.cell? ⟨w.heap.size + 1, 4, none⟩ = some (.bool false) := hy.cell 4 rfl; have fz4 := hy.thaw 4; have z5 : w2.cell? ⟨w.heap.size + 1, 5, none⟩ = some (.int .i64 0) := hy.cell 5 rfl; have fz5 := hy.thaw 5; have z6 : w2.cell? ⟨w.heap.size + 1, 6, none⟩ = some (.int .i64 0) := hy.cell 6 rfl; have fz6 := hy.thaw 6; have z7 : w2.cell? ⟨w.heap.size + 1, 7, none⟩ = some (.int .u64 0) := hy.cell 7 rfl; have fz7 := hy.thaw 7; have z8 : w2.cell? ⟨w.heap.size + 1, 8, none⟩ = some (.string ⟨#[]⟩) := hy.cell 8 rfl; have fz8 := hy.thaw 8; have z9 : w2.cell? ⟨w.heap.size + 1, 9, none⟩ = some (.slice none 0 0) := hy.cell 9 rfl; have fz9 := hy.thaw 9; dsimp only))
  have hzo := hz.out
  exact bodyPost_ret (results_cell_row rfl _ _ (w.heap.size + 1) 42 _ (0, 0) _ rfl (hy.set10 _ _ _ _ _ _ _ _ _ _) Tryz.underlying42 rfl (by kernel_rfl)) rfl
    ⟨_, rfl, rfl, set10_below (hb1.trans (hbx.mono hb1.size)) (by omega)⟩

set_option maxRecDepth 100000 in
set_option maxHeartbeats 3200000 in
theorem rt_error {k : Int} {m b : Int} {t : ByteArray} {a : Option Addr} {l cap : Nat} {k' m' b' : Int} {t' : ByteArray} {a' : Option Addr} {l' cap' : Nat} {n : Int} (w : World) :
    Calls Tryz.prog 15 #[(.agg #[.int .i64 9, .int .i64 k, .int .i64 m, .int .u64 b, .string t, .slice a l cap, .int .i64 k', .int .i64 m', .int .u64 b', .string t', .slice a' l' cap', .int .i64 n])] w fun x w' => ∃ v', x = .returned v' ∧ ResV w' (fun b => w.heap.size ≤ b) v' (.pan 7 n) ∧ Below w.heap.size w w' := by
  obtain ⟨W1, hW1, hb1, hz, hx1, hx2⟩ := act_worlds w (.int .i64 9) (.int .i64 k) (.int .i64 m) (.int .u64 b) (.string t) (.slice a l cap) (.int .i64 k') (.int .i64 m') (.int .u64 b') (.string t') (.slice a' l' cap') (.int .i64 n)
  have p0 : W1.cell? ⟨w.heap.size, 0, none⟩ = some (.int .i64 9) := hx1.cell 0 rfl
  have p1 : W1.cell? ⟨w.heap.size, 1, none⟩ = some (.int .i64 k) := hx1.cell 1 rfl
  have p2 : W1.cell? ⟨w.heap.size, 2, none⟩ = some (.int .i64 m) := hx1.cell 2 rfl
  have p3 : W1.cell? ⟨w.heap.size, 3, none⟩ = some (.int .u64 b) := hx1.cell 3 rfl
  have p4 : W1.cell? ⟨w.heap.size, 4, none⟩ = some (.string t) := hx1.cell 4 rfl
  have p5 : W1.cell? ⟨w.heap.size, 5, none⟩ = some (.slice a l cap) := hx1.cell 5 rfl
  have p6 : W1.cell? ⟨w.heap.size, 6, none⟩ = some (.int .i64 k') := hx1.cell 6 rfl
  have p7 : W1.cell? ⟨w.heap.size, 7, none⟩ = some (.int .i64 m') := hx1.cell 7 rfl
  have p8 : W1.cell? ⟨w.heap.size, 8, none⟩ = some (.int .u64 b') := hx1.cell 8 rfl
  have p9 : W1.cell? ⟨w.heap.size, 9, none⟩ = some (.string t') := hx1.cell 9 rfl
  have p10 : W1.cell? ⟨w.heap.size, 10, none⟩ = some (.slice a' l' cap') := hx1.cell 10 rfl
  have p11 : W1.cell? ⟨w.heap.size, 11, none⟩ = some (.int .i64 n) := hx1.cell 11 rfl
  have q0 : W1.cell? ⟨w.heap.size + 1, 0, none⟩ = some (.int .i64 0) := hx2.cell 0 rfl
  have fq0 := hx2.thaw 0
  have q1 : W1.cell? ⟨w.heap.size + 1, 1, none⟩ = some (.int .i64 0) := hx2.cell 1 rfl
  have fq1 := hx2.thaw 1
  have q2 : W1.cell? ⟨w.heap.size + 1, 2, none⟩ = some (.int .i64 0) := hx2.cell 2 rfl
  have fq2 := hx2.thaw 2
  have q3 : W1.cell? ⟨w.heap.size + 1, 3, none⟩ = some (.int .i64 0) := hx2.cell 3 rfl
  have fq3 := hx2.thaw 3
  have q4 : W1.cell? ⟨w.heap.size + 1, 4, none⟩ = some (.bool false) := hx2.cell 4 rfl
  have fq4 := hx2.thaw 4
  have q5 : W1.cell? ⟨w.heap.size + 1, 5, none⟩ = some (.int .i64 0) := hx2.cell 5 rfl
  have fq5 := hx2.thaw 5
  have q6 : W1.cell? ⟨w.heap.size + 1, 6, none⟩ = some (.int .i64 0) := hx2.cell 6 rfl
  have fq6 := hx2.thaw 6
  have q7 : W1.cell? ⟨w.heap.size + 1, 7, none⟩ = some (.int .u64 0) := hx2.cell 7 rfl
  have fq7 := hx2.thaw 7
  have q8 : W1.cell? ⟨w.heap.size + 1, 8, none⟩ = some (.string ⟨#[]⟩) := hx2.cell 8 rfl
  have fq8 := hx2.thaw 8
  have q9 : W1.cell? ⟨w.heap.size + 1, 9, none⟩ = some (.slice none 0 0) := hx2.cell 9 rfl
  have fq9 := hx2.thaw 9
  go_enter Tryz.func15, Tryz.ntmps15
  go_upto_region 1 with fail
  rw [← hW1]
  clear hW1
  go_wp2_with ((go_at_call 25; refine (rpan_v _ _ _).mono ?_; rintro e w2 ⟨rfl, hbx⟩; have hy := hx2.later hbx; have z0 : w2.cell? ⟨w.heap.size + 1, 0, none⟩ = some (.int .i64 0) := hy.cell 0 rfl; have fz0 := hy.thaw 0; have z1 : w2.cell? ⟨w.heap.size + 1, 1, none⟩ = some (.int .i64 0) := hy.cell 1 rfl; have fz1 := hy.thaw 1; have z2 : w2.cell? ⟨w.heap.size + 1, 2, none⟩ = some (.int .i64 0) := hy.cell 2 rfl; have fz2 := hy.thaw 2; have z3 : w2.cell? ⟨w.heap.size + 1, 3, none⟩ = some (.int .i64 0) := hy.cell 3 rfl; have fz3 := hy.thaw 3; have z4 : w2.cell? ⟨w.heap.size + 1, 4, none⟩ = some (.bool false) := hy.cell 4 rfl; have fz4 := hy.thaw 4; have z5 : w2.cell? ⟨w.heap.size + 1, 5, none⟩ = some (.int .i64 0) := hy.cell 5 rfl; have fz5 := hy.thaw 5; have z6 : w2.cell? ⟨w.heap.size + 1, 6, none⟩ = some (.int .i64 0) := hy.cell 6 rfl; have fz6 := hy.thaw 6; have z7 : w2.cell? ⟨w.heap.size + 1, 7, none⟩ = some (.int .u64 0) := hy.cell 7 rfl; have fz7 := hy.thaw 7; have z8 : w2.cell? ⟨w.heap.size + 1, 8, none⟩ = some (.string ⟨#[]⟩) := hy.cell 8 rfl; have fz8 := hy.thaw 8; have z9 : w2.cell? ⟨w.heap.size + 1, 9, none⟩ = some (.slice none 0 0) := hy.cell 9 rfl; have fz9 := hy.thaw 9; dsimp only))
  have hzo := hz.out
  exact bodyPost_ret (results_cell_row rfl _ _ (w.heap.size + 1) 42 _ (0, 0) _ rfl (hy.set10 _ _ _ _ _ _ _ _ _ _) Tryz.underlying42 rfl (by kernel_rfl)) rfl
    ⟨_, rfl, rfl, set10_below (hb1.trans (hbx.mono hb1.size)) (by omega)⟩

set_option maxRecDepth 100000 in
set_option maxHeartbeats 3200000 in
theorem rt_size {k : Int} {m b : Int} {t : ByteArray} {a : Option Addr} {l cap : Nat} {k' m' b' : Int} {t' : ByteArray} {a' : Option Addr} {l' cap' : Nat} {n : Int} {z : Int} (hq : (Lit.int .i64 z).wf = true) (HO : ∀ W, Calls Tryz.prog 30 #[(.agg #[.int .i64 k, .int .i64 m, .int .u64 b, .string t, .slice a l cap])] W fun x w' => x = .returned (.tuple #[.int .i64 z, .int .i64 0]) ∧ Below W.heap.size W w') (w : World) :
    Calls Tryz.prog 15 #[(.agg #[.int .i64 10, .int .i64 k, .int .i64 m, .int .u64 b, .string t, .slice a l cap, .int .i64 k', .int .i64 m', .int .u64 b', .string t', .slice a' l' cap', .int .i64 n])] w fun x w' => ∃ v', x = .returned v' ∧ ResV w' (fun b => w.heap.size ≤ b) v' (.gave (numD z)) ∧ Below w.heap.size w w' := by
  have HH := Lib.hid HO
  clear HO
  obtain ⟨W1, hW1, hb1, hz, hx1, hx2⟩ := act_worlds w (.int .i64 10) (.int .i64 k) (.int .i64 m) (.int .u64 b) (.string t) (.slice a l cap) (.int .i64 k') (.int .i64 m') (.int .u64 b') (.string t') (.slice a' l' cap') (.int .i64 n)
  have p0 : W1.cell? ⟨w.heap.size, 0, none⟩ = some (.int .i64 10) := hx1.cell 0 rfl
  have p1 : W1.cell? ⟨w.heap.size, 1, none⟩ = some (.int .i64 k) := hx1.cell 1 rfl
  have p2 : W1.cell? ⟨w.heap.size, 2, none⟩ = some (.int .i64 m) := hx1.cell 2 rfl
  have p3 : W1.cell? ⟨w.heap.size, 3, none⟩ = some (.int .u64 b) := hx1.cell 3 rfl
  have p4 : W1.cell? ⟨w.heap.size, 4, none⟩ = some (.string t) := hx1.cell 4 rfl
  have p5 : W1.cell? ⟨w.heap.size, 5, none⟩ = some (.slice a l cap) := hx1.cell 5 rfl
  have p6 : W1.cell? ⟨w.heap.size, 6, none⟩ = some (.int .i64 k') := hx1.cell 6 rfl
  have p7 : W1.cell? ⟨w.heap.size, 7, none⟩ = some (.int .i64 m') := hx1.cell 7 rfl
  have p8 : W1.cell? ⟨w.heap.size, 8, none⟩ = some (.int .u64 b') := hx1.cell 8 rfl
  have p9 : W1.cell? ⟨w.heap.size, 9, none⟩ = some (.string t') := hx1.cell 9 rfl
  have p10 : W1.cell? ⟨w.heap.size, 10, none⟩ = some (.slice a' l' cap') := hx1.cell 10 rfl
  have p11 : W1.cell? ⟨w.heap.size, 11, none⟩ = some (.int .i64 n) := hx1.cell 11 rfl
  have q0 : W1.cell? ⟨w.heap.size + 1, 0, none⟩ = some (.int .i64 0) := hx2.cell 0 rfl
  have fq0 := hx2.thaw 0
  have q1 : W1.cell? ⟨w.heap.size + 1, 1, none⟩ = some (.int .i64 0) := hx2.cell 1 rfl
  have fq1 := hx2.thaw 1
  have q2 : W1.cell? ⟨w.heap.size + 1, 2, none⟩ = some (.int .i64 0) := hx2.cell 2 rfl
  have fq2 := hx2.thaw 2
  have q3 : W1.cell? ⟨w.heap.size + 1, 3, none⟩ = some (.int .i64 0) := hx2.cell 3 rfl
  have fq3 := hx2.thaw 3
  have q4 : W1.cell? ⟨w.heap.size + 1, 4, none⟩ = some (.bool false) := hx2.cell 4 rfl
  have fq4 := hx2.thaw 4
  have q5 : W1.cell? ⟨w.heap.size + 1, 5, none⟩ = some (.int .i64 0) := hx2.cell 5 rfl
  have fq5 := hx2.thaw 5
  have q6 : W1.cell? ⟨w.heap.size + 1, 6, none⟩ = some (.int .i64 0) := hx2.cell 6 rfl
  have fq6 := hx2.thaw 6
  have q7 : W1.cell? ⟨w.heap.size + 1, 7, none⟩ = some (.int .u64 0) := hx2.cell 7 rfl
  have fq7 := hx2.thaw 7
  have q8 : W1.cell? ⟨w.heap.size + 1, 8, none⟩ = some (.string ⟨#[]⟩) := hx2.cell 8 rfl
  have fq8 := hx2.thaw 8
  have q9 : W1.cell? ⟨w.heap.size + 1, 9, none⟩ = some (.slice none 0 0) := hx2.cell 9 rfl
  have fq9 := hx2.thaw 9
  go_enter Tryz.func15, Tryz.ntmps15
  go_upto_region 1 with fail
  rw [← hW1]
  clear hW1
  go_wp2_with (first | (go_at_call 30; refine (HH.out _).mono ?_; rintro e w1 ⟨rfl, hb4⟩; have hx4 := hx2.later hb4; dsimp only) | (go_at_call 28; refine (rnumber_any _ _).mono ?_; rintro e w2 ⟨rfl, hb3⟩; have hb2 := hb4.trans (hb3.mono hb4.size); unfold numV; dsimp only) | (go_at_call 21; refine (rgave_v _ _ _ _ _ _ _ _).mono ?_; rintro e w3 ⟨rfl, hbg⟩; have hbx := hb2.trans (hbg.mono hb2.size); have hy := hx2.later hbx; have z0 : w3.cell? ⟨w.heap.size + 1, 0, none⟩ = some (.int .i64 0) := hy.cell 0 rfl; have fz0 := hy.thaw 0; have z1 : w3.cell? ⟨w.heap.size + 1, 1, none⟩ = some (.int .i64 0) := hy.cell 1 rfl; have fz1 := hy.thaw 1; have z2 : w3.cell? ⟨w.heap.size + 1, 2, none⟩ = some (.int .i64 0) := hy.cell 2 rfl; have fz2 := hy.thaw 2; have z3 : w3.cell? ⟨w.heap.size + 1, 3, none⟩ = some (.int .i64 0) := hy.cell 3 rfl; have fz3 := hy.thaw 3; have z4 : w3.cell? ⟨w.heap.size + 1, 4, none⟩ = some (.bool false) := hy.cell 4 rfl; have fz4 := hy.thaw 4; have z5 : w3.cell? ⟨w.heap.size + 1, 5, none⟩ = some (.int .i64 0) := hy.cell 5 rfl; have fz5 := hy.thaw 5; have z6 : w3.cell? ⟨w.heap.size + 1, 6, none⟩ = some (.int .i64 0) := hy.cell 6 rfl; have fz6 := hy.thaw 6; have z7 : w3.cell? ⟨w.heap.size + 1, 7, none⟩ = some (.int .u64 0) := hy.cell 7 rfl; have fz7 := hy.thaw 7; have z8 : w3.cell? ⟨w.heap.size + 1, 8, none⟩ = some (.string ⟨#[]⟩) := hy.cell 8 rfl; have fz8 := hy.thaw 8; have z9 : w3.cell? ⟨w.heap.size + 1, 9, none⟩ = some (.slice none 0 0) := hy.cell 9 rfl; have fz9 := hy.thaw 9; dsimp only))
  have hzo := hz.out
  exact bodyPost_ret (results_cell_row rfl _ _ (w.heap.size + 1) 42 _ (0, 0) _ rfl (hy.set10 _ _ _ _ _ _ _ _ _ _) Tryz.underlying42 rfl (by kernel_rfl)) rfl
    ⟨_, rfl, ⟨_, _, _, _, _, _, _, rfl, litQ _ _ 1 z (by decide) hq⟩, set10_below (hb1.trans (hbx.mono hb1.size)) (by omega)⟩

set_option maxRecDepth 100000 in
set_option maxHeartbeats 3200000 in
theorem rt_size_no {k : Int} {m b : Int} {t : ByteArray} {a : Option Addr} {l cap : Nat} {k' m' b' : Int} {t' : ByteArray} {a' : Option Addr} {l' cap' : Nat} {n : Int} (HO : ∀ W, Calls Tryz.prog 30 #[(.agg #[.int .i64 k, .int .i64 m, .int .u64 b, .string t, .slice a l cap])] W fun x w' => x = .returned (.tuple #[.int .i64 0, .int .i64 12]) ∧ Below W.heap.size W w') (w : World) :
    Calls Tryz.prog 15 #[(.agg #[.int .i64 10, .int .i64 k, .int .i64 m, .int .u64 b, .string t, .slice a l cap, .int .i64 k', .int .i64 m', .int .u64 b', .string t', .slice a' l' cap', .int .i64 n])] w fun x w' => ∃ v', x = .returned v' ∧ ResV w' (fun b => w.heap.size ≤ b) v' .err ∧ Below w.heap.size w w' := by
  have HH := Lib.hid HO
  clear HO
  obtain ⟨W1, hW1, hb1, hz, hx1, hx2⟩ := act_worlds w (.int .i64 10) (.int .i64 k) (.int .i64 m) (.int .u64 b) (.string t) (.slice a l cap) (.int .i64 k') (.int .i64 m') (.int .u64 b') (.string t') (.slice a' l' cap') (.int .i64 n)
  have p0 : W1.cell? ⟨w.heap.size, 0, none⟩ = some (.int .i64 10) := hx1.cell 0 rfl
  have p1 : W1.cell? ⟨w.heap.size, 1, none⟩ = some (.int .i64 k) := hx1.cell 1 rfl
  have p2 : W1.cell? ⟨w.heap.size, 2, none⟩ = some (.int .i64 m) := hx1.cell 2 rfl
  have p3 : W1.cell? ⟨w.heap.size, 3, none⟩ = some (.int .u64 b) := hx1.cell 3 rfl
  have p4 : W1.cell? ⟨w.heap.size, 4, none⟩ = some (.string t) := hx1.cell 4 rfl
  have p5 : W1.cell? ⟨w.heap.size, 5, none⟩ = some (.slice a l cap) := hx1.cell 5 rfl
  have p6 : W1.cell? ⟨w.heap.size, 6, none⟩ = some (.int .i64 k') := hx1.cell 6 rfl
  have p7 : W1.cell? ⟨w.heap.size, 7, none⟩ = some (.int .i64 m') := hx1.cell 7 rfl
  have p8 : W1.cell? ⟨w.heap.size, 8, none⟩ = some (.int .u64 b') := hx1.cell 8 rfl
  have p9 : W1.cell? ⟨w.heap.size, 9, none⟩ = some (.string t') := hx1.cell 9 rfl
  have p10 : W1.cell? ⟨w.heap.size, 10, none⟩ = some (.slice a' l' cap') := hx1.cell 10 rfl
  have p11 : W1.cell? ⟨w.heap.size, 11, none⟩ = some (.int .i64 n) := hx1.cell 11 rfl
  have q0 : W1.cell? ⟨w.heap.size + 1, 0, none⟩ = some (.int .i64 0) := hx2.cell 0 rfl
  have fq0 := hx2.thaw 0
  have q1 : W1.cell? ⟨w.heap.size + 1, 1, none⟩ = some (.int .i64 0) := hx2.cell 1 rfl
  have fq1 := hx2.thaw 1
  have q2 : W1.cell? ⟨w.heap.size + 1, 2, none⟩ = some (.int .i64 0) := hx2.cell 2 rfl
  have fq2 := hx2.thaw 2
  have q3 : W1.cell? ⟨w.heap.size + 1, 3, none⟩ = some (.int .i64 0) := hx2.cell 3 rfl
  have fq3 := hx2.thaw 3
  have q4 : W1.cell? ⟨w.heap.size + 1, 4, none⟩ = some (.bool false) := hx2.cell 4 rfl
  have fq4 := hx2.thaw 4
  have q5 : W1.cell? ⟨w.heap.size + 1, 5, none⟩ = some (.int .i64 0) := hx2.cell 5 rfl
  have fq5 := hx2.thaw 5
  have q6 : W1.cell? ⟨w.heap.size + 1, 6, none⟩ = some (.int .i64 0) := hx2.cell 6 rfl
  have fq6 := hx2.thaw 6
  have q7 : W1.cell? ⟨w.heap.size + 1, 7, none⟩ = some (.int .u64 0) := hx2.cell 7 rfl
  have fq7 := hx2.thaw 7
  have q8 : W1.cell? ⟨w.heap.size + 1, 8, none⟩ = some (.string ⟨#[]⟩) := hx2.cell 8 rfl
  have fq8 := hx2.thaw 8
  have q9 : W1.cell? ⟨w.heap.size + 1, 9, none⟩ = some (.slice none 0 0) := hx2.cell 9 rfl
  have fq9 := hx2.thaw 9
  go_enter Tryz.func15, Tryz.ntmps15
  go_upto_region 1 with fail
  rw [← hW1]
  clear hW1
  go_wp2_with (go_at_call 30; refine (HH.out _).mono ?_; rintro e w2 ⟨rfl, hbx⟩; have hy := hx2.later hbx; have z0 : w2.cell? ⟨w.heap.size + 1, 0, none⟩ = some (.int .i64 0) := hy.cell 0 rfl; have fz0 := hy.thaw 0; have z1 : w2.cell? ⟨w.heap.size + 1, 1, none⟩ = some (.int .i64 0) := hy.cell 1 rfl; have fz1 := hy.thaw 1; have z2 : w2.cell? ⟨w.heap.size + 1, 2, none⟩ = some (.int .i64 0) := hy.cell 2 rfl; have fz2 := hy.thaw 2; have z3 : w2.cell? ⟨w.heap.size + 1, 3, none⟩ = some (.int .i64 0) := hy.cell 3 rfl; have fz3 := hy.thaw 3; have z4 : w2.cell? ⟨w.heap.size + 1, 4, none⟩ = some (.bool false) := hy.cell 4 rfl; have fz4 := hy.thaw 4; have z5 : w2.cell? ⟨w.heap.size + 1, 5, none⟩ = some (.int .i64 0) := hy.cell 5 rfl; have fz5 := hy.thaw 5; have z6 : w2.cell? ⟨w.heap.size + 1, 6, none⟩ = some (.int .i64 0) := hy.cell 6 rfl; have fz6 := hy.thaw 6; have z7 : w2.cell? ⟨w.heap.size + 1, 7, none⟩ = some (.int .u64 0) := hy.cell 7 rfl; have fz7 := hy.thaw 7; have z8 : w2.cell? ⟨w.heap.size + 1, 8, none⟩ = some (.string ⟨#[]⟩) := hy.cell 8 rfl; have fz8 := hy.thaw 8; have z9 : w2.cell? ⟨w.heap.size + 1, 9, none⟩ = some (.slice none 0 0) := hy.cell 9 rfl; have fz9 := hy.thaw 9; dsimp only)
  have hzo := hz.out
  exact bodyPost_ret (results_cell_row rfl _ _ (w.heap.size + 1) 42 _ (0, 0) _ rfl (hy.set10 _ _ _ _ _ _ _ _ _ _) Tryz.underlying42 rfl (by kernel_rfl)) rfl
    ⟨_, rfl, rfl, set10_below (hb1.trans (hbx.mono hb1.size)) (by omega)⟩

set_option maxRecDepth 100000 in
set_option maxHeartbeats 3200000 in
theorem rt_none {k : Int} {m b : Int} {t : ByteArray} {a : Option Addr} {l cap : Nat} {k' m' b' : Int} {t' : ByteArray} {a' : Option Addr} {l' cap' : Nat} {n : Int} {op : Int} (h1 : op ≠ 1) (h2 : op ≠ 2) (h3 : op ≠ 3) (h4 : op ≠ 4) (h5 : op ≠ 5) (h6 : op ≠ 6) (h7 : op ≠ 7) (h8 : op ≠ 8) (h9 : op ≠ 9) (h10 : op ≠ 10) (w : World) :
    Calls Tryz.prog 15 #[(.agg #[.int .i64 op, .int .i64 k, .int .i64 m, .int .u64 b, .string t, .slice a l cap, .int .i64 k', .int .i64 m', .int .u64 b', .string t', .slice a' l' cap', .int .i64 n])] w fun x w' => ∃ v', x = .returned v' ∧ ResV w' (fun b => w.heap.size ≤ b) v' .err ∧ Below w.heap.size w w' := by
  obtain ⟨W1, hW1, hb1, hz, hx1, hx2⟩ := act_worlds w (.int .i64 op) (.int .i64 k) (.int .i64 m) (.int .u64 b) (.string t) (.slice a l cap) (.int .i64 k') (.int .i64 m') (.int .u64 b') (.string t') (.slice a' l' cap') (.int .i64 n)
  have p0 : W1.cell? ⟨w.heap.size, 0, none⟩ = some (.int .i64 op) := hx1.cell 0 rfl
  have p1 : W1.cell? ⟨w.heap.size, 1, none⟩ = some (.int .i64 k) := hx1.cell 1 rfl
  have p2 : W1.cell? ⟨w.heap.size, 2, none⟩ = some (.int .i64 m) := hx1.cell 2 rfl
  have p3 : W1.cell? ⟨w.heap.size, 3, none⟩ = some (.int .u64 b) := hx1.cell 3 rfl
  have p4 : W1.cell? ⟨w.heap.size, 4, none⟩ = some (.string t) := hx1.cell 4 rfl
  have p5 : W1.cell? ⟨w.heap.size, 5, none⟩ = some (.slice a l cap) := hx1.cell 5 rfl
  have p6 : W1.cell? ⟨w.heap.size, 6, none⟩ = some (.int .i64 k') := hx1.cell 6 rfl
  have p7 : W1.cell? ⟨w.heap.size, 7, none⟩ = some (.int .i64 m') := hx1.cell 7 rfl
  have p8 : W1.cell? ⟨w.heap.size, 8, none⟩ = some (.int .u64 b') := hx1.cell 8 rfl
  have p9 : W1.cell? ⟨w.heap.size, 9, none⟩ = some (.string t') := hx1.cell 9 rfl
  have p10 : W1.cell? ⟨w.heap.size, 10, none⟩ = some (.slice a' l' cap') := hx1.cell 10 rfl
  have p11 : W1.cell? ⟨w.heap.size, 11, none⟩ = some (.int .i64 n) := hx1.cell 11 rfl
  have q0 : W1.cell? ⟨w.heap.size + 1, 0, none⟩ = some (.int .i64 0) := hx2.cell 0 rfl
  have fq0 := hx2.thaw 0
  have q1 : W1.cell? ⟨w.heap.size + 1, 1, none⟩ = some (.int .i64 0) := hx2.cell 1 rfl
  have fq1 := hx2.thaw 1
  have q2 : W1.cell? ⟨w.heap.size + 1, 2, none⟩ = some (.int .i64 0) := hx2.cell 2 rfl
  have fq2 := hx2.thaw 2
  have q3 : W1.cell? ⟨w.heap.size + 1, 3, none⟩ = some (.int .i64 0) := hx2.cell 3 rfl
  have fq3 := hx2.thaw 3
  have q4 : W1.cell? ⟨w.heap.size + 1, 4, none⟩ = some (.bool false) := hx2.cell 4 rfl
  have fq4 := hx2.thaw 4
  have q5 : W1.cell? ⟨w.heap.size + 1, 5, none⟩ = some (.int .i64 0) := hx2.cell 5 rfl
  have fq5 := hx2.thaw 5
  have q6 : W1.cell? ⟨w.heap.size + 1, 6, none⟩ = some (.int .i64 0) := hx2.cell 6 rfl
  have fq6 := hx2.thaw 6
  have q7 : W1.cell? ⟨w.heap.size + 1, 7, none⟩ = some (.int .u64 0) := hx2.cell 7 rfl
  have fq7 := hx2.thaw 7
  have q8 : W1.cell? ⟨w.heap.size + 1, 8, none⟩ = some (.string ⟨#[]⟩) := hx2.cell 8 rfl
  have fq8 := hx2.thaw 8
  have q9 : W1.cell? ⟨w.heap.size + 1, 9, none⟩ = some (.slice none 0 0) := hx2.cell 9 rfl
  have fq9 := hx2.thaw 9
  go_enter Tryz.func15, Tryz.ntmps15
  go_upto_region 1 with fail
  rw [← hW1]
  clear hW1
  go_wp2_with fail
  have hzo := hz.out
  exact bodyPost_ret (results_cell_row rfl _ _ (w.heap.size + 1) 42 _ (0, 0) _ rfl (hx2.set10 _ _ _ _ _ _ _ _ _ _) Tryz.underlying42 rfl (by kernel_rfl)) rfl
    ⟨_, rfl, rfl, set10_below hb1 (by omega)⟩
end Go.Proofs.YteplhhlgceppkabGreat

/- Contracts of guard's act: index, open, compare, divide, each by what its helper does. -/
namespace Go.Proofs.YteplhhlgceppkabGreat
open Go Go.RowKit Go.ChangeShapes Go.WideShapes

set_option maxRecDepth 100000 in
set_option maxHeartbeats 1600000 in
theorem arm_index {w0 : World} {k m b : Int} {t : ByteArray} {a : Option Addr} {l cap : Nat} {d : D} (hs : Slim d) (b0 b1 b2 b3 b4 : Value) (n : Int) (HO : ∀ W, Below w0.heap.size w0 W → Calls Tryz.prog 34 #[.agg #[.int .i64 k, .int .i64 m, .int .u64 b, .string t, .slice a l cap], .int .i64 n] W fun y w' => ∃ v', y = .returned v' ∧ RepQ w' (fun b => W.heap.size ≤ b) v' d ∧ Below W.heap.size W w') (w : World) (hb0 : Below w0.heap.size w0 w) :
    Calls Tryz.prog 19 #[.agg #[.int .i64 4, .int .i64 k, .int .i64 m, .int .u64 b, .string t, .slice a l cap, b0, b1, b2, b3, b4, .int .i64 n]] w fun x w' => ∃ v', x = .returned v' ∧ ResV w' (fun b => w.heap.size ≤ b) v' (.gave d) ∧ Below w.heap.size w w' := by
  have HK := Lib.hid HO
  have HG := Lib.hid (fun (w1 : World) (v : Value) (hv : Rep w1 v d) W h => gave_any hv hs W h)
  clear HO hs
  have HB := Lib.hid hb0
  clear hb0
  obtain ⟨W1, hW1, hb1, hz, hx1, hx2⟩ := act_worlds w (.int .i64 4) (.int .i64 k) (.int .i64 m) (.int .u64 b) (.string t) (.slice a l cap) (b0) (b1) (b2) (b3) (b4) (.int .i64 n)
  have p0 : W1.cell? ⟨w.heap.size, 0, none⟩ = some (.int .i64 4) := hx1.cell 0 rfl
  have p1 : W1.cell? ⟨w.heap.size, 1, none⟩ = some (.int .i64 k) := hx1.cell 1 rfl
  have p2 : W1.cell? ⟨w.heap.size, 2, none⟩ = some (.int .i64 m) := hx1.cell 2 rfl
  have p3 : W1.cell? ⟨w.heap.size, 3, none⟩ = some (.int .u64 b) := hx1.cell 3 rfl
  have p4 : W1.cell? ⟨w.heap.size, 4, none⟩ = some (.string t) := hx1.cell 4 rfl
  have p5 : W1.cell? ⟨w.heap.size, 5, none⟩ = some (.slice a l cap) := hx1.cell 5 rfl
  have p6 : W1.cell? ⟨w.heap.size, 6, none⟩ = some (b0) := hx1.cell 6 rfl
  have p7 : W1.cell? ⟨w.heap.size, 7, none⟩ = some (b1) := hx1.cell 7 rfl
  have p8 : W1.cell? ⟨w.heap.size, 8, none⟩ = some (b2) := hx1.cell 8 rfl
  have p9 : W1.cell? ⟨w.heap.size, 9, none⟩ = some (b3) := hx1.cell 9 rfl
  have p10 : W1.cell? ⟨w.heap.size, 10, none⟩ = some (b4) := hx1.cell 10 rfl
  have p11 : W1.cell? ⟨w.heap.size, 11, none⟩ = some (.int .i64 n) := hx1.cell 11 rfl
  go_enter Tryz.func19, Tryz.ntmps19
  go_upto_region 1 with fail
  rw [← hW1]
  clear hW1
  go_wp2_with (first | (go_at_call 34; refine (HK.out _ (HB.out.trans (hb1.mono HB.out.size))).mono ?_; rintro e w2 ⟨v', rfl, hv2, hb2⟩) | (go_at_call 31; refine (HG.out _ _ hv2.rep _ (Below.refl _ _)).mono ?_; rintro e w3 ⟨v', rfl, hv', hb3⟩; obtain ⟨r0, r1, r2, r3, r4, k5, m5, b5, t5, a5, n5, cap5, rfl⟩ := hv'.form; have hb23 : Below W1.heap.size W1 w3 := hb2.trans (hb3.mono hb2.size); have hy := hx2.later hb23; have q0 : w3.cell? ⟨w.heap.size + 1, 0, none⟩ = some (.int .i64 0) := hy.cell 0 rfl; have f0 := hy.thaw 0; have q1 : w3.cell? ⟨w.heap.size + 1, 1, none⟩ = some (.int .i64 0) := hy.cell 1 rfl; have f1 := hy.thaw 1; have q2 : w3.cell? ⟨w.heap.size + 1, 2, none⟩ = some (.int .i64 0) := hy.cell 2 rfl; have f2 := hy.thaw 2; have q3 : w3.cell? ⟨w.heap.size + 1, 3, none⟩ = some (.int .i64 0) := hy.cell 3 rfl; have f3 := hy.thaw 3; have q4 : w3.cell? ⟨w.heap.size + 1, 4, none⟩ = some (.bool false) := hy.cell 4 rfl; have f4 := hy.thaw 4; have q5 : w3.cell? ⟨w.heap.size + 1, 5, none⟩ = some (.int .i64 0) := hy.cell 5 rfl; have f5 := hy.thaw 5; have q6 : w3.cell? ⟨w.heap.size + 1, 6, none⟩ = some (.int .i64 0) := hy.cell 6 rfl; have f6 := hy.thaw 6; have q7 : w3.cell? ⟨w.heap.size + 1, 7, none⟩ = some (.int .u64 0) := hy.cell 7 rfl; have f7 := hy.thaw 7; have q8 : w3.cell? ⟨w.heap.size + 1, 8, none⟩ = some (.string ⟨#[]⟩) := hy.cell 8 rfl; have f8 := hy.thaw 8; have q9 : w3.cell? ⟨w.heap.size + 1, 9, none⟩ = some (.slice none 0 0) := hy.cell 9 rfl; have f9 := hy.thaw 9; dsimp only))
  have hzl := hb2.size
  have hzo := hz.out
  exact bodyPost_ret (results_cell_row rfl _ _ (w.heap.size + 1) 42 _ (0, 0) _ rfl (hy.set10 _ _ _ _ _ _ _ _ _ _) Tryz.underlying42 rfl (by kernel_rfl)) rfl
    ⟨_, rfl, hv'.set10 (by omega) (by omega), set10_below (hb1.trans (hb23.mono (by omega))) (by omega)⟩

set_option maxRecDepth 100000 in
set_option maxHeartbeats 1600000 in
theorem arm_index_pan {w0 : World} {k m b : Int} {t : ByteArray} {a : Option Addr} {l cap : Nat} {T : TypeId} {z : Value} (b0 b1 b2 b3 b4 : Value) (n : Int) (HO : ∀ W, Below w0.heap.size w0 W → Calls Tryz.prog 34 #[.agg #[.int .i64 k, .int .i64 m, .int .u64 b, .string t, .slice a l cap], .int .i64 n] W fun y w' => y = .panicked (thrown T z) ∧ Below W.heap.size W w') (w : World) (hb0 : Below w0.heap.size w0 w) :
    Calls Tryz.prog 19 #[.agg #[.int .i64 4, .int .i64 k, .int .i64 m, .int .u64 b, .string t, .slice a l cap, b0, b1, b2, b3, b4, .int .i64 n]] w fun x w' => x = .panicked (thrown T z) ∧ Below w.heap.size w w' := by
  have HK := Lib.hid HO
  clear HO
  have HB := Lib.hid hb0
  clear hb0
  obtain ⟨W1, hW1, hb1, hz, hx1, hx2⟩ := act_worlds w (.int .i64 4) (.int .i64 k) (.int .i64 m) (.int .u64 b) (.string t) (.slice a l cap) (b0) (b1) (b2) (b3) (b4) (.int .i64 n)
  have p0 : W1.cell? ⟨w.heap.size, 0, none⟩ = some (.int .i64 4) := hx1.cell 0 rfl
  have p1 : W1.cell? ⟨w.heap.size, 1, none⟩ = some (.int .i64 k) := hx1.cell 1 rfl
  have p2 : W1.cell? ⟨w.heap.size, 2, none⟩ = some (.int .i64 m) := hx1.cell 2 rfl
  have p3 : W1.cell? ⟨w.heap.size, 3, none⟩ = some (.int .u64 b) := hx1.cell 3 rfl
  have p4 : W1.cell? ⟨w.heap.size, 4, none⟩ = some (.string t) := hx1.cell 4 rfl
  have p5 : W1.cell? ⟨w.heap.size, 5, none⟩ = some (.slice a l cap) := hx1.cell 5 rfl
  have p6 : W1.cell? ⟨w.heap.size, 6, none⟩ = some (b0) := hx1.cell 6 rfl
  have p7 : W1.cell? ⟨w.heap.size, 7, none⟩ = some (b1) := hx1.cell 7 rfl
  have p8 : W1.cell? ⟨w.heap.size, 8, none⟩ = some (b2) := hx1.cell 8 rfl
  have p9 : W1.cell? ⟨w.heap.size, 9, none⟩ = some (b3) := hx1.cell 9 rfl
  have p10 : W1.cell? ⟨w.heap.size, 10, none⟩ = some (b4) := hx1.cell 10 rfl
  have p11 : W1.cell? ⟨w.heap.size, 11, none⟩ = some (.int .i64 n) := hx1.cell 11 rfl
  go_enter Tryz.func19, Tryz.ntmps19
  go_upto_region 1 with fail
  rw [← hW1]
  clear hW1
  go_wp2_with (go_at_call 34; refine (HK.out _ (HB.out.trans (hb1.mono HB.out.size))).mono ?_; rintro e w2 ⟨rfl, hb2⟩)
  exact ⟨rfl, rfl, hb1.trans (hb2.mono hb1.size)⟩

set_option maxRecDepth 100000 in
set_option maxHeartbeats 1600000 in
theorem arm_open {w0 : World} {k m b : Int} {t : ByteArray} {a : Option Addr} {l cap : Nat} {d : D} (hs : Slim d) (b0 b1 b2 b3 b4 : Value) (n : Int) (HO : ∀ W, Below w0.heap.size w0 W → Calls Tryz.prog 35 #[.agg #[.int .i64 k, .int .i64 m, .int .u64 b, .string t, .slice a l cap]] W fun y w' => ∃ v', y = .returned v' ∧ RepQ w' (fun b => W.heap.size ≤ b) v' d ∧ Below W.heap.size W w') (w : World) (hb0 : Below w0.heap.size w0 w) :
    Calls Tryz.prog 19 #[.agg #[.int .i64 5, .int .i64 k, .int .i64 m, .int .u64 b, .string t, .slice a l cap, b0, b1, b2, b3, b4, .int .i64 n]] w fun x w' => ∃ v', x = .returned v' ∧ ResV w' (fun b => w.heap.size ≤ b) v' (.gave d) ∧ Below w.heap.size w w' := by
  have HK := Lib.hid HO
  have HG := Lib.hid (fun (w1 : World) (v : Value) (hv : Rep w1 v d) W h => gave_any hv hs W h)
  clear HO hs
  have HB := Lib.hid hb0
  clear hb0
  obtain ⟨W1, hW1, hb1, hz, hx1, hx2⟩ := act_worlds w (.int .i64 5) (.int .i64 k) (.int .i64 m) (.int .u64 b) (.string t) (.slice a l cap) (b0) (b1) (b2) (b3) (b4) (.int .i64 n)
  have p0 : W1.cell? ⟨w.heap.size, 0, none⟩ = some (.int .i64 5) := hx1.cell 0 rfl
  have p1 : W1.cell? ⟨w.heap.size, 1, none⟩ = some (.int .i64 k) := hx1.cell 1 rfl
  have p2 : W1.cell? ⟨w.heap.size, 2, none⟩ = some (.int .i64 m) := hx1.cell 2 rfl
  have p3 : W1.cell? ⟨w.heap.size, 3, none⟩ = some (.int .u64 b) := hx1.cell 3 rfl
  have p4 : W1.cell? ⟨w.heap.size, 4, none⟩ = some (.string t) := hx1.cell 4 rfl
  have p5 : W1.cell? ⟨w.heap.size, 5, none⟩ = some (.slice a l cap) := hx1.cell 5 rfl
  have p6 : W1.cell? ⟨w.heap.size, 6, none⟩ = some (b0) := hx1.cell 6 rfl
  have p7 : W1.cell? ⟨w.heap.size, 7, none⟩ = some (b1) := hx1.cell 7 rfl
  have p8 : W1.cell? ⟨w.heap.size, 8, none⟩ = some (b2) := hx1.cell 8 rfl
  have p9 : W1.cell? ⟨w.heap.size, 9, none⟩ = some (b3) := hx1.cell 9 rfl
  have p10 : W1.cell? ⟨w.heap.size, 10, none⟩ = some (b4) := hx1.cell 10 rfl
  have p11 : W1.cell? ⟨w.heap.size, 11, none⟩ = some (.int .i64 n) := hx1.cell 11 rfl
  go_enter Tryz.func19, Tryz.ntmps19
  go_upto_region 1 with fail
  rw [← hW1]
  clear hW1
  go_wp2_with (first | (go_at_call 35; refine (HK.out _ (HB.out.trans (hb1.mono HB.out.size))).mono ?_; rintro e w2 ⟨v', rfl, hv2, hb2⟩) | (go_at_call 31; refine (HG.out _ _ hv2.rep _ (Below.refl _ _)).mono ?_; rintro e w3 ⟨v', rfl, hv', hb3⟩; obtain ⟨r0, r1, r2, r3, r4, k5, m5, b5, t5, a5, n5, cap5, rfl⟩ := hv'.form; have hb23 : Below W1.heap.size W1 w3 := hb2.trans (hb3.mono hb2.size); have hy := hx2.later hb23; have q0 : w3.cell? ⟨w.heap.size + 1, 0, none⟩ = some (.int .i64 0) := hy.cell 0 rfl; have f0 := hy.thaw 0; have q1 : w3.cell? ⟨w.heap.size + 1, 1, none⟩ = some (.int .i64 0) := hy.cell 1 rfl; have f1 := hy.thaw 1; have q2 : w3.cell? ⟨w.heap.size + 1, 2, none⟩ = some (.int .i64 0) := hy.cell 2 rfl; have f2 := hy.thaw 2; have q3 : w3.cell? ⟨w.heap.size + 1, 3, none⟩ = some (.int .i64 0) := hy.cell 3 rfl; have f3 := hy.thaw 3; have q4 : w3.cell? ⟨w.heap.size + 1, 4, none⟩ = some (.bool false) := hy.cell 4 rfl; have f4 := hy.thaw 4; have q5 : w3.cell? ⟨w.heap.size + 1, 5, none⟩ = some (.int .i64 0) := hy.cell 5 rfl; have f5 := hy.thaw 5; have q6 : w3.cell? ⟨w.heap.size + 1, 6, none⟩ = some (.int .i64 0) := hy.cell 6 rfl; have f6 := hy.thaw 6; have q7 : w3.cell? ⟨w.heap.size + 1, 7, none⟩ = some (.int .u64 0) := hy.cell 7 rfl; have f7 := hy.thaw 7; have q8 : w3.cell? ⟨w.heap.size + 1, 8, none⟩ = some (.string ⟨#[]⟩) := hy.cell 8 rfl; have f8 := hy.thaw 8; have q9 : w3.cell? ⟨w.heap.size + 1, 9, none⟩ = some (.slice none 0 0) := hy.cell 9 rfl; have f9 := hy.thaw 9; dsimp only))
  have hzl := hb2.size
  have hzo := hz.out
  exact bodyPost_ret (results_cell_row rfl _ _ (w.heap.size + 1) 42 _ (0, 0) _ rfl (hy.set10 _ _ _ _ _ _ _ _ _ _) Tryz.underlying42 rfl (by kernel_rfl)) rfl
    ⟨_, rfl, hv'.set10 (by omega) (by omega), set10_below (hb1.trans (hb23.mono (by omega))) (by omega)⟩

set_option maxRecDepth 100000 in
set_option maxHeartbeats 1600000 in
theorem arm_open_pan {w0 : World} {k m b : Int} {t : ByteArray} {a : Option Addr} {l cap : Nat} {T : TypeId} {z : Value} (b0 b1 b2 b3 b4 : Value) (n : Int) (HO : ∀ W, Below w0.heap.size w0 W → Calls Tryz.prog 35 #[.agg #[.int .i64 k, .int .i64 m, .int .u64 b, .string t, .slice a l cap]] W fun y w' => y = .panicked (thrown T z) ∧ Below W.heap.size W w') (w : World) (hb0 : Below w0.heap.size w0 w) :
    Calls Tryz.prog 19 #[.agg #[.int .i64 5, .int .i64 k, .int .i64 m, .int .u64 b, .string t, .slice a l cap, b0, b1, b2, b3, b4, .int .i64 n]] w fun x w' => x = .panicked (thrown T z) ∧ Below w.heap.size w w' := by
  have HK := Lib.hid HO
  clear HO
  have HB := Lib.hid hb0
  clear hb0
  obtain ⟨W1, hW1, hb1, hz, hx1, hx2⟩ := act_worlds w (.int .i64 5) (.int .i64 k) (.int .i64 m) (.int .u64 b) (.string t) (.slice a l cap) (b0) (b1) (b2) (b3) (b4) (.int .i64 n)
  have p0 : W1.cell? ⟨w.heap.size, 0, none⟩ = some (.int .i64 5) := hx1.cell 0 rfl
  have p1 : W1.cell? ⟨w.heap.size, 1, none⟩ = some (.int .i64 k) := hx1.cell 1 rfl
  have p2 : W1.cell? ⟨w.heap.size, 2, none⟩ = some (.int .i64 m) := hx1.cell 2 rfl
  have p3 : W1.cell? ⟨w.heap.size, 3, none⟩ = some (.int .u64 b) := hx1.cell 3 rfl
  have p4 : W1.cell? ⟨w.heap.size, 4, none⟩ = some (.string t) := hx1.cell 4 rfl
  have p5 : W1.cell? ⟨w.heap.size, 5, none⟩ = some (.slice a l cap) := hx1.cell 5 rfl
  have p6 : W1.cell? ⟨w.heap.size, 6, none⟩ = some (b0) := hx1.cell 6 rfl
  have p7 : W1.cell? ⟨w.heap.size, 7, none⟩ = some (b1) := hx1.cell 7 rfl
  have p8 : W1.cell? ⟨w.heap.size, 8, none⟩ = some (b2) := hx1.cell 8 rfl
  have p9 : W1.cell? ⟨w.heap.size, 9, none⟩ = some (b3) := hx1.cell 9 rfl
  have p10 : W1.cell? ⟨w.heap.size, 10, none⟩ = some (b4) := hx1.cell 10 rfl
  have p11 : W1.cell? ⟨w.heap.size, 11, none⟩ = some (.int .i64 n) := hx1.cell 11 rfl
  go_enter Tryz.func19, Tryz.ntmps19
  go_upto_region 1 with fail
  rw [← hW1]
  clear hW1
  go_wp2_with (go_at_call 35; refine (HK.out _ (HB.out.trans (hb1.mono HB.out.size))).mono ?_; rintro e w2 ⟨rfl, hb2⟩)
  exact ⟨rfl, rfl, hb1.trans (hb2.mono hb1.size)⟩

set_option maxRecDepth 100000 in
set_option maxHeartbeats 1600000 in
theorem arm_compare {w0 : World} {k m b : Int} {t : ByteArray} {a : Option Addr} {l cap : Nat} {k' m' b' : Int} {t' : ByteArray} {a' : Option Addr} {l' cap' : Nat} {d : D} (hs : Slim d) (n : Int) (HO : ∀ W, Below w0.heap.size w0 W → Calls Tryz.prog 36 #[.agg #[.int .i64 k, .int .i64 m, .int .u64 b, .string t, .slice a l cap], .agg #[.int .i64 k', .int .i64 m', .int .u64 b', .string t', .slice a' l' cap']] W fun y w' => ∃ v', y = .returned v' ∧ RepQ w' (fun b => W.heap.size ≤ b) v' d ∧ Below W.heap.size W w') (w : World) (hb0 : Below w0.heap.size w0 w) :
    Calls Tryz.prog 19 #[.agg #[.int .i64 6, .int .i64 k, .int .i64 m, .int .u64 b, .string t, .slice a l cap, .int .i64 k', .int .i64 m', .int .u64 b', .string t', .slice a' l' cap', .int .i64 n]] w fun x w' => ∃ v', x = .returned v' ∧ ResV w' (fun b => w.heap.size ≤ b) v' (.gave d) ∧ Below w.heap.size w w' := by
  have HK := Lib.hid HO
  have HG := Lib.hid (fun (w1 : World) (v : Value) (hv : Rep w1 v d) W h => gave_any hv hs W h)
  clear HO hs
  have HB := Lib.hid hb0
  clear hb0
  obtain ⟨W1, hW1, hb1, hz, hx1, hx2⟩ := act_worlds w (.int .i64 6) (.int .i64 k) (.int .i64 m) (.int .u64 b) (.string t) (.slice a l cap) (.int .i64 k') (.int .i64 m') (.int .u64 b') (.string t') (.slice a' l' cap') (.int .i64 n)
  have p0 : W1.cell? ⟨w.heap.size, 0, none⟩ = some (.int .i64 6) := hx1.cell 0 rfl
  have p1 : W1.cell? ⟨w.heap.size, 1, none⟩ = some (.int .i64 k) := hx1.cell 1 rfl
  have p2 : W1.cell? ⟨w.heap.size, 2, none⟩ = some (.int .i64 m) := hx1.cell 2 rfl
  have p3 : W1.cell? ⟨w.heap.size, 3, none⟩ = some (.int .u64 b) := hx1.cell 3 rfl
  have p4 : W1.cell? ⟨w.heap.size, 4, none⟩ = some (.string t) := hx1.cell 4 rfl
  have p5 : W1.cell? ⟨w.heap.size, 5, none⟩ = some (.slice a l cap) := hx1.cell 5 rfl
  have p6 : W1.cell? ⟨w.heap.size, 6, none⟩ = some (.int .i64 k') := hx1.cell 6 rfl
  have p7 : W1.cell? ⟨w.heap.size, 7, none⟩ = some (.int .i64 m') := hx1.cell 7 rfl
  have p8 : W1.cell? ⟨w.heap.size, 8, none⟩ = some (.int .u64 b') := hx1.cell 8 rfl
  have p9 : W1.cell? ⟨w.heap.size, 9, none⟩ = some (.string t') := hx1.cell 9 rfl
  have p10 : W1.cell? ⟨w.heap.size, 10, none⟩ = some (.slice a' l' cap') := hx1.cell 10 rfl
  have p11 : W1.cell? ⟨w.heap.size, 11, none⟩ = some (.int .i64 n) := hx1.cell 11 rfl
  go_enter Tryz.func19, Tryz.ntmps19
  go_upto_region 1 with fail
  rw [← hW1]
  clear hW1
  go_wp2_with (first | (go_at_call 36; refine (HK.out _ (HB.out.trans (hb1.mono HB.out.size))).mono ?_; rintro e w2 ⟨v', rfl, hv2, hb2⟩) | (go_at_call 31; refine (HG.out _ _ hv2.rep _ (Below.refl _ _)).mono ?_; rintro e w3 ⟨v', rfl, hv', hb3⟩; obtain ⟨r0, r1, r2, r3, r4, k5, m5, b5, t5, a5, n5, cap5, rfl⟩ := hv'.form; have hb23 : Below W1.heap.size W1 w3 := hb2.trans (hb3.mono hb2.size); have hy := hx2.later hb23; have q0 : w3.cell? ⟨w.heap.size + 1, 0, none⟩ = some (.int .i64 0) := hy.cell 0 rfl; have f0 := hy.thaw 0; have q1 : w3.cell? ⟨w.heap.size + 1, 1, none⟩ = some (.int .i64 0) := hy.cell 1 rfl; have f1 := hy.thaw 1; have q2 : w3.cell? ⟨w.heap.size + 1, 2, none⟩ = some (.int .i64 0) := hy.cell 2 rfl; have f2 := hy.thaw 2; have q3 : w3.cell? ⟨w.heap.size + 1, 3, none⟩ = some (.int .i64 0) := hy.cell 3 rfl; have f3 := hy.thaw 3; have q4 : w3.cell? ⟨w.heap.size + 1, 4, none⟩ = some (.bool false) := hy.cell 4 rfl; have f4 := hy.thaw 4; have q5 : w3.cell? ⟨w.heap.size + 1, 5, none⟩ = some (.int .i64 0) := hy.cell 5 rfl; have f5 := hy.thaw 5; have q6 : w3.cell? ⟨w.heap.size + 1, 6, none⟩ = some (.int .i64 0) := hy.cell 6 rfl; have f6 := hy.thaw 6; have q7 : w3.cell? ⟨w.heap.size + 1, 7, none⟩ = some (.int .u64 0) := hy.cell 7 rfl; have f7 := hy.thaw 7; have q8 : w3.cell? ⟨w.heap.size + 1, 8, none⟩ = some (.string ⟨#[]⟩) := hy.cell 8 rfl; have f8 := hy.thaw 8; have q9 : w3.cell? ⟨w.heap.size + 1, 9, none⟩ = some (.slice none 0 0) := hy.cell 9 rfl; have f9 := hy.thaw 9; dsimp only))
  have hzl := hb2.size
  have hzo := hz.out
  exact bodyPost_ret (results_cell_row rfl _ _ (w.heap.size + 1) 42 _ (0, 0) _ rfl (hy.set10 _ _ _ _ _ _ _ _ _ _) Tryz.underlying42 rfl (by kernel_rfl)) rfl
    ⟨_, rfl, hv'.set10 (by omega) (by omega), set10_below (hb1.trans (hb23.mono (by omega))) (by omega)⟩

set_option maxRecDepth 100000 in
set_option maxHeartbeats 1600000 in
theorem arm_compare_pan {w0 : World} {k m b : Int} {t : ByteArray} {a : Option Addr} {l cap : Nat} {k' m' b' : Int} {t' : ByteArray} {a' : Option Addr} {l' cap' : Nat} {T : TypeId} {z : Value} (n : Int) (HO : ∀ W, Below w0.heap.size w0 W → Calls Tryz.prog 36 #[.agg #[.int .i64 k, .int .i64 m, .int .u64 b, .string t, .slice a l cap], .agg #[.int .i64 k', .int .i64 m', .int .u64 b', .string t', .slice a' l' cap']] W fun y w' => y = .panicked (thrown T z) ∧ Below W.heap.size W w') (w : World) (hb0 : Below w0.heap.size w0 w) :
    Calls Tryz.prog 19 #[.agg #[.int .i64 6, .int .i64 k, .int .i64 m, .int .u64 b, .string t, .slice a l cap, .int .i64 k', .int .i64 m', .int .u64 b', .string t', .slice a' l' cap', .int .i64 n]] w fun x w' => x = .panicked (thrown T z) ∧ Below w.heap.size w w' := by
  have HK := Lib.hid HO
  clear HO
  have HB := Lib.hid hb0
  clear hb0
  obtain ⟨W1, hW1, hb1, hz, hx1, hx2⟩ := act_worlds w (.int .i64 6) (.int .i64 k) (.int .i64 m) (.int .u64 b) (.string t) (.slice a l cap) (.int .i64 k') (.int .i64 m') (.int .u64 b') (.string t') (.slice a' l' cap') (.int .i64 n)
  have p0 : W1.cell? ⟨w.heap.size, 0, none⟩ = some (.int .i64 6) := hx1.cell 0 rfl
  have p1 : W1.cell? ⟨w.heap.size, 1, none⟩ = some (.int .i64 k) := hx1.cell 1 rfl
  have p2 : W1.cell? ⟨w.heap.size, 2, none⟩ = some (.int .i64 m) := hx1.cell 2 rfl
  have p3 : W1.cell? ⟨w.heap.size, 3, none⟩ = some (.int .u64 b) := hx1.cell 3 rfl
  have p4 : W1.cell? ⟨w.heap.size, 4, none⟩ = some (.string t) := hx1.cell 4 rfl
  have p5 : W1.cell? ⟨w.heap.size, 5, none⟩ = some (.slice a l cap) := hx1.cell 5 rfl
  have p6 : W1.cell? ⟨w.heap.size, 6, none⟩ = some (.int .i64 k') := hx1.cell 6 rfl
  have p7 : W1.cell? ⟨w.heap.size, 7, none⟩ = some (.int .i64 m') := hx1.cell 7 rfl
  have p8 : W1.cell? ⟨w.heap.size, 8, none⟩ = some (.int .u64 b') := hx1.cell 8 rfl
  have p9 : W1.cell? ⟨w.heap.size, 9, none⟩ = some (.string t') := hx1.cell 9 rfl
  have p10 : W1.cell? ⟨w.heap.size, 10, none⟩ = some (.slice a' l' cap') := hx1.cell 10 rfl
  have p11 : W1.cell? ⟨w.heap.size, 11, none⟩ = some (.int .i64 n) := hx1.cell 11 rfl
  go_enter Tryz.func19, Tryz.ntmps19
  go_upto_region 1 with fail
  rw [← hW1]
  clear hW1
  go_wp2_with (go_at_call 36; refine (HK.out _ (HB.out.trans (hb1.mono HB.out.size))).mono ?_; rintro e w2 ⟨rfl, hb2⟩)
  exact ⟨rfl, rfl, hb1.trans (hb2.mono hb1.size)⟩

set_option maxRecDepth 100000 in
set_option maxHeartbeats 1600000 in
theorem arm_divide {w0 : World} {k m b : Int} {t : ByteArray} {a : Option Addr} {l cap : Nat} {k' m' b' : Int} {t' : ByteArray} {a' : Option Addr} {l' cap' : Nat} {d : D} (hs : Slim d) (n : Int) (HO : ∀ W, Below w0.heap.size w0 W → Calls Tryz.prog 37 #[.agg #[.int .i64 k, .int .i64 m, .int .u64 b, .string t, .slice a l cap], .agg #[.int .i64 k', .int .i64 m', .int .u64 b', .string t', .slice a' l' cap']] W fun y w' => ∃ v', y = .returned v' ∧ RepQ w' (fun b => W.heap.size ≤ b) v' d ∧ Below W.heap.size W w') (w : World) (hb0 : Below w0.heap.size w0 w) :
    Calls Tryz.prog 19 #[.agg #[.int .i64 7, .int .i64 k, .int .i64 m, .int .u64 b, .string t, .slice a l cap, .int .i64 k', .int .i64 m', .int .u64 b', .string t', .slice a' l' cap', .int .i64 n]] w fun x w' => ∃ v', x = .returned v' ∧ ResV w' (fun b => w.heap.size ≤ b) v' (.gave d) ∧ Below w.heap.size w w' := by
  have HK := Lib.hid HO
  have HG := Lib.hid (fun (w1 : World) (v : Value) (hv : Rep w1 v d) W h => gave_any hv hs W h)
  clear HO hs
  have HB := Lib.hid hb0
  clear hb0
  obtain ⟨W1, hW1, hb1, hz, hx1, hx2⟩ := act_worlds w (.int .i64 7) (.int .i64 k) (.int .i64 m) (.int .u64 b) (.string t) (.slice a l cap) (.int .i64 k') (.int .i64 m') (.int .u64 b') (.string t') (.slice a' l' cap') (.int .i64 n)
  have p0 : W1.cell? ⟨w.heap.size, 0, none⟩ = some (.int .i64 7) := hx1.cell 0 rfl
  have p1 : W1.cell? ⟨w.heap.size, 1, none⟩ = some (.int .i64 k) := hx1.cell 1 rfl
  have p2 : W1.cell? ⟨w.heap.size, 2, none⟩ = some (.int .i64 m) := hx1.cell 2 rfl
  have p3 : W1.cell? ⟨w.heap.size, 3, none⟩ = some (.int .u64 b) := hx1.cell 3 rfl
  have p4 : W1.cell? ⟨w.heap.size, 4, none⟩ = some (.string t) := hx1.cell 4 rfl
  have p5 : W1.cell? ⟨w.heap.size, 5, none⟩ = some (.slice a l cap) := hx1.cell 5 rfl
  have p6 : W1.cell? ⟨w.heap.size, 6, none⟩ = some (.int .i64 k') := hx1.cell 6 rfl
  have p7 : W1.cell? ⟨w.heap.size, 7, none⟩ = some (.int .i64 m') := hx1.cell 7 rfl
  have p8 : W1.cell? ⟨w.heap.size, 8, none⟩ = some (.int .u64 b') := hx1.cell 8 rfl
  have p9 : W1.cell? ⟨w.heap.size, 9, none⟩ = some (.string t') := hx1.cell 9 rfl
  have p10 : W1.cell? ⟨w.heap.size, 10, none⟩ = some (.slice a' l' cap') := hx1.cell 10 rfl
  have p11 : W1.cell? ⟨w.heap.size, 11, none⟩ = some (.int .i64 n) := hx1.cell 11 rfl
  go_enter Tryz.func19, Tryz.ntmps19
  go_upto_region 1 with fail
  rw [← hW1]
  clear hW1
  go_wp2_with (first | (go_at_call 37; refine (HK.out _ (HB.out.trans (hb1.mono HB.out.size))).mono ?_; rintro e w2 ⟨v', rfl, hv2, hb2⟩) | (go_at_call 31; refine (HG.out _ _ hv2.rep _ (Below.refl _ _)).mono ?_; rintro e w3 ⟨v', rfl, hv', hb3⟩; obtain ⟨r0, r1, r2, r3, r4, k5, m5, b5, t5, a5, n5, cap5, rfl⟩ := hv'.form; have hb23 : Below W1.heap.size W1 w3 := hb2.trans (hb3.mono hb2.size); have hy := hx2.later hb23; have q0 : w3.cell? ⟨w.heap.size + 1, 0, none⟩ = some (.int .i64 0) := hy.cell 0 rfl; have f0 := hy.thaw 0; have q1 : w3.cell? ⟨w.heap.size + 1, 1, none⟩ = some (.int .i64 0) := hy.cell 1 rfl; have f1 := hy.thaw 1; have q2 : w3.cell? ⟨w.heap.size + 1, 2, none⟩ = some (.int .i64 0) := hy.cell 2 rfl; have f2 := hy.thaw 2; have q3 : w3.cell? ⟨w.heap.size + 1, 3, none⟩ = some (.int .i64 0) := hy.cell 3 rfl; have f3 := hy.thaw 3; have q4 : w3.cell? ⟨w.heap.size + 1, 4, none⟩ = some (.bool false) := hy.cell 4 rfl; have f4 := hy.thaw 4; have q5 : w3.cell? ⟨w.heap.size + 1, 5, none⟩ = some (.int .i64 0) := hy.cell 5 rfl; have f5 := hy.thaw 5; have q6 : w3.cell? ⟨w.heap.size + 1, 6, none⟩ = some (.int .i64 0) := hy.cell 6 rfl; have f6 := hy.thaw 6; have q7 : w3.cell? ⟨w.heap.size + 1, 7, none⟩ = some (.int .u64 0) := hy.cell 7 rfl; have f7 := hy.thaw 7; have q8 : w3.cell? ⟨w.heap.size + 1, 8, none⟩ = some (.string ⟨#[]⟩) := hy.cell 8 rfl; have f8 := hy.thaw 8; have q9 : w3.cell? ⟨w.heap.size + 1, 9, none⟩ = some (.slice none 0 0) := hy.cell 9 rfl; have f9 := hy.thaw 9; dsimp only))
  have hzl := hb2.size
  have hzo := hz.out
  exact bodyPost_ret (results_cell_row rfl _ _ (w.heap.size + 1) 42 _ (0, 0) _ rfl (hy.set10 _ _ _ _ _ _ _ _ _ _) Tryz.underlying42 rfl (by kernel_rfl)) rfl
    ⟨_, rfl, hv'.set10 (by omega) (by omega), set10_below (hb1.trans (hb23.mono (by omega))) (by omega)⟩

set_option maxRecDepth 100000 in
set_option maxHeartbeats 1600000 in
theorem arm_divide_pan {w0 : World} {k m b : Int} {t : ByteArray} {a : Option Addr} {l cap : Nat} {k' m' b' : Int} {t' : ByteArray} {a' : Option Addr} {l' cap' : Nat} {T : TypeId} {z : Value} (n : Int) (HO : ∀ W, Below w0.heap.size w0 W → Calls Tryz.prog 37 #[.agg #[.int .i64 k, .int .i64 m, .int .u64 b, .string t, .slice a l cap], .agg #[.int .i64 k', .int .i64 m', .int .u64 b', .string t', .slice a' l' cap']] W fun y w' => y = .panicked (thrown T z) ∧ Below W.heap.size W w') (w : World) (hb0 : Below w0.heap.size w0 w) :
    Calls Tryz.prog 19 #[.agg #[.int .i64 7, .int .i64 k, .int .i64 m, .int .u64 b, .string t, .slice a l cap, .int .i64 k', .int .i64 m', .int .u64 b', .string t', .slice a' l' cap', .int .i64 n]] w fun x w' => x = .panicked (thrown T z) ∧ Below w.heap.size w w' := by
  have HK := Lib.hid HO
  clear HO
  have HB := Lib.hid hb0
  clear hb0
  obtain ⟨W1, hW1, hb1, hz, hx1, hx2⟩ := act_worlds w (.int .i64 7) (.int .i64 k) (.int .i64 m) (.int .u64 b) (.string t) (.slice a l cap) (.int .i64 k') (.int .i64 m') (.int .u64 b') (.string t') (.slice a' l' cap') (.int .i64 n)
  have p0 : W1.cell? ⟨w.heap.size, 0, none⟩ = some (.int .i64 7) := hx1.cell 0 rfl
  have p1 : W1.cell? ⟨w.heap.size, 1, none⟩ = some (.int .i64 k) := hx1.cell 1 rfl
  have p2 : W1.cell? ⟨w.heap.size, 2, none⟩ = some (.int .i64 m) := hx1.cell 2 rfl
  have p3 : W1.cell? ⟨w.heap.size, 3, none⟩ = some (.int .u64 b) := hx1.cell 3 rfl
  have p4 : W1.cell? ⟨w.heap.size, 4, none⟩ = some (.string t) := hx1.cell 4 rfl
  have p5 : W1.cell? ⟨w.heap.size, 5, none⟩ = some (.slice a l cap) := hx1.cell 5 rfl
  have p6 : W1.cell? ⟨w.heap.size, 6, none⟩ = some (.int .i64 k') := hx1.cell 6 rfl
  have p7 : W1.cell? ⟨w.heap.size, 7, none⟩ = some (.int .i64 m') := hx1.cell 7 rfl
  have p8 : W1.cell? ⟨w.heap.size, 8, none⟩ = some (.int .u64 b') := hx1.cell 8 rfl
  have p9 : W1.cell? ⟨w.heap.size, 9, none⟩ = some (.string t') := hx1.cell 9 rfl
  have p10 : W1.cell? ⟨w.heap.size, 10, none⟩ = some (.slice a' l' cap') := hx1.cell 10 rfl
  have p11 : W1.cell? ⟨w.heap.size, 11, none⟩ = some (.int .i64 n) := hx1.cell 11 rfl
  go_enter Tryz.func19, Tryz.ntmps19
  go_upto_region 1 with fail
  rw [← hW1]
  clear hW1
  go_wp2_with (go_at_call 37; refine (HK.out _ (HB.out.trans (hb1.mono HB.out.size))).mono ?_; rintro e w2 ⟨rfl, hb2⟩)
  exact ⟨rfl, rfl, hb1.trans (hb2.mono hb1.size)⟩
end Go.Proofs.YteplhhlgceppkabGreat

/- Contract of guard's open, of a box. -/
namespace Go.Proofs.YteplhhlgceppkabGreat
open Go Go.RowKit Go.ChangeShapes Go.WideShapes


set_option maxRecDepth 100000 in
set_option maxHeartbeats 3200000 in
theorem gopen_box {w0 : World} {x : D} {k : Nat} (hk : k ≤ 13) {m b : Int} {t : ByteArray} {a : Option Addr} {l cap : Nat} (h : hasFi k 3 = true) (HO : ∀ W, Below w0.heap.size w0 W → Calls Tryz.prog 47 #[(.agg #[.int .i64 k, .int .i64 m, .int .u64 b, .string t, .slice a l cap])] W fun y w' => ∃ v', y = .returned (.tuple #[v', .int .i64 0]) ∧ RepQ w' (fun b => W.heap.size ≤ b) v' x ∧ Below W.heap.size W w') (w : World) (hb0 : Below w0.heap.size w0 w) :
    Calls Tryz.prog 35 #[(.agg #[.int .i64 k, .int .i64 m, .int .u64 b, .string t, .slice a l cap])] w fun y w' => ∃ v', y = .returned v' ∧ RepQ w' (fun b => w.heap.size ≤ b) v' x ∧ Below w.heap.size w w' := by
  have HF := Lib.hid (fun W => gface_yes k hk 3 h m b t a l cap W)
  have HH := Lib.hid HO
  have HB := Lib.hid hb0
  clear h HO hb0
  obtain ⟨W1, hW1, hb1, hz, hx1, hx2⟩ := rows2 w (.int .i64 k) (.int .i64 m) (.int .u64 b) (.string t) (.slice a l cap)
  have p0 : W1.cell? ⟨w.heap.size, 0, none⟩ = some (.int .i64 k) := hx1.cell 0 rfl
  have p1 : W1.cell? ⟨w.heap.size, 1, none⟩ = some (.int .i64 m) := hx1.cell 1 rfl
  have p2 : W1.cell? ⟨w.heap.size, 2, none⟩ = some (.int .u64 b) := hx1.cell 2 rfl
  have p3 : W1.cell? ⟨w.heap.size, 3, none⟩ = some (.string t) := hx1.cell 3 rfl
  have p4 : W1.cell? ⟨w.heap.size, 4, none⟩ = some (.slice a l cap) := hx1.cell 4 rfl
  go_enter Tryz.func35, Tryz.ntmps35
  go_upto_region 1 with fail
  rw [← hW1]
  clear hW1
  go_wp2_with (first | (go_at_call 33; refine (HF.out _).mono ?_; rintro e w2 ⟨rfl, hb2⟩; have h12 : Below w.heap.size w w2 := hb1.trans (hb2.mono hb1.size); have hy1 := hx1.later hb2; have r0 : w2.cell? ⟨w.heap.size, 0, none⟩ = some (.int .i64 k) := hy1.cell 0 rfl; have r1 : w2.cell? ⟨w.heap.size, 1, none⟩ = some (.int .i64 m) := hy1.cell 1 rfl; have r2 : w2.cell? ⟨w.heap.size, 2, none⟩ = some (.int .u64 b) := hy1.cell 2 rfl; have r3 : w2.cell? ⟨w.heap.size, 3, none⟩ = some (.string t) := hy1.cell 3 rfl; have r4 : w2.cell? ⟨w.heap.size, 4, none⟩ = some (.slice a l cap) := hy1.cell 4 rfl; dsimp only) | (go_at_call 47; refine (HH.out _ (HB.out.trans (h12.mono HB.out.size))).mono ?_; rintro e w3 ⟨v', rfl, hv', hb3⟩; obtain ⟨k5, m5, b5, t5, a5, n5, cap5, rfl⟩ := hv'.form; have h13 : Below w.heap.size w w3 := h12.trans (hb3.mono h12.size); have hy2 := hx2.later (hb2.trans (hb3.mono hb2.size)); have hlt := Lib.hid hy2.lt; have hne := Lib.hid (Nat.ne_of_lt hy2.lt); have z0 := old1_cell hy2.lt (show w3.cell? ⟨w.heap.size + 1, 0, none⟩ = some (.int .i64 0) from hy2.cell 0 rfl); have f0 := old1_thaw hy2.lt (hy2.thaw 0); have z1 := old1_cell hy2.lt (show w3.cell? ⟨w.heap.size + 1, 1, none⟩ = some (.int .i64 0) from hy2.cell 1 rfl); have f1 := old1_thaw hy2.lt (hy2.thaw 1); have z2 := old1_cell hy2.lt (show w3.cell? ⟨w.heap.size + 1, 2, none⟩ = some (.int .u64 0) from hy2.cell 2 rfl); have f2 := old1_thaw hy2.lt (hy2.thaw 2); have z3 := old1_cell hy2.lt (show w3.cell? ⟨w.heap.size + 1, 3, none⟩ = some (.string ⟨#[]⟩) from hy2.cell 3 rfl); have f3 := old1_thaw hy2.lt (hy2.thaw 3); have z4 := old1_cell hy2.lt (show w3.cell? ⟨w.heap.size + 1, 4, none⟩ = some (.slice none 0 0) from hy2.cell 4 rfl); have f4 := old1_thaw hy2.lt (hy2.thaw 4); have e1 := hne.out; have e2 := hne.out.symm; dsimp only))
  have hz2 := hz.out
  have hzl := hb2.size
  have hzk := hb3.size
  have hw3 : w.heap.size + 1 < w3.heap.size := hlt.out
  exact bodyPost_ret (results_cell_row rfl _ _ (w.heap.size + 1) 26 _ (0, 0) _ rfl ((((((hy2.old _).set 0 _).set 1 _).set 2 _).set 3 _).set 4 _) Tryz.underlying26 rfl (by kernel_rfl)) rfl
    ⟨_, rfl, RepQ.set5 (N := w2.heap.size) (hv'.old _) (by omega) (by omega), set5_below (h13.alloc h13.size _) (by omega)⟩
end Go.Proofs.YteplhhlgceppkabGreat

/- guard.Try and the reference's Try have one outcome. -/
namespace Go.Proofs.YteplhhlgceppkabGreat
open Go Go.RowKit Go.ChangeShapes Go.WideShapes

theorem Slim.lenWf {d : D} (h : Slim d) (hR : Right d) {s : Int} (hs : lenD d = some s) : (Lit.int .i64 s).wf = true := by
  have ht : d.text.size ≤ 65535 ∧ d.kids.length ≤ 4096 := by
    cases h with
    | mk k m b t kids hl hk => exact ⟨hR.inv.1.2.2.2.2.2.1, hl⟩
  have hb : 0 ≤ s ∧ s ≤ 65535 := by
    unfold lenD at hs
    by_cases h1 : d.kind = 4 ∨ d.kind = 5 ∨ d.kind = 7
    · rw [if_pos h1] at hs; cases hs; omega
    · rw [if_neg h1] at hs
      by_cases h2 : d.kind = 8
      · rw [if_pos h2] at hs; cases hs; omega
      · rw [if_neg h2] at hs
        by_cases h3 : d.kind = 9
        · rw [if_pos h3] at hs; cases hs; omega
        · rw [if_neg h3] at hs
          by_cases h4 : d.kind = 11
          · rw [if_pos h4] at hs; cases hs; omega
          · rw [if_neg h4] at hs
            by_cases h5 : d.kind = 12
            · rw [if_pos h5] at hs; cases hs; omega
            · rw [if_neg h5] at hs; cases hs
  exact wf_small (by omega) (by omega)
theorem isB_off {k : Nat} (hk : k ≤ 13) {n : Int} (hn : ¬ (1 ≤ n ∧ n < 14)) : isB k n = false := by
  have h : typedB k n = false := by
    unfold typedB
    split
    · rfl
    · rename_i h0
      split
      · simp; omega
      · simp; omega
  exact isB_f h
/-- A Datum that the program may hold: valid. -/
def Good (d : D) : Prop := Slim d ∧ Right d ∧ d.parts ≤ 4096

theorem Rep.shape {w : World} {k m b : Int} {t : ByteArray} {a : Option Addr} {l cap : Nat} {d : D} (h : Rep w (.agg #[.int .i64 k, .int .i64 m, .int .u64 b, .string t, .slice a l cap]) d) : ∃ kids, d = .mk k m b t kids ∧ kids.length = l := by
  obtain ⟨k0, m0, b0, t0, a0, cap0, g, o, c, kids, e, rfl, _⟩ := h.inv
  simp only [Value.agg.injEq, Array.mk.injEq, List.cons.injEq, Value.int.injEq, Value.slice.injEq, Value.string.injEq, true_and, and_true] at e
  obtain ⟨rfl, rfl, rfl, rfl, rfl, rfl, rfl⟩ := e
  exact ⟨kids, rfl, rfl⟩

/-- Both answer an act with one outcome. -/
def Both (op : Int) (A B : D) (n : Int) (o : Out) : Prop :=
  (∀ d, o = .gave d → Slim d) ∧ ∀ (w0 : World) (k m b : Int) (t : ByteArray) (a : Option Addr) (l cap : Nat) (k' m' b' : Int) (t' : ByteArray) (a' : Option Addr) (l' cap' : Nat), Rep w0 (.agg #[.int .i64 k, .int .i64 m, .int .u64 b, .string t, .slice a l cap]) A → Rep w0 (.agg #[.int .i64 k', .int .i64 m', .int .u64 b', .string t', .slice a' l' cap']) B → ∀ (w : World), Below w0.heap.size w0 w →
    (Calls Tryz.prog 10 #[(.agg #[.int .i64 op, .int .i64 k, .int .i64 m, .int .u64 b, .string t, .slice a l cap, .int .i64 k', .int .i64 m', .int .u64 b', .string t', .slice a' l' cap', .int .i64 n])] w fun x w' => ∃ v', x = .returned v' ∧ ResV w' (fun b => w.heap.size ≤ b) v' o ∧ Below w.heap.size w w') ∧
    (Calls Tryz.prog 15 #[(.agg #[.int .i64 op, .int .i64 k, .int .i64 m, .int .u64 b, .string t, .slice a l cap, .int .i64 k', .int .i64 m', .int .u64 b', .string t', .slice a' l' cap', .int .i64 n])] w fun x w' => ∃ v', x = .returned v' ∧ ResV w' (fun b => w.heap.size ≤ b) v' o ∧ Below w.heap.size w w')
theorem slim_gave {A : D} (h : Slim A) : ∀ d, Out.gave A = .gave d → Slim d := fun d e => by cases e; exact h
theorem slim_pan {k n : Int} : ∀ d, Out.pan k n = .gave d → Slim d := fun d e => by cases e
theorem slim_err : ∀ d, Out.err = .gave d → Slim d := fun d e => by cases e
theorem Good.kind {k m b : Int} {t : ByteArray} {kids : List D} (h : Good (.mk k m b t kids)) : ∃ j : Nat, k = j ∧ j ≤ 13 := by
  have hk := h.2.1.inv.1
  exact ⟨k.toNat, by have := hk.1; omega, by have := hk.2.1; omega⟩
theorem isB_8 {k : Nat} (hk : k ≤ 13) : isB k 8 = decide (k = 8) := by
  have h : ∀ j : Fin 14, isB j.val 8 = decide (j.val = 8) := by decide
  exact h ⟨k, by omega⟩
theorem isB_1 {k : Nat} (hk : k ≤ 13) : isB k 1 = decide (k = 1) := by
  have h : ∀ j : Fin 14, isB j.val 1 = decide (j.val = 1) := by decide
  exact h ⟨k, by omega⟩
theorem hasFi_3 {k : Nat} (hk : k ≤ 13) (h : hasFi k 3 = true) : k = 11 ∨ k = 12 := by
  have h0 : ∀ j : Fin 14, hasFi j.val 3 = true → j.val = 11 ∨ j.val = 12 := by decide
  exact h0 ⟨k, by omega⟩ h

theorem both_1 {A B : D} (hA : Good A) (n : Int) : ∃ o, Both 1 A B n o := by
  refine ⟨.gave A, slim_gave hA.1, ?_⟩
  intro w0 k m b t a l cap k' m' b' t' a' l' cap' hv hv' w hb0
  exact ⟨try_ret _ _ _ _ _ _ _ _ _ _ _ _ _ w (fun W hW => act_give hv hA.1 _ _ _ _ _ n W (hb0.trans (hW.mono hb0.size))), rt_give hv hA.1 w hb0⟩

theorem both_2 {A B : D} (hA : Good A) (n : Int) : ∃ o, Both 2 A B n o := by
  obtain ⟨k0, m0, b0, t0, kids0⟩ := A
  obtain ⟨j, rfl, hj⟩ := hA.kind
  cases h : isB j n
  · refine ⟨.pan 2 j, slim_pan, ?_⟩
    intro w0 k m b t a l cap k' m' b' t' a' l' cap' hv hv' w hb0
    obtain ⟨kids, e, hl⟩ := hv.shape
    simp only [D.mk.injEq] at e
    obtain ⟨rfl, rfl, rfl, rfl, rfl⟩ := e
    exact ⟨try_pan _ _ _ _ _ _ _ _ _ _ _ _ _ _ _ _ (told_0 _) w (fun W hW => act_kind_no hj _ _ _ _ _ n h W), rt_kind (w0 := w0) (fun W _ => rkind_no hj n h W) w hb0⟩
  · refine ⟨.gave _, slim_gave hA.1, ?_⟩
    intro w0 k m b t a l cap k' m' b' t' a' l' cap' hv hv' w hb0
    obtain ⟨kids, e, hl⟩ := hv.shape
    simp only [D.mk.injEq] at e
    obtain ⟨rfl, rfl, rfl, rfl, rfl⟩ := e
    have hn : 1 ≤ n ∧ n < 14 := by
      by_cases h1 : 1 ≤ n ∧ n < 14
      · exact h1
      · rw [isB_off hj h1] at h
        cases h
    exact ⟨try_ret _ _ _ _ _ _ _ _ _ _ _ _ _ w (fun W hW => act_kind hj hv hA.1 _ _ _ _ _ n h W (hb0.trans (hW.mono hb0.size))), rt_kind (fun W hW => rkind_yes hj hv hA.1 n h hn W hW) w hb0⟩

theorem both_3 {A B : D} (hA : Good A) (n : Int) : ∃ o, Both 3 A B n o := by
  obtain ⟨k0, m0, b0, t0, kids0⟩ := A
  obtain ⟨j, rfl, hj⟩ := hA.kind
  cases h : hasFi j n
  · refine ⟨.pan 2 (faceMiss j n), slim_pan, ?_⟩
    intro w0 k m b t a l cap k' m' b' t' a' l' cap' hv hv' w hb0
    obtain ⟨kids, e, hl⟩ := hv.shape
    simp only [D.mk.injEq] at e
    obtain ⟨rfl, rfl, rfl, rfl, rfl⟩ := e
    exact ⟨try_pan _ _ _ _ _ _ _ _ _ _ _ _ _ _ _ _ (told_0 _) w (fun W hW => act_face_no hj _ _ _ _ _ n h W), rt_face (w0 := w0) (fun W _ => rface_no hj n h W) w hb0⟩
  · refine ⟨.gave _, slim_gave hA.1, ?_⟩
    intro w0 k m b t a l cap k' m' b' t' a' l' cap' hv hv' w hb0
    obtain ⟨kids, e, hl⟩ := hv.shape
    simp only [D.mk.injEq] at e
    obtain ⟨rfl, rfl, rfl, rfl, rfl⟩ := e
    exact ⟨try_ret _ _ _ _ _ _ _ _ _ _ _ _ _ w (fun W hW => act_face hj hv hA.1 _ _ _ _ _ n h W (hb0.trans (hW.mono hb0.size))), rt_face (fun W hW => rface_yes hj hv hA.1 n h W hW) w hb0⟩

theorem both_4 {A B : D} (hA : Good A) (n : Int) : ∃ o, Both 4 A B n o := by
  obtain ⟨k0, m0, b0, t0, kids0⟩ := A
  obtain ⟨j, rfl, hj⟩ := hA.kind
  cases h : isB j 8
  · refine ⟨.pan 2 j, slim_pan, ?_⟩
    intro w0 k m b t a l cap k' m' b' t' a' l' cap' hv hv' w hb0
    obtain ⟨kids, e, hl⟩ := hv.shape
    simp only [D.mk.injEq] at e
    obtain ⟨rfl, rfl, rfl, rfl, rfl⟩ := e
    exact ⟨try_pan _ _ _ _ _ _ _ _ _ _ _ _ _ _ _ _ (told_0 _) w (fun W hW => arm_index_pan (w0 := w0) _ _ _ _ _ n (fun W _ => place_no hj h n W) W (hb0.trans (hW.mono hb0.size))), rt_index_kind (by rw [isB_8 hj] at h; have := of_decide_eq_false h; omega) w⟩
  · have hj8 : j = 8 := by rw [isB_8 hj] at h; exact of_decide_eq_true h
    by_cases hn : n < 0
    · refine ⟨.pan 4 n, slim_pan, ?_⟩
      intro w0 k m b t a l cap k' m' b' t' a' l' cap' hv hv' w hb0
      obtain ⟨kids, e, hl⟩ := hv.shape
      simp only [D.mk.injEq] at e
      obtain ⟨rfl, rfl, rfl, rfl, rfl⟩ := e
      exact ⟨try_pan _ _ _ _ _ _ _ _ _ _ _ _ _ _ _ _ (told_1 _) w (fun W hW => arm_index_pan _ _ _ _ _ n (fun W hW => place_out hj h hv hA.1 n (Or.inl hn) W hW) W (hb0.trans (hW.mono hb0.size))), by subst hj8; exact rt_index_neg hn w⟩
    · by_cases hn2 : (kids0.length : Int) ≤ n
      · refine ⟨.pan 4 n, slim_pan, ?_⟩
        intro w0 k m b t a l cap k' m' b' t' a' l' cap' hv hv' w hb0
        obtain ⟨kids, e, hl⟩ := hv.shape
        simp only [D.mk.injEq] at e
        obtain ⟨rfl, rfl, rfl, rfl, rfl⟩ := e
        exact ⟨try_pan _ _ _ _ _ _ _ _ _ _ _ _ _ _ _ _ (told_1 _) w (fun W hW => arm_index_pan _ _ _ _ _ n (fun W hW => place_out hj h hv hA.1 n (Or.inr ⟨by omega, hn2⟩) W hW) W (hb0.trans (hW.mono hb0.size))), by subst hj8; exact rt_index_out hn (by rw [← hl]; exact hn2) w⟩
      · obtain ⟨i, rfl⟩ : ∃ i : Nat, n = i := ⟨n.toNat, by omega⟩
        have hi : kids0[i]? = some kids0[i] := List.getElem?_eq_getElem (by omega)
        generalize kids0[i] = x at hi
        refine ⟨.gave x, slim_gave (hA.1.kid (d := .mk _ _ _ _ kids0) hi), ?_⟩
        intro w0 k m b t a l cap k' m' b' t' a' l' cap' hv hv' w hb0
        obtain ⟨kids, e, hl⟩ := hv.shape
        simp only [D.mk.injEq] at e
        obtain ⟨rfl, rfl, rfl, rfl, rfl⟩ := e
        exact ⟨try_ret _ _ _ _ _ _ _ _ _ _ _ _ _ w (fun W hW => arm_index (hA.1.kid (d := .mk _ _ _ _ kids0) hi) _ _ _ _ _ i (fun W hW => place_in hj h hv hA.1 i hi W hW) W (hb0.trans (hW.mono hb0.size))), rt_index_in hv hA.1 (by omega) i hi w hb0⟩

theorem both_5 {A B : D} (hA : Good A) (n : Int) : ∃ o, Both 5 A B n o := by
  obtain ⟨k0, m0, b0, t0, kids0⟩ := A
  obtain ⟨j, rfl, hj⟩ := hA.kind
  cases h : hasFi j 3
  · refine ⟨.pan 2 (faceMiss j 3), slim_pan, ?_⟩
    intro w0 k m b t a l cap k' m' b' t' a' l' cap' hv hv' w hb0
    obtain ⟨kids, e, hl⟩ := hv.shape
    simp only [D.mk.injEq] at e
    obtain ⟨rfl, rfl, rfl, rfl, rfl⟩ := e
    exact ⟨try_pan _ _ _ _ _ _ _ _ _ _ _ _ _ _ _ _ (told_0 _) w (fun W hW => arm_open_pan (w0 := w0) _ _ _ _ _ n (fun W _ => gopen_no hj h W) W (hb0.trans (hW.mono hb0.size))), rt_open (w0 := w0) (fun W _ => rgopen_no hj h W) w hb0⟩
  · rcases hasFi_3 hj h with h11 | h12
    · have hlen : kids0.length = 1 := hA.2.1.inv.1.2.2.2.1 (by omega)
      obtain ⟨x, rfl⟩ : ∃ x, kids0 = [x] := List.length_eq_one_iff.1 hlen
      refine ⟨.gave x, slim_gave (hA.1.kid (d := .mk _ _ _ _ [x]) (i := 0) rfl), ?_⟩
      intro w0 k m b t a l cap k' m' b' t' a' l' cap' hv hv' w hb0
      obtain ⟨kids, e, hl⟩ := hv.shape
      simp only [D.mk.injEq] at e
      obtain ⟨rfl, rfl, rfl, rfl, rfl⟩ := e
      have hl1 : l = 1 := hl.symm
      subst hl1
      obtain ⟨k1, m1, b1, t1, cap1, g, o, k6, m6, b6, t6, a6, n6, cap6, e1, -, hcp, hcm, hg, i0, i1, i2, i3, i4, hx⟩ := hv.kid (i := 0) (x := x) rfl
      simp only [Value.agg.injEq, Array.mk.injEq, List.cons.injEq, Value.int.injEq, Value.slice.injEq, Value.string.injEq, true_and, and_true] at e1
      obtain ⟨rfl, rfl, rfl, rfl, rfl, -, rfl⟩ := e1
      simp only [Nat.zero_mul, Nat.add_zero] at i0 i1 i2 i3 i4
      have HO := fun W hW => open_box hv (by omega) hA.2.1 hA.2.2 ⟨hg, hcp, hcm⟩ ⟨i0, i1, i2, i3, i4⟩ hx (hA.1.kid (d := .mk _ _ _ _ [x]) (i := 0) rfl) W hW
      exact ⟨try_ret _ _ _ _ _ _ _ _ _ _ _ _ _ w (fun W hW => arm_open (hA.1.kid (d := .mk _ _ _ _ [x]) (i := 0) rfl) _ _ _ _ _ n (fun W hW => gopen_box hj h HO W hW) W (hb0.trans (hW.mono hb0.size))), rt_open (fun W hW => rgopen_box hj hv hA.1 h h11 rfl W hW) w hb0⟩
    · refine ⟨.pan 3 0, slim_pan, ?_⟩
      intro w0 k m b t a l cap k' m' b' t' a' l' cap' hv hv' w hb0
      obtain ⟨kids, e, hl⟩ := hv.shape
      simp only [D.mk.injEq] at e
      obtain ⟨rfl, rfl, rfl, rfl, rfl⟩ := e
      exact ⟨try_pan _ _ _ _ _ _ _ _ _ _ _ _ _ _ _ _ told_5 w (fun W hW => arm_open_pan _ _ _ _ _ n (fun W hW => gopen_nil hj h (fun W hW => open_nil hv hA.2.1 hA.2.2 (by rw [h12]; rfl) W hW) W hW) W (hb0.trans (hW.mono hb0.size))), rt_open (fun W hW => rgopen_nil hj hv hA.1 h h12 W hW) w hb0⟩

theorem both_6 {A B : D} (hA : Good A) (hB : Good B) (n : Int) : ∃ o, Both 6 A B n o := by
  cases h : eqD A B with
  | none =>
    refine ⟨.pan 5 0, slim_pan, ?_⟩
    intro w0 k m b t a l cap k' m' b' t' a' l' cap' hv hv' w hb0
    exact ⟨try_pan _ _ _ _ _ _ _ _ _ _ _ _ _ _ _ _ told_3 w (fun W hW => arm_compare_pan n (fun W hW => gequal_none hv hA.2.1 hA.2.2 hv' hB.2.1 hB.2.2 h W hW) W (hb0.trans (hW.mono hb0.size))), rt_compare_none (fun W hW => by rw [← h]; exact requal_any hv hA.2.1 _ _ hv' hB.2.1 W hW) w hb0⟩
  | some r =>
    refine ⟨.gave (boolD r), slim_gave (slim_plain _ _ _ _), ?_⟩
    intro w0 k m b t a l cap k' m' b' t' a' l' cap' hv hv' w hb0
    refine ⟨try_ret _ _ _ _ _ _ _ _ _ _ _ _ _ w (fun W hW => arm_compare (slim_plain _ _ _ _) n (fun W hW => (gequal_some hv hA.2.1 hA.2.2 hv' hB.2.1 hB.2.2 r h W hW).mono fun _ _ ⟨hx, hb⟩ => ⟨_, hx, litQ _ _ 6 (boolI r) (by decide) (by cases r <;> decide), hb⟩) W (hb0.trans (hW.mono hb0.size))), ?_⟩
    cases r
    · exact rt_compare_false (fun W hW => by rw [← h]; exact requal_any hv hA.2.1 _ _ hv' hB.2.1 W hW) w hb0
    · exact rt_compare_true (fun W hW => by rw [← h]; exact requal_any hv hA.2.1 _ _ hv' hB.2.1 W hW) w hb0

theorem quoI_wf (a b : Int) : (Lit.int .i64 (quoI a b)).wf = true := by
  unfold quoI
  exact wrap64_wf _
theorem both_7 {A B : D} (hA : Good A) (hB : Good B) (n : Int) : ∃ o, Both 7 A B n o := by
  obtain ⟨k0, m0, b0, t0, kids0⟩ := A
  obtain ⟨k1, m1, b1, t1, kids1⟩ := B
  obtain ⟨j, rfl, hj⟩ := hA.kind
  obtain ⟨j', rfl, hj'⟩ := hB.kind
  cases h : isB j 1
  · refine ⟨.pan 2 j, slim_pan, ?_⟩
    intro w0 k m b t a l cap k' m' b' t' a' l' cap' hv hv' w hb0
    obtain ⟨kids, e, hl⟩ := hv.shape
    simp only [D.mk.injEq] at e
    obtain ⟨rfl, rfl, rfl, rfl, rfl⟩ := e
    obtain ⟨kids', e, hl'⟩ := hv'.shape
    simp only [D.mk.injEq] at e
    obtain ⟨rfl, rfl, rfl, rfl, rfl⟩ := e
    exact ⟨try_pan _ _ _ _ _ _ _ _ _ _ _ _ _ _ _ _ (told_0 _) w (fun W hW => arm_divide_pan (w0 := w0) n (fun W _ => div_a hj hj' h W) W (hb0.trans (hW.mono hb0.size))), rt_div_a (by rw [isB_1 hj] at h; have := of_decide_eq_false h; omega) w⟩
  · have hj1 : j = 1 := by rw [isB_1 hj] at h; exact of_decide_eq_true h
    cases h' : isB j' 1
    · refine ⟨.pan 2 j', slim_pan, ?_⟩
      intro w0 k m b t a l cap k' m' b' t' a' l' cap' hv hv' w hb0
      obtain ⟨kids, e, hl⟩ := hv.shape
      simp only [D.mk.injEq] at e
      obtain ⟨rfl, rfl, rfl, rfl, rfl⟩ := e
      obtain ⟨kids', e, hl'⟩ := hv'.shape
      simp only [D.mk.injEq] at e
      obtain ⟨rfl, rfl, rfl, rfl, rfl⟩ := e
      exact ⟨try_pan _ _ _ _ _ _ _ _ _ _ _ _ _ _ _ _ (told_0 _) w (fun W hW => arm_divide_pan n (fun W hW => div_b hj hj' h hv hA.1 h' W hW) W (hb0.trans (hW.mono hb0.size))), by subst hj1; exact rt_div_b (by rw [isB_1 hj'] at h'; have := of_decide_eq_false h'; omega) w⟩
    · have hj1' : j' = 1 := by rw [isB_1 hj'] at h'; exact of_decide_eq_true h'
      by_cases hz : m1 = 0
      · refine ⟨.pan 6 0, slim_pan, ?_⟩
        intro w0 k m b t a l cap k' m' b' t' a' l' cap' hv hv' w hb0
        obtain ⟨kids, e, hl⟩ := hv.shape
        simp only [D.mk.injEq] at e
        obtain ⟨rfl, rfl, rfl, rfl, rfl⟩ := e
        obtain ⟨kids', e, hl'⟩ := hv'.shape
        simp only [D.mk.injEq] at e
        obtain ⟨rfl, rfl, rfl, rfl, rfl⟩ := e
        exact ⟨try_pan _ _ _ _ _ _ _ _ _ _ _ _ _ _ _ _ told_4 w (fun W hW => arm_divide_pan n (fun W hW => div_0 hj hj' h hv hA.1 h' hv' hB.1 hz W hW) W (hb0.trans (hW.mono hb0.size))), by subst hj1 hj1' hz; exact rt_div_0 w⟩
      · refine ⟨.gave (numD (quoI m0 m1)), slim_gave (slim_plain _ _ _ _), ?_⟩
        intro w0 k m b t a l cap k' m' b' t' a' l' cap' hv hv' w hb0
        obtain ⟨kids, e, hl⟩ := hv.shape
        simp only [D.mk.injEq] at e
        obtain ⟨rfl, rfl, rfl, rfl, rfl⟩ := e
        obtain ⟨kids', e, hl'⟩ := hv'.shape
        simp only [D.mk.injEq] at e
        obtain ⟨rfl, rfl, rfl, rfl, rfl⟩ := e
        exact ⟨try_ret _ _ _ _ _ _ _ _ _ _ _ _ _ w (fun W hW => arm_divide (slim_plain _ _ _ _) n (fun W hW => (div_v hj hj' h hv hA.1 h' hv' hB.1 hz W hW).mono fun _ _ ⟨hx, hb⟩ => ⟨_, hx, litQ _ _ 1 _ (by decide) (quoI_wf _ _), hb⟩) W (hb0.trans (hW.mono hb0.size))), by subst hj1 hj1'; exact rt_div_v hz (quoI_wf _ _) w⟩

theorem both_8 {A B : D} (n : Int) : ∃ o, Both 8 A B n o := by
  refine ⟨.pan 1 n, slim_pan, ?_⟩
  intro w0 k m b t a l cap k' m' b' t' a' l' cap' hv hv' w hb0
  exact ⟨try_pan _ _ _ _ _ _ _ _ _ _ _ _ _ _ _ _ (told_2 _) w (fun W hW => act_own _ _ _ _ _ n W), rt_own w⟩
theorem both_9 {A B : D} (n : Int) : ∃ o, Both 9 A B n o := by
  refine ⟨.pan 7 n, slim_pan, ?_⟩
  intro w0 k m b t a l cap k' m' b' t' a' l' cap' hv hv' w hb0
  exact ⟨try_pan _ _ _ _ _ _ _ _ _ _ _ _ _ _ _ _ (told_6 _) w (fun W hW => act_error _ _ _ _ _ n W), rt_error w⟩
theorem both_10 {A B : D} (hA : Good A) (n : Int) : ∃ o, Both 10 A B n o := by
  obtain ⟨k0, m0, b0, t0, kids0⟩ := A
  obtain ⟨j, rfl, hj⟩ := hA.kind
  cases h : lenD (.mk j m0 b0 t0 kids0) with
  | none =>
    refine ⟨.err, slim_err, ?_⟩
    intro w0 k m b t a l cap k' m' b' t' a' l' cap' hv hv' w hb0
    obtain ⟨kids, e, hl⟩ := hv.shape
    simp only [D.mk.injEq] at e
    obtain ⟨rfl, rfl, rfl, rfl, rfl⟩ := e
    exact ⟨try_ret _ _ _ _ _ _ _ _ _ _ _ _ _ w (fun W hW => act_size_no hv hA.2.1 hA.2.2 h _ _ _ _ _ n W (hb0.trans (hW.mono hb0.size))), rt_size_no (fun W => rlength_none hj h W) w⟩
  | some z =>
    refine ⟨.gave (numD z), slim_gave (slim_plain _ _ _ _), ?_⟩
    intro w0 k m b t a l cap k' m' b' t' a' l' cap' hv hv' w hb0
    obtain ⟨kids, e, hl⟩ := hv.shape
    simp only [D.mk.injEq] at e
    obtain ⟨rfl, rfl, rfl, rfl, rfl⟩ := e
    exact ⟨try_ret _ _ _ _ _ _ _ _ _ _ _ _ _ w (fun W hW => act_size hv hA.2.1 hA.2.2 z h (hA.1.lenWf hA.2.1 h) _ _ _ _ _ n W (hb0.trans (hW.mono hb0.size))), rt_size (hA.1.lenWf hA.2.1 h) (fun W => rlength_some hj hl z h W) w⟩
theorem both_none {A B : D} {op : Int} (h : ¬ (1 ≤ op ∧ op ≤ 10)) (n : Int) : ∃ o, Both op A B n o := by
  refine ⟨.err, slim_err, ?_⟩
  intro w0 k m b t a l cap k' m' b' t' a' l' cap' hv hv' w hb0
  exact ⟨try_ret _ _ _ _ _ _ _ _ _ _ _ _ _ w (fun W hW => act_none _ _ _ _ _ n _ h W), rt_none (by omega) (by omega) (by omega) (by omega) (by omega) (by omega) (by omega) (by omega) (by omega) (by omega) w⟩
theorem both_any {A B : D} (hA : Good A) (hB : Good B) (op n : Int) : ∃ o, Both op A B n o := by
  by_cases h : 1 ≤ op ∧ op ≤ 10
  · obtain ⟨i, rfl⟩ : ∃ i : Nat, op = i := ⟨op.toNat, by omega⟩
    have hi : i = 1 ∨ i = 2 ∨ i = 3 ∨ i = 4 ∨ i = 5 ∨ i = 6 ∨ i = 7 ∨ i = 8 ∨ i = 9 ∨ i = 10 := by omega
    rcases hi with rfl | rfl | rfl | rfl | rfl | rfl | rfl | rfl | rfl | rfl
    · exact both_1 hA n
    · exact both_2 hA n
    · exact both_3 hA n
    · exact both_4 hA n
    · exact both_5 hA n
    · exact both_6 hA hB n
    · exact both_7 hA hB n
    · exact both_8 n
    · exact both_9 n
    · exact both_10 hA n
  · exact both_none h n
end Go.Proofs.YteplhhlgceppkabGreat
