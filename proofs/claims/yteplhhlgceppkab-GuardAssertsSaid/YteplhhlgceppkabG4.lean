/- Contracts of the reference's Valid and Same. -/
import Derived.Test.YteplhhlgceppkabG3
namespace Go.Proofs.Yteplhhlgceppkab
open Go Go.RowKit Go.ChangeShapes Go.WideShapes

theorem Rep.five {w : World} {v : Value} {d : D} (h : Rep w v d) : ∃ c0 c1 c2 c3 c4, v = .agg #[c0, c1, c2, c3, c4] := by
  obtain ⟨k, m, b, t, a, cap, g, o, c, kids, e, _⟩ := h.inv
  exact ⟨_, _, _, _, _, e⟩

theorem valid_any {w0 : World} {v : Value} {d : D} (h : Rep w0 v d) (w : World) (hb : Below w0.heap.size w0 w) :
    Calls Try.prog 13 #[v] w fun x w' => ∃ r : Bool, x = .returned (.bool r) ∧ (r = true → Slim d ∧ Right d ∧ d.parts ≤ 4096) ∧ Below w.heap.size w w' := by
  have HC := Lib.hid (count_any h)
  have HR := Lib.hid (right_any h)
  obtain ⟨c0, c1, c2, c3, c4, rfl⟩ := h.five
  clear h
  obtain ⟨W1, hW1⟩ : ∃ W1, W1 = w.alloc (.cells #[c0, c1, c2, c3, c4] 25) := ⟨_, rfl⟩
  have hbW : Below w.heap.size w W1 := by rw [hW1]; exact (Below.refl _ _).alloc (Nat.le_refl _) _
  have hzW : w.heap.size < W1.heap.size := by rw [hW1]; simp
  have hB0 : Below w0.heap.size w0 W1 := hb.trans (hbW.mono hb.size)
  have u0 : W1.cell? ⟨w.heap.size, 0, none⟩ = some c0 := by rw [hW1]; go_cell
  have u1 : W1.cell? ⟨w.heap.size, 1, none⟩ = some c1 := by rw [hW1]; go_cell
  have u2 : W1.cell? ⟨w.heap.size, 2, none⟩ = some c2 := by rw [hW1]; go_cell
  have u3 : W1.cell? ⟨w.heap.size, 3, none⟩ = some c3 := by rw [hW1]; go_cell
  have u4 : W1.cell? ⟨w.heap.size, 4, none⟩ = some c4 := by rw [hW1]; go_cell
  go_enter Try.func13, Try.ntmps13
  go_upto_region 1 with fail
  rw [← hW1]
  clear hW1
  go_wp2_with fail
  refine (HC.out 1 4096 W1 hB0 (by omega) (by omega) (by omega) (by omega)).mono ?_
  rintro x w2 ⟨n, m, rfl, hor, hm0, hm1, hb2⟩
  have hB2 : Below w0.heap.size w0 w2 := hB0.trans (hb2.mono hB0.size)
  have hbw2 : Below w.heap.size w w2 := hbW.trans (hb2.mono hbW.size)
  have u0 : w2.cell? ⟨w.heap.size, 0, none⟩ = some c0 := (hb2.cell (p := ⟨w.heap.size, 0, none⟩) hzW).trans u0
  have u1 : w2.cell? ⟨w.heap.size, 1, none⟩ = some c1 := (hb2.cell (p := ⟨w.heap.size, 1, none⟩) hzW).trans u1
  have u2 : w2.cell? ⟨w.heap.size, 2, none⟩ = some c2 := (hb2.cell (p := ⟨w.heap.size, 2, none⟩) hzW).trans u2
  have u3 : w2.cell? ⟨w.heap.size, 3, none⟩ = some c3 := (hb2.cell (p := ⟨w.heap.size, 3, none⟩) hzW).trans u3
  have u4 : w2.cell? ⟨w.heap.size, 4, none⟩ = some c4 := (hb2.cell (p := ⟨w.heap.size, 4, none⟩) hzW).trans u4
  rcases hor with ⟨hn1, hn2, hsl, hpp⟩ | rfl
  · have e1 : decide (n ≤ 4096) = true := by simpa using hn2
    cases e2 : decide (m ≤ 16) with
    | false =>
      go_wp2_with fail
      go_ret
      exact ⟨false, rfl, fun h => (by cases h), hbw2⟩
    | true =>
      go_wp2_with fail
      refine (HR.out w2 hB2).mono ?_
      rintro x w3 ⟨r, rfl, hr, hb3⟩
      have hbw3 : Below w.heap.size w w3 := hbw2.trans (hb3.mono hbw2.size)
      have HRR := Lib.hid hr
      clear hr
      go_wp2_with fail
      go_ret
      exact ⟨r, rfl, fun h => ⟨hsl, HRR.out h, by have := hpp.out; omega⟩, hbw3⟩
  · go_wp2_with fail
    go_ret
    exact ⟨false, rfl, fun h => (by cases h), hbw2⟩

theorem keep12 {W w1 w2 : World} {B g g' p p' : Nat} {s1 s2 v0 v1 v2 v3 v4 z0 z1 z2 z3 z4 : Value} (hB : B + 2 ≤ W.heap.size) (hg : g < W.heap.size) (hg' : g' < W.heap.size)
    (h : w1.cell? ⟨B, 4, none⟩ = some s1 ∧ w1.cell? ⟨B + 1, 4, none⟩ = some s2 ∧ w1.cell? ⟨g, p, none⟩ = some v0 ∧ w1.cell? ⟨g, p + 1, none⟩ = some v1 ∧ w1.cell? ⟨g, p + 2, none⟩ = some v2 ∧ w1.cell? ⟨g, p + 3, none⟩ = some v3 ∧ w1.cell? ⟨g, p + 4, none⟩ = some v4 ∧ w1.cell? ⟨g', p', none⟩ = some z0 ∧ w1.cell? ⟨g', p' + 1, none⟩ = some z1 ∧ w1.cell? ⟨g', p' + 2, none⟩ = some z2 ∧ w1.cell? ⟨g', p' + 3, none⟩ = some z3 ∧ w1.cell? ⟨g', p' + 4, none⟩ = some z4 ∧ Below W.heap.size W w1) (hb : Below w1.heap.size w1 w2) :
    w2.cell? ⟨B, 4, none⟩ = some s1 ∧ w2.cell? ⟨B + 1, 4, none⟩ = some s2 ∧ w2.cell? ⟨g, p, none⟩ = some v0 ∧ w2.cell? ⟨g, p + 1, none⟩ = some v1 ∧ w2.cell? ⟨g, p + 2, none⟩ = some v2 ∧ w2.cell? ⟨g, p + 3, none⟩ = some v3 ∧ w2.cell? ⟨g, p + 4, none⟩ = some v4 ∧ w2.cell? ⟨g', p', none⟩ = some z0 ∧ w2.cell? ⟨g', p' + 1, none⟩ = some z1 ∧ w2.cell? ⟨g', p' + 2, none⟩ = some z2 ∧ w2.cell? ⟨g', p' + 3, none⟩ = some z3 ∧ w2.cell? ⟨g', p' + 4, none⟩ = some z4 ∧ Below W.heap.size W w2 := by
  obtain ⟨h1, h2, a0, a1, a2, a3, a4, b0, b1, b2, b3, b4, hB1⟩ := h
  have hz := hB1.size
  exact ⟨(hb.cell (p := ⟨B, 4, none⟩) (by simp; omega)).trans h1, (hb.cell (p := ⟨B + 1, 4, none⟩) (by simp; omega)).trans h2, (hb.cell (p := ⟨g, _, none⟩) (by simp; omega)).trans a0, (hb.cell (p := ⟨g, _, none⟩) (by simp; omega)).trans a1, (hb.cell (p := ⟨g, _, none⟩) (by simp; omega)).trans a2, (hb.cell (p := ⟨g, _, none⟩) (by simp; omega)).trans a3, (hb.cell (p := ⟨g, _, none⟩) (by simp; omega)).trans a4,
    (hb.cell (p := ⟨g', _, none⟩) (by simp; omega)).trans b0, (hb.cell (p := ⟨g', _, none⟩) (by simp; omega)).trans b1, (hb.cell (p := ⟨g', _, none⟩) (by simp; omega)).trans b2, (hb.cell (p := ⟨g', _, none⟩) (by simp; omega)).trans b3, (hb.cell (p := ⟨g', _, none⟩) (by simp; omega)).trans b4, hB1.trans (hb.mono hB1.size)⟩

theorem held12 {W w1 : World} {B g g' p p' : Nat} {s1 s2 v0 v1 v2 v3 v4 z0 z1 z2 z3 z4 : Value} (h : w1.cell? ⟨B, 4, none⟩ = some s1 ∧ w1.cell? ⟨B + 1, 4, none⟩ = some s2 ∧ w1.cell? ⟨g, p, none⟩ = some v0 ∧ w1.cell? ⟨g, p + 1, none⟩ = some v1 ∧ w1.cell? ⟨g, p + 2, none⟩ = some v2 ∧ w1.cell? ⟨g, p + 3, none⟩ = some v3 ∧ w1.cell? ⟨g, p + 4, none⟩ = some v4 ∧ w1.cell? ⟨g', p', none⟩ = some z0 ∧ w1.cell? ⟨g', p' + 1, none⟩ = some z1 ∧ w1.cell? ⟨g', p' + 2, none⟩ = some z2 ∧ w1.cell? ⟨g', p' + 3, none⟩ = some z3 ∧ w1.cell? ⟨g', p' + 4, none⟩ = some z4 ∧ Below W.heap.size W w1) : Below W.heap.size W w1 := by
  obtain ⟨h1, h2, a0, a1, a2, a3, a4, b0, b1, b2, b3, b4, hB1⟩ := h
  exact hB1

set_option maxHeartbeats 1600000 in
/-- Two that are one Datum are the same. -/
theorem same_self {w0 : World} {v : Value} {d : D} (h : Rep w0 v d) : ∀ (v' : Value), Rep w0 v' d → ∀ (w : World), Below w0.heap.size w0 w →
    Calls Try.prog 12 #[v, v'] w fun x w' => x = .returned (.bool true) ∧ Below w.heap.size w w' := by
  induction h with
  | mk k m b t a cap g o c kids hw ha hc hk ih =>
    intro v' h' w hb
    obtain ⟨k', m', b', t', a', cap', g', o', c', kids', rfl, e, _, ha', hc', hk'⟩ := h'.inv
    simp only [D.mk.injEq] at e
    obtain ⟨rfl, rfl, rfl, rfl, rfl⟩ := e
    have HI := Lib.hid ih
    have HA := Lib.hid ha
    have HC := Lib.hid hc
    have HA' := Lib.hid ha'
    have HC' := Lib.hid hc'
    have HK' := Lib.hid hk'
    clear ih ha hc hk hw ha' hc' hk' h'
    obtain ⟨W1, hW1⟩ : ∃ W1, W1 = (w.alloc (.cells #[.int .i64 k, .int .i64 m, .int .u64 b, .string t, .slice a kids.length cap] 25)).alloc (.cells #[.int .i64 k, .int .i64 m, .int .u64 b, .string t, .slice a' kids.length cap'] 25) := ⟨_, rfl⟩
    have hbW : Below w.heap.size w W1 := by rw [hW1]; go_grown
    have hzW : w.heap.size + 2 ≤ W1.heap.size := by rw [hW1]; simp
    have u0 : W1.cell? ⟨w.heap.size, 0, none⟩ = some (.int .i64 k) := by rw [hW1]; go_cell
    have u1 : W1.cell? ⟨w.heap.size, 1, none⟩ = some (.int .i64 m) := by rw [hW1]; go_cell
    have u2 : W1.cell? ⟨w.heap.size, 2, none⟩ = some (.int .u64 b) := by rw [hW1]; go_cell
    have u3 : W1.cell? ⟨w.heap.size, 3, none⟩ = some (.string t) := by rw [hW1]; go_cell
    have u4 : W1.cell? ⟨w.heap.size, 4, none⟩ = some (.slice a kids.length cap) := by rw [hW1]; go_cell
    have x0 : W1.cell? ⟨w.heap.size + 1, 0, none⟩ = some (.int .i64 k) := by rw [hW1]; go_cell
    have x1 : W1.cell? ⟨w.heap.size + 1, 1, none⟩ = some (.int .i64 m) := by rw [hW1]; go_cell
    have x2 : W1.cell? ⟨w.heap.size + 1, 2, none⟩ = some (.int .u64 b) := by rw [hW1]; go_cell
    have x3 : W1.cell? ⟨w.heap.size + 1, 3, none⟩ = some (.string t) := by rw [hW1]; go_cell
    have x4 : W1.cell? ⟨w.heap.size + 1, 4, none⟩ = some (.slice a' kids.length cap') := by rw [hW1]; go_cell
    have hB0 : Below w0.heap.size w0 W1 := hb.trans (hbW.mono hb.size)
    go_enter Try.func12, Try.ntmps12
    go_upto_region 1 with fail
    rw [← hW1]
    clear hW1
    go_wp2_with fail
    go_loopw [44] (fun i wr => ∃ j : Nat, j ≤ kids.length ∧ i = .int .i64 j ∧ Below W1.heap.size W1 wr) (fun i _ => kids.length - (intOf i).toNat)
    case atStart => exact ⟨0, by omega, rfl, Below.refl _ _⟩
    case round =>
      obtain ⟨j, hj, rfl, hbr⟩ := hrel
      by_cases hlt : j < kids.length
      · obtain ⟨rfl, hg, hcp, hcm⟩ := HA.out (by omega)
        obtain ⟨rfl, hg', hcp', hcm'⟩ := HA'.out (by omega)
        have hzr := hbr.size
        have p4 : wr.cell? ⟨w.heap.size, 4, none⟩ = some (.slice (some ⟨g, o, none⟩) kids.length cap) := (hbr.cell (p := ⟨w.heap.size, 4, none⟩) (by simp; omega)).trans u4
        have y4 : wr.cell? ⟨w.heap.size + 1, 4, none⟩ = some (.slice (some ⟨g', o', none⟩) kids.length cap') := (hbr.cell (p := ⟨w.heap.size + 1, 4, none⟩) (by simp; omega)).trans x4
        have hB1 : Below w0.heap.size w0 wr := hB0.trans (hbr.mono hB0.size)
        have hzg := hB1.size
        obtain ⟨q0, q1, q2, q3, q4⟩ := (HC.out.below hg hB1) j hlt
        obtain ⟨r0, r1, r2, r3, r4⟩ := (HC'.out.below hg' hB1) j hlt
        have hx : kids[j]? = some kids[j] := List.getElem?_eq_getElem hlt
        have HX := Lib.hid (HI.out j _ hx (five c' j) (HK'.out j _ hx))
        clear hx
        unfold five at HX
        generalize c j 0 = v0 at q0 HX
        generalize c j 1 = v1 at q1 HX
        generalize c j 2 = v2 at q2 HX
        generalize c j 3 = v3 at q3 HX
        generalize c j 4 = v4 at q4 HX
        generalize c' j 0 = z0 at r0 HX
        generalize c' j 1 = z1 at r1 HX
        generalize c' j 2 = z2 at r2 HX
        generalize c' j 3 = z3 at r3 HX
        generalize c' j 4 = z4 at r4 HX
        have HX2 := Lib.hid (fun w' (h : Below wr.heap.size wr w') => HX.out w' (hB1.trans (h.mono hzg)))
        clear HX
        have hK1 : w.heap.size + 2 ≤ wr.heap.size := by omega
        have hK2 : g < wr.heap.size := by omega
        have hK3 : g' < wr.heap.size := by omega
        clear u0 u1 u2 u3 u4 x0 x1 x2 x3 x4
        go_wp2_with fail
        go_region_held3 (fun w' => w'.cell? ⟨w.heap.size, 4, none⟩ = some (.slice (some ⟨g, o, none⟩) kids.length cap) ∧ w'.cell? ⟨w.heap.size + 1, 4, none⟩ = some (.slice (some ⟨g', o', none⟩) kids.length cap') ∧ w'.cell? ⟨g, o + j * 5, none⟩ = some v0 ∧ w'.cell? ⟨g, o + j * 5 + 1, none⟩ = some v1 ∧ w'.cell? ⟨g, o + j * 5 + 2, none⟩ = some v2 ∧ w'.cell? ⟨g, o + j * 5 + 3, none⟩ = some v3 ∧ w'.cell? ⟨g, o + j * 5 + 4, none⟩ = some v4 ∧ w'.cell? ⟨g', o' + j * 5, none⟩ = some z0 ∧ w'.cell? ⟨g', o' + j * 5 + 1, none⟩ = some z1 ∧ w'.cell? ⟨g', o' + j * 5 + 2, none⟩ = some z2 ∧ w'.cell? ⟨g', o' + j * 5 + 3, none⟩ = some z3 ∧ w'.cell? ⟨g', o' + j * 5 + 4, none⟩ = some z4 ∧ Below wr.heap.size wr w')
          (first | (exact ⟨p4, y4, q0, q1, q2, q3, q4, r0, r1, r2, r3, r4, by go_grown⟩) | (exact keep12 hK1 hK2 hK3 (by assumption) (by assumption)) | fail)
          (try (go_at_call 12; refine (HX2.out _ (held12 (by assumption))).mono ?_; rintro x w2 ⟨rfl, hb2⟩))
        have hq := held12 (by assumption)
        go_wp2_with fail
        go_roundw
        case rel => exact ⟨j + 1, by omega, by go_num, hbr.trans (hq.mono hzr)⟩
        case measure => simp [intOf]; omega
      · obtain rfl : j = kids.length := by omega
        have hbw2 : Below w.heap.size w wr := hbW.trans (hbr.mono hbW.size)
        go_wp2_with fail
        go_ret
        exact ⟨rfl, hbw2⟩
end Go.Proofs.Yteplhhlgceppkab
