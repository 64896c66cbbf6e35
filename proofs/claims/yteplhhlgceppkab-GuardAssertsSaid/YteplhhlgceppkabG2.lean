/- Contract of the reference's count: the parts of a value, as far as they are few. -/
import Derived.Test.YteplhhlgceppkabG1
namespace Go.Proofs.Yteplhhlgceppkab
open Go Go.RowKit Go.ChangeShapes Go.WideShapes

/-- No row of parts is long. -/
inductive Slim : D → Prop
  | mk (k m b : Int) (t : ByteArray) (kids : List D) (hl : kids.length ≤ 4096) (hk : ∀ x ∈ kids, Slim x) : Slim (.mk k m b t kids)
theorem Slim.inv {k m b : Int} {t : ByteArray} {kids : List D} (h : Slim (.mk k m b t kids)) : kids.length ≤ 4096 ∧ ∀ x ∈ kids, Slim x := by
  cases h with
  | mk _ _ _ _ _ hl hk => exact ⟨hl, hk⟩

theorem count_early (v : Value) (deep left : Int) (w : World) (h : decide (16 < deep) = true ∨ (decide (16 < deep) = false ∧ decide (left ≤ 0) = true)) (hv : ∃ c0 c1 c2 c3 c4, v = .agg #[c0, c1, c2, c3, c4]) :
    Calls Try.prog 27 #[v, .int .i64 deep, .int .i64 left] w fun x w' => x = .returned (.tuple #[.int .i64 4097, .int .i64 deep]) ∧ Below w.heap.size w w' := by
  obtain ⟨c0, c1, c2, c3, c4, rfl⟩ := hv
  go_enter Try.func27, Try.ntmps27
  rcases h with h | ⟨h1, h2⟩
  · go_wp2_with fail
    go_ret2
    exact ⟨rfl, by go_grown⟩
  · go_wp2_with fail
    go_ret2
    exact ⟨rfl, by go_grown⟩

set_option maxHeartbeats 1600000 in
theorem count_any {w0 : World} {v : Value} {d : D} (h : Rep w0 v d) : ∀ (deep left : Int) (w : World), Below w0.heap.size w0 w → 0 ≤ deep → deep ≤ 17 → -9000 ≤ left → left ≤ 4096 →
    Calls Try.prog 27 #[v, .int .i64 deep, .int .i64 left] w fun x w' => ∃ n m : Int, x = .returned (.tuple #[.int .i64 n, .int .i64 m]) ∧ ((1 ≤ n ∧ n ≤ left ∧ Slim d ∧ Hid (n = (d.parts : Int))) ∨ n = 4097) ∧ 0 ≤ m ∧ m ≤ 17 ∧ Below w.heap.size w w' := by
  induction h with
  | mk k m b t a cap g o c kids hw ha hc hk ih =>
    intro deep left w hb hd0 hd1 hl0 hl1
    by_cases h1 : 16 < deep
    · exact (count_early _ deep left w (Or.inl (by simpa using h1)) ⟨_, _, _, _, _, rfl⟩).mono fun x w' ⟨hx, hb'⟩ => ⟨4097, deep, hx, Or.inr rfl, hd0, hd1, hb'⟩
    by_cases h2 : left ≤ 0
    · exact (count_early _ deep left w (Or.inr ⟨by simpa using h1, by simpa using h2⟩) ⟨_, _, _, _, _, rfl⟩).mono fun x w' ⟨hx, hb'⟩ => ⟨4097, deep, hx, Or.inr rfl, hd0, hd1, hb'⟩
    have e1 : decide (16 < deep) = false := by simpa using h1
    have e2 : decide (left ≤ 0) = false := by simpa using h2
    have HI := Lib.hid ih
    have HA := Lib.hid ha
    have HC := Lib.hid hc
    clear ih ha hc hk hw
    obtain ⟨W1, hW1⟩ : ∃ W1, W1 = w.alloc (.cells #[.int .i64 k, .int .i64 m, .int .u64 b, .string t, .slice a kids.length cap] 25) := ⟨_, rfl⟩
    have hbW : Below w.heap.size w W1 := by rw [hW1]; exact (Below.refl _ _).alloc (Nat.le_refl _) _
    have hzW : w.heap.size + 1 ≤ W1.heap.size := by rw [hW1]; simp
    have hc4 : W1.cell? ⟨w.heap.size, 4, none⟩ = some (.slice a kids.length cap) := by rw [hW1]; go_cell
    have hB0 : Below w0.heap.size w0 W1 := hb.trans (hbW.mono hb.size)
    go_enter Try.func27, Try.ntmps27
    go_wp2_with fail
    rw [← hW1]
    clear hW1
    go_loopw [8, 9, 24] (fun n' mo i wr => ∃ (k : Nat) (nn mm : Int), k ≤ kids.length ∧ i = .int .i64 k ∧ n' = .int .i64 nn ∧ mo = .int .i64 mm ∧ (k : Int) + 1 ≤ nn ∧ nn ≤ left ∧ 0 ≤ mm ∧ mm ≤ 16 ∧ Below W1.heap.size W1 wr ∧ Hid (∀ j, j < k → ∀ x, kids[j]? = some x → Slim x) ∧ Hid (nn = 1 + (D.partsL (kids.take k) : Int))) (fun _ _ i _ => kids.length - (intOf i).toNat)
    case atStart => exact ⟨0, 1, deep, by omega, rfl, rfl, rfl, by omega, by omega, by omega, by omega, Below.refl _ _, fun j hj => absurd hj (by omega), (show (1 : Int) = 1 + (D.partsL [] : Int) from rfl)⟩
    case round =>
      obtain ⟨j, nn, mm, hj, rfl, rfl, rfl, hn0, hn1, hm0, hm1, hbr, hS, hP⟩ := hrel
      by_cases hlt : j < kids.length
      · obtain ⟨rfl, hg, hcp, hcm⟩ := HA.out (by omega)
        have hc4' : wr.cell? ⟨w.heap.size, 4, none⟩ = some (.slice (some ⟨g, o, none⟩) kids.length cap) := (hbr.cell (p := ⟨w.heap.size, 4, none⟩) hzW).trans hc4
        have hB1 : Below w0.heap.size w0 wr := hB0.trans (hbr.mono hB0.size)
        obtain ⟨q0, q1, q2, q3, q4⟩ := (HC.out.below hg hB1) j hlt
        have hx : kids[j]? = some kids[j] := List.getElem?_eq_getElem hlt
        have HX := Lib.hid (HI.out j _ hx)
        have HP2 := Lib.hid (D.partsL_take hx)
        have HS2 := Lib.hid (show Slim kids[j] → ∀ i, i < j + 1 → ∀ x, kids[i]? = some x → Slim x from fun h i hi x hx' => by
          by_cases e : i = j
          · subst e; rw [hx] at hx'; rw [← Option.some.inj hx']; exact h
          · exact hS.out i (by omega) x hx')
        clear hS hx
        unfold five at HX
        generalize c j 0 = v0 at q0 HX
        generalize c j 1 = v1 at q1 HX
        generalize c j 2 = v2 at q2 HX
        generalize c j 3 = v3 at q3 HX
        generalize c j 4 = v4 at q4 HX
        generalize kids[j] = kj at HX HP2 HS2
        go_wp2_with fail
        refine (HX.out (deep + 1) (left - nn) wr hB1 (by omega) (by omega) (by omega) (by omega)).mono ?_
        rintro x w2 ⟨n', m', rfl, hor, hm2, hm3, hb2⟩
        have hbr2 : Below W1.heap.size W1 w2 := hbr.trans (hb2.mono hbr.size)
        have hbw2 : Below w.heap.size w w2 := hbW.trans (hbr2.mono hbW.size)
        clear HX hb2 hbr q0 q1 q2 q3 q4 hc4'
        rcases hor with ⟨hn2, hn3, hsl, hpp⟩ | rfl
        · have e3 : decide (left < nn + n') = false := by simp; omega
          have HS3 := Lib.hid (HS2.out hsl)
          clear HS2
          go_wp2_with fail
          · go_ret2
            exact ⟨4097, m', rfl, Or.inr rfl, by omega, by omega, hbw2⟩
          · go_roundw
            case rel => exact ⟨j + 1, _, _, by omega, by go_num, rfl, rfl, by omega, by omega, by split <;> omega, by first | omega | (split <;> omega), hbr2, HS3, Lib.hid (by rw [HP2.out, hP.out, hpp.out]; omega)⟩
            case measure => simp [intOf]; omega
        · have e3 : decide (left < nn + 4097) = true := by simp; omega
          go_wp2_with fail
          · go_ret2
            exact ⟨4097, m', rfl, Or.inr rfl, by omega, by omega, hbw2⟩
          · go_ret2
            exact ⟨4097, mm, rfl, Or.inr rfl, by omega, by omega, hbw2⟩
      · obtain rfl : j = kids.length := by omega
        have hSl : Slim (.mk k m b t kids) := .mk _ _ _ _ _ (by omega) (fun x hx => by
          obtain ⟨i, hi, e⟩ := List.getElem_of_mem hx
          exact hS.out i hi x (by rw [← e]; exact List.getElem?_eq_getElem hi))
        have hbw2 : Below w.heap.size w wr := hbW.trans (hbr.mono hbW.size)
        go_wp2_with fail
        go_ret2
        exact ⟨nn, mm, rfl, Or.inl ⟨by omega, hn1, hSl, Lib.hid (by rw [hP.out, List.take_length]; simp [D.parts])⟩, hm0, by omega, hbw2⟩

/-- As its kind has it, and so all parts. -/
def okTop (k m b : Int) (t : ByteArray) (n : Nat) : Prop :=
  0 ≤ k ∧ k ≤ 13 ∧ (k = 9 → n = 2) ∧ (k = 11 → n = 1) ∧ (k = 8 ∨ k = 9 ∨ k = 11 ∨ n = 0) ∧ t.size ≤ 65535 ∧
  ((k = 1 ∨ k = 2 ∨ k = 6 ∨ k = 10 ∨ k = 11) ∨ m = 0) ∧ (k = 3 ∨ b = 0) ∧ ((k = 4 ∨ k = 5 ∨ k = 7 ∨ k = 10) ∨ t.toList = []) ∧ (k = 6 → m = 0 ∨ m = 1) ∧ (k = 11 → 1 ≤ m)
inductive Right : D → Prop
  | mk (k m b : Int) (t : ByteArray) (kids : List D) (hl : okTop k m b t kids.length) (hk : ∀ x ∈ kids, Right x) : Right (.mk k m b t kids)
theorem Right.inv {k m b : Int} {t : ByteArray} {kids : List D} (h : Right (.mk k m b t kids)) : okTop k m b t kids.length ∧ ∀ x ∈ kids, Right x := by
  cases h with
  | mk _ _ _ _ _ hl hk => exact ⟨hl, hk⟩
end Go.Proofs.Yteplhhlgceppkab
