/- Shape: look: a value's parts, how deep they lie, and whether each is as its kind has it. -/
import Derived.Test.YtecdniimikfbhaaGreatDoorV1
namespace Go.Proofs.YtecdniimikfbhaaGreatDoor
open Go Go.RowKit Go.ChangeShapes Go.WideShapes

mutual
/-- How deep a value is. -/
def D.tall : D → Nat
  | .mk _ _ _ _ l => 1 + tallL l
def D.tallL : List D → Nat
  | [] => 0
  | x :: l => max (D.tall x) (D.tallL l)
end
theorem D.tallL_take {l : List D} {j : Nat} {x : D} (h : l[j]? = some x) : D.tallL (l.take (j + 1)) = max (D.tallL (l.take j)) (D.tall x) := by
  induction l generalizing j with
  | nil => simp at h
  | cons y l ih =>
    cases j with
    | zero => simp at h; subst h; simp [D.tallL]
    | succ j =>
      simp only [List.getElem?_cons_succ] at h
      rw [List.take_succ_cons, List.take_succ_cons, D.tallL, D.tallL, ih h, Nat.max_assoc]
/-- Few parts, not deep, each as its kind has it: from a count and a depth on. -/
def FitsIn (n deep : Int) (d : D) : Prop := n + d.parts ≤ 4096 ∧ deep + d.tall ≤ 17 ∧ Right d
/-- The same of the first of some parts. -/
def FitsL (n deep : Int) (l : List D) : Prop := n + D.partsL l ≤ 4096 ∧ deep + D.tallL l ≤ 17 ∧ ∀ x ∈ l, Right x
theorem FitsL.nil {n deep : Int} (h : n ≤ 4096) (hd : deep ≤ 17) : FitsL n deep [] := ⟨by simpa [D.partsL] using h, by simpa [D.tallL] using hd, fun x hx => by cases hx⟩
theorem FitsL.snoc {n deep : Int} {l : List D} {j : Nat} {x : D} (hx : l[j]? = some x) (h : FitsL n deep (l.take j)) (hf : FitsIn (n + D.partsL (l.take j)) deep x) : FitsL n deep (l.take (j + 1)) := by
  refine ⟨?_, ?_, ?_⟩
  · rw [D.partsL_take hx]; have := hf.1; push_cast; omega
  · rw [D.tallL_take hx]; have := hf.2.1; have := h.2.1; omega
  · intro y hy
    rw [List.take_succ_eq_append_getElem (List.getElem?_eq_some_iff.1 hx).1] at hy
    rcases List.mem_append.1 hy with hy | hy
    · exact h.2.2 y hy
    · rw [List.mem_singleton, (List.getElem?_eq_some_iff.1 hx).2] at hy
      rw [hy]
      exact hf.2.2
theorem FitsL.fails {n deep : Int} {l : List D} {j : Nat} {x : D} (hx : l[j]? = some x) (hf : ¬ FitsIn (n + D.partsL (l.take j)) deep x) : ¬ FitsL n deep l := fun h => by
  apply hf
  refine ⟨?_, ?_, ?_⟩
  · have h1 := h.1
    have h2 : D.partsL (l.take (j + 1)) ≤ D.partsL l := by
      have := D.partsL_append (l.take (j + 1)) (l.drop (j + 1))
      rw [List.take_append_drop] at this
      omega
    rw [D.partsL_take hx] at h2
    omega
  · have h1 := h.2.1
    have h2 : D.tall x ≤ D.tallL l := by
      clear h h1 hf n deep
      induction l generalizing j with
      | nil => simp at hx
      | cons y l ih =>
        cases j with
        | zero => simp at hx; subst hx; simp only [D.tallL]; omega
        | succ j => simp only [List.getElem?_cons_succ] at hx; have := ih hx; simp only [D.tallL]; omega
    omega
  · exact h.2.2 x (List.mem_of_getElem? hx)
theorem fitsIn_mk {n deep : Int} {k m b : Int} {t : ByteArray} {kids : List D} : FitsIn n deep (.mk k m b t kids) ↔ okTop k m b t kids.length ∧ FitsL (n + 1) (deep + 1) kids := by
  unfold FitsIn FitsL
  simp only [D.parts, D.tall]
  constructor
  · rintro ⟨h1, h2, h3⟩
    exact ⟨h3.inv.1, by omega, by omega, h3.inv.2⟩
  · rintro ⟨h1, h2, h3, h4⟩
    exact ⟨by omega, by omega, .mk _ _ _ _ _ h1 h4⟩

/-- What stands behind a call of look. -/
def LookPost (deep n : Int) (d : D) (P Q : Nat) (w : World) (x : Ending) (w' : World) : Prop :=
  ∃ (r : Bool) (n' q' : Int), x = .returned (.bool r) ∧ (r = true ↔ FitsIn n deep d) ∧ (r = true → n' = n + d.parts) ∧ Row w' P #[.int .i64 n'] 3 ∧ Row w' Q #[.int .i64 q'] 3 ∧ w.heap.size ≤ w'.heap.size ∧ (∀ i, i < w.heap.size → i ≠ P → i ≠ Q → w'.heap[i]? = w.heap[i]?) ∧ ∀ B w1, Below B w1 w → B ≤ P → B ≤ Q → Below B w1 w'
theorem LookPost.mk {deep n : Int} {d : D} {P Q : Nat} {w : World} {x : Ending} {w' : World} (r : Bool) (n' q' : Int) (h : x = .returned (.bool r) ∧ (r = true ↔ FitsIn n deep d) ∧ (r = true → n' = n + d.parts) ∧ Row w' P #[.int .i64 n'] 3 ∧ Row w' Q #[.int .i64 q'] 3 ∧ w.heap.size ≤ w'.heap.size ∧ (∀ i, i < w.heap.size → i ≠ P → i ≠ Q → w'.heap[i]? = w.heap[i]?) ∧ ∀ B w1, Below B w1 w → B ≤ P → B ≤ Q → Below B w1 w') : LookPost deep n d P Q w x w' := ⟨r, n', q', h⟩
/-- What look promises of a value. -/
def LookSays (w0 : World) (v : Value) (d : D) : Prop :=
  ∀ (deep n q : Int) (P Q : Nat) (w : World), P ≠ Q → w0.heap.size ≤ P → w0.heap.size ≤ Q → Below w0.heap.size w0 w → 0 ≤ deep → deep ≤ 17 → 0 ≤ n → n ≤ 4096 → Row w P #[.int .i64 n] 3 → Row w Q #[.int .i64 q] 3 →
    Calls Tryz.prog 30 #[v, .int .i64 deep, .pointer (some ⟨P, 0, none⟩), .pointer (some ⟨Q, 0, none⟩)] w fun x w' => LookPost deep n d P Q w x w'

set_option maxRecDepth 100000 in
set_option maxHeartbeats 3200000 in
theorem look_any {w0 : World} {v : Value} {d : D} (h : Rep w0 v d) : LookSays w0 v d := by
  induction h with
  | mk k m b t a cap g o c kids hw ha hc hk ih =>
    intro deep n q P Q w hPQ hP0 hQ0 hb hd0 hd1 hn0 hn1 hP hQ
    have HI := Lib.hid ih
    have HA := Lib.hid ha
    have HC := Lib.hid hc
    have HK := Lib.hid hk
    clear ih ha hc hk hw
    have hFM := Lib.hid (fitsIn_mk (n := n) (deep := deep) (k := k) (m := m) (b := b) (t := t) (kids := kids))
    obtain ⟨W1, hW1, hb1, hx1⟩ := boxes1r w (.int .i64 k) (.int .i64 m) (.int .u64 b) (.string t) (.slice a kids.length cap)
    have hP1 := hP.later hb1
    have hQ1 := hQ.later hb1
    have hltP := hP.lt
    have hltQ := hQ.lt
    have hz0 := hb.size
    have u0 : W1.cell? ⟨P, 0, none⟩ = some (.int .i64 n) := hP1.cell 0 rfl
    have fu0 := hP1.thaw 0
    have v0 : W1.cell? ⟨Q, 0, none⟩ = some (.int .i64 q) := hQ1.cell 0 rfl
    have fv0 := hQ1.thaw 0
    have hQP := hPQ.symm
    obtain ⟨q2, hq2⟩ : ∃ q2, q2 = (if q < deep then deep else q) := ⟨_, rfl⟩
    obtain ⟨W2, hW2⟩ : ∃ W2, W2 = (W1.setCell ⟨P, 0, none⟩ (.int .i64 (n + 1))).setCell ⟨Q, 0, none⟩ (.int .i64 q2) := ⟨_, rfl⟩
    have hx2 : Row W2 w.heap.size #[.int .i64 k, .int .i64 m, .int .u64 b, .string t, .slice a kids.length cap] 25 := by rw [hW2]; exact (hx1.other _ _ (by omega)).other _ _ (by omega)
    have hP2 : Row W2 P #[.int .i64 (n + 1)] 3 := by rw [hW2]; exact (hP1.set 0 _).other _ _ hPQ
    have hQ2 : Row W2 Q #[.int .i64 q2] 3 := by rw [hW2]; exact (hQ1.other _ _ hQP).set 0 _
    have hz2 : w.heap.size + 1 ≤ W2.heap.size := hx2.lt
    have hF2 : ∀ i, i < w.heap.size → i ≠ P → i ≠ Q → W2.heap[i]? = w.heap[i]? := fun i hi h1 h2 => by
      rw [hW2, heap_setCell_other _ _ _ _ h2, heap_setCell_other _ _ _ _ h1]
      exact hb1.block i hi
    have hB2 : ∀ B w0, Below B w0 w → B ≤ P → B ≤ Q → Below B w0 W2 := fun B w0 hb h1 h2 => by
      rw [hW2]
      exact ((hb.trans (hb1.mono (by omega))).setCell (p := ⟨P, 0, none⟩) h1 _).setCell (p := ⟨Q, 0, none⟩) h2 _
    go_enter Tryz.func30, Tryz.ntmps30
    go_upto_region 1 with fail
    rw [← hW1]
    clear hW1
    go_upto_region 3 with fail
    rw [← hq2]
    rw [← hW2]
    clear hW2 hq2 u0 v0 fu0 fv0
    have u0 : W2.cell? ⟨P, 0, none⟩ = some (.int .i64 (n + 1)) := hP2.cell 0 rfl
    have p0 : W2.cell? ⟨w.heap.size, 0, none⟩ = some (.int .i64 k) := hx2.cell 0 rfl
    have p1 : W2.cell? ⟨w.heap.size, 1, none⟩ = some (.int .i64 m) := hx2.cell 1 rfl
    have p2 : W2.cell? ⟨w.heap.size, 2, none⟩ = some (.int .u64 b) := hx2.cell 2 rfl
    have p3 : W2.cell? ⟨w.heap.size, 3, none⟩ = some (.string t) := hx2.cell 3 rfl
    have p4 : W2.cell? ⟨w.heap.size, 4, none⟩ = some (.slice a kids.length cap) := hx2.cell 4 rfl
    by_cases h1 : 4096 < n + 1
    · have e1 : decide (4096 < n + 1) = true := by simpa using h1
      go_wp2_with fail
      go_ret
      exact LookPost.mk false (n + 1) q2 ⟨rfl, ⟨fun h => (by cases h), fun h => by have := h.1; have := D.parts_pos (.mk k m b t kids); omega⟩, fun h => (by cases h), hP2, hQ2, by omega, hF2, hB2⟩
    have e1 : decide (4096 < n + 1) = false := by simpa using h1
    by_cases h2 : 16 < deep
    · have e2 : decide (16 < deep) = true := by simpa using h2
      go_wp2_with fail
      go_ret
      exact LookPost.mk false (n + 1) q2 ⟨rfl, ⟨fun h => (by cases h), fun h => by have := h.2.1; simp only [D.tall] at this; omega⟩, fun h => (by cases h), hP2, hQ2, by omega, hF2, hB2⟩
    have e2 : decide (16 < deep) = false := by simpa using h2
    go_wp2_with fail
    refine (fits_any _ _ _ _ _ _ _ _).mono ?_
    rintro e w3 ⟨r, rfl, hr, hb3⟩
    have hx3 := hx2.later hb3
    have hP3 := hP2.later hb3
    have hQ3 := hQ2.later hb3
    have hF3 : ∀ i, i < w.heap.size → i ≠ P → i ≠ Q → w3.heap[i]? = w.heap[i]? := fun i hi h1 h2 => (hb3.block i (by omega)).trans (hF2 i hi h1 h2)
    have hB3 : ∀ B w0, Below B w0 w → B ≤ P → B ≤ Q → Below B w0 w3 := fun B w0 hb h1 h2 => (hB2 B w0 hb h1 h2).trans (hb3.mono (by omega))
    have hz3 := hb3.size
    clear p0 p1 p2 p3 p4 u0
    cases r
    · dsimp only
      go_wp2_with fail
      go_ret
      exact LookPost.mk false (n + 1) q2 ⟨rfl, ⟨fun h => (by cases h), fun h => absurd (hr.2 (hFM.out.1 h).1) (by decide)⟩, fun h => (by cases h), hP3, hQ3, by omega, hF3, hB3⟩
    have HT := Lib.hid (hr.1 rfl)
    clear hr
    have p4 : w3.cell? ⟨w.heap.size, 4, none⟩ = some (.slice a kids.length cap) := hx3.cell 4 rfl
    dsimp only
    go_wp2_with fail
    go_loopw [39] (fun i wr => ∃ (j : Nat) (q' : Int), j ≤ kids.length ∧ i = .int .i64 j ∧ Hid (FitsL (n + 1) (deep + 1) (kids.take j)) ∧ Row wr P #[.int .i64 (n + 1 + D.partsL (kids.take j))] 3 ∧ Row wr Q #[.int .i64 q'] 3 ∧ w.heap.size + 1 ≤ wr.heap.size ∧ Hid (∀ i, i < w.heap.size → i ≠ P → i ≠ Q → wr.heap[i]? = w.heap[i]?) ∧ Hid (∀ B w0, Below B w0 w → B ≤ P → B ≤ Q → Below B w0 wr)) (fun i _ => kids.length - (intOf i).toNat)
    case atStart => exact ⟨0, q2, by omega, rfl, FitsL.nil (by omega) (by omega), (by simpa [D.partsL] using hP3), hQ3, by omega, hF3, hB3⟩
    case round =>
      obtain ⟨j, q', hj, rfl, hFL, hPr, hQr, hzr, hFr, hBr⟩ := hrel
      by_cases hlt : j < kids.length
      · obtain ⟨rfl, hg, hcp, hcm⟩ := HA.out (by omega)
        have hB1 : Below w0.heap.size w0 wr := hBr.out _ _ hb hP0 hQ0
        obtain ⟨q0, q1, q2, q3, q4⟩ := (HC.out.below hg hB1) j hlt
        have hx : kids[j]? = some kids[j] := List.getElem?_eq_getElem hlt
        have HX := Lib.hid (HI.out j _ hx)
        have HS := Lib.hid (fun h => FitsL.snoc hx hFL.out h)
        have HN := Lib.hid (fun h => FitsL.fails (n := n + 1) (deep := deep + 1) hx h)
        have hPT := D.partsL_take hx
        have hL1 := hFL.out.1
        obtain ⟨k2, m2, b2, t2, a3, cap3, g3, o3, c3, kids3, e5, e6, hw3, _⟩ := (HK.out j _ hx).inv
        obtain ⟨f0, f1, f2, f3, f4⟩ := five_inv e5
        rw [f0] at q0
        rw [f1] at q1
        rw [f2] at q2
        rw [f3] at q3
        rw [f4] at q4
        rw [e5] at HX
        clear e6
        generalize kids[j] = kj at HX HS HN hPT
        generalize kids3.length = n3 at *
        clear hx f0 f1 f2 f3 f4 e5 hFL hw3
        obtain ⟨W4, hW4, hb4, hx4⟩ := boxes1r wr (.int .i64 k2) (.int .i64 m2) (.int .u64 b2) (.string t2) (.slice a3 n3 cap3)
        have hP4 := hPr.later hb4
        have hQ4 := hQr.later hb4
        have hz4 := hb4.size
        go_upto_region 8 with fail
        rw [← hW4]
        clear hW4 q0 q1 q2 q3 q4
        have q0 : W4.cell? ⟨wr.heap.size, 0, none⟩ = some (.int .i64 k2) := hx4.cell 0 rfl
        have q1 : W4.cell? ⟨wr.heap.size, 1, none⟩ = some (.int .i64 m2) := hx4.cell 1 rfl
        have q2 : W4.cell? ⟨wr.heap.size, 2, none⟩ = some (.int .u64 b2) := hx4.cell 2 rfl
        have q3 : W4.cell? ⟨wr.heap.size, 3, none⟩ = some (.string t2) := hx4.cell 3 rfl
        have q4 : W4.cell? ⟨wr.heap.size, 4, none⟩ = some (.slice a3 n3 cap3) := hx4.cell 4 rfl
        go_wp2_with fail
        refine (HX.out (deep + 1) (n + 1 + D.partsL (kids.take j)) q' P Q W4 hPQ hP0 hQ0 (hB1.trans (hb4.mono (by omega))) (by omega) (by omega) (by omega) (by omega) hP4 hQ4).mono ?_
        rintro x w5 ⟨r, n5, q5, rfl, hr, hn5, hP5, hQ5, hz5, hF5, hB5⟩
        have hFw : Hid (∀ i, i < w.heap.size → i ≠ P → i ≠ Q → w5.heap[i]? = w.heap[i]?) := Lib.hid fun i hi h1 h2 => (hF5 i (by omega) h1 h2).trans ((hb4.block i (by omega)).trans (hFr.out i hi h1 h2))
        have hBw : Hid (∀ B w0, Below B w0 w → B ≤ P → B ≤ Q → Below B w0 w5) := Lib.hid fun B w1 hb h1 h2 => hB5 B w1 ((hBr.out B w1 hb h1 h2).trans (hb4.mono (by omega))) h1 h2
        clear HX q0 q1 q2 q3 q4 hF5 hB5 hFr hBr
        cases r
        · have hno := Lib.hid (HN.out (fun h => absurd (hr.2 h) (by decide)))
          clear hr HS HN
          dsimp only
          go_wp2_with fail
          go_ret
          exact LookPost.mk false n5 q5 ⟨rfl, ⟨fun h => (by cases h), fun h => absurd (hFM.out.1 h).2 hno.out⟩, fun h => (by cases h), hP5, hQ5, by omega, hFw.out, hBw.out⟩
        · have hyes := Lib.hid (HS.out (hr.1 rfl))
          obtain rfl := hn5 rfl
          clear hr HS HN hn5
          dsimp only
          go_wp2_with fail
          go_roundw
          case rel => exact ⟨j + 1, q5, by omega, by go_num, hyes, (by rw [hPT]; push_cast; rw [← Int.add_assoc]; exact hP5), hQ5, by omega, hFw, hBw⟩
          case measure => simp [intOf]; omega
      · obtain rfl : j = kids.length := by omega
        rw [List.take_length] at hFL hPr
        go_wp2_with fail
        go_ret
        exact LookPost.mk true _ q' ⟨rfl, ⟨fun _ => hFM.out.2 ⟨HT.out, hFL.out⟩, fun _ => rfl⟩, fun _ => (by simp only [D.parts]; push_cast; omega), hPr, hQr, by omega, hFr.out, hBr.out⟩
end Go.Proofs.YtecdniimikfbhaaGreatDoor
