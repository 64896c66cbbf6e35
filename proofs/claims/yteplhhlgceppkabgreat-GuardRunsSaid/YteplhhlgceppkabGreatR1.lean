/- Rows of results and of acts. -/
import Derived.Test.YteplhhlgceppkabGreatK16
import Derived.Deep.AppendLies
namespace Go.Proofs.YteplhhlgceppkabGreat
open Go Go.RowKit Go.ChangeShapes Go.WideShapes

theorem Rep.formR {w : World} {v : Value} {d : D} (h : Rep w v d) : ∃ (k m b : Int) (t : ByteArray) (a : Option Addr) (n cap : Nat), v = .agg #[.int .i64 k, .int .i64 m, .int .u64 b, .string t, .slice a n cap] := by
  obtain ⟨k, m, b, t, a, cap, g, o, c, kids, e, _⟩ := h.inv
  exact ⟨_, _, _, _, _, _, _, e⟩
/-- Its number of parts. -/
theorem parts_any {w0 : World} {k m b : Int} {t : ByteArray} {a : Option Addr} {l cap : Nat} {d : D} (hv : Rep w0 (.agg #[.int .i64 k, .int .i64 m, .int .u64 b, .string t, .slice a l cap]) d) (w : World) (hb0 : Below w0.heap.size w0 w) :
    Calls Tryz.prog 6 #[(.agg #[.int .i64 k, .int .i64 m, .int .u64 b, .string t, .slice a l cap])] w fun x w' => ∃ n m : Int, x = .returned (.tuple #[.int .i64 n, .int .i64 m]) ∧ 1 ≤ n ∧ n ≤ 4097 ∧ Below w.heap.size w w' := by
  have HC := Lib.hid (fun W hW => count_any hv 1 4096 W hW (by omega) (by omega) (by omega) (by omega))
  have HB := Lib.hid hb0
  clear hv hb0
  obtain ⟨W1, hW1, hb1, -, hx1⟩ := boxes1 w (.int .i64 k) (.int .i64 m) (.int .u64 b) (.string t) (.slice a l cap)
  obtain ⟨p0, p1, p2, p3, p4⟩ := hx1.cells
  go_enter Tryz.func6, Tryz.ntmps6
  go_upto_region 1 with fail
  rw [← hW1]
  clear hW1
  go_wp2_with fail
  refine (HC.out _ (HB.out.trans (hb1.mono HB.out.size))).mono ?_
  rintro e w2 ⟨n, m', rfl, hor, -, -, hb2⟩
  dsimp only
  go_wp2_with fail
  go_ret2
  refine ⟨n, m', rfl, ?_, ?_, hb1.trans (hb2.mono hb1.size)⟩
  · rcases hor with h | h <;> omega
  · rcases hor with h | h <;> omega

def ten (c : Nat → Nat → Value) (i : Nat) : Value := .agg #[c i 0, c i 1, c i 2, c i 3, c i 4, c i 5, c i 6, c i 7, c i 8, c i 9]
def tenCells (c : Nat → Nat → Value) (n : Nat) : List Value := (List.range n).flatMap fun i => [c i 0, c i 1, c i 2, c i 3, c i 4, c i 5, c i 6, c i 7, c i 8, c i 9]
theorem tenCells_length (c : Nat → Nat → Value) (n : Nat) : (tenCells c n).length = n * 10 := by
  induction n with
  | zero => rfl
  | succ n ih =>
    unfold tenCells at ih ⊢
    rw [List.range_succ, List.flatMap_append, List.length_append, ih]
    simp; omega
theorem tenCells_snoc (c c' : Nat → Nat → Value) (n : Nat) (h : ∀ i, i < n → ∀ j, c' i j = c i j) : tenCells c' (n + 1) = tenCells c n ++ [c' n 0, c' n 1, c' n 2, c' n 3, c' n 4, c' n 5, c' n 6, c' n 7, c' n 8, c' n 9] := by
  unfold tenCells
  rw [List.range_succ, List.flatMap_append]
  have e : (List.range n).flatMap (fun i => [c' i 0, c' i 1, c' i 2, c' i 3, c' i 4, c' i 5, c' i 6, c' i 7, c' i 8, c' i 9]) = (List.range n).flatMap (fun i => [c i 0, c i 1, c i 2, c i 3, c i 4, c i 5, c i 6, c i 7, c i 8, c i 9]) := by
    refine flatMap_same fun i hi => ?_
    have hi' := List.mem_range.1 hi
    rw [h i hi', h i hi', h i hi', h i hi', h i hi', h i hi', h i hi', h i hi', h i hi', h i hi']
  rw [e]
  simp
theorem tenCells_get (c : Nat → Nat → Value) (n : Nat) : ∀ i, i < n → ∀ j, j < 10 → (tenCells c n)[i * 10 + j]? = some (c i j) := by
  induction n with
  | zero => intro i hi; omega
  | succ n ih =>
    intro i hi j hj
    rw [tenCells_snoc c c n (fun _ _ _ => rfl)]
    by_cases h : i < n
    · rw [List.getElem?_append_left (by rw [tenCells_length]; omega)]
      exact ih i h j hj
    · obtain rfl : i = n := by omega
      rw [List.getElem?_append_right (by rw [tenCells_length]; omega), tenCells_length, Nat.add_sub_cancel_left]
      match j, hj with
      | 0, _ => rfl
      | 1, _ => rfl
      | 2, _ => rfl
      | 3, _ => rfl
      | 4, _ => rfl
      | 5, _ => rfl
      | 6, _ => rfl
      | 7, _ => rfl
      | 8, _ => rfl
      | 9, _ => rfl


/-- A slice that the call has made, from block B on, of results; all their memory is of P. -/
def OwnR (w : World) (B : Nat) (P : Nat → Prop) (sl : Value) (os : List Out) : Prop :=
  ∃ c : Nat → Nat → Value, w.ownsRow B 42 10 sl os.length (tenCells c os.length) ∧ (∀ g, sl.ownBlock = some g → P g) ∧ ∀ i x, os[i]? = some x → ResV w (fun b => P b ∧ some b ≠ sl.ownBlock) (ten c i) x
theorem OwnR.nil (w : World) (B : Nat) (P : Nat → Prop) : OwnR w B P (.slice none 0 0) [] := ⟨fun _ _ => .bool false, World.ownsRow_nil _ _ _ _, (fun g h => by cases h), fun i x h => by simp at h⟩
theorem OwnR.carry {w w1 : World} {B : Nat} {P P1 : Nat → Prop} {sl : Value} {ks : List Out} (h : OwnR w B P sl ks) (hb : ∀ b, P b → b < w.heap.size → w1.heap[b]? = w.heap[b]? ∧ P1 b) (hz : w.heap.size ≤ w1.heap.size) : OwnR w1 B P1 sl ks := by
  obtain ⟨c, h1, hp, h2⟩ := h
  have hlt := h1.lt
  refine ⟨c, ⟨h1.1, ?_⟩, fun g hg => (hb g (hp g hg) (hlt g hg).2).2, fun i x hx => (h2 i x hx).carry (fun b hq hl => ⟨(hb b hq.1 hl).1, (hb b hq.1 hl).2, hq.2⟩) hz⟩
  rcases h1.2 with h3 | ⟨g, cap, cur, hv, hg, hh, r⟩
  · exact Or.inl h3
  · have hg' : sl.ownBlock = some g := by rw [hv]; rfl
    exact Or.inr ⟨g, cap, cur, hv, hg, by rw [(hb g (hp g hg') (hlt g hg').2).1]; exact hh, r⟩
theorem OwnR.later {w w1 : World} {B : Nat} {P : Nat → Prop} {sl : Value} {ks : List Out} (h : OwnR w B P sl ks) (hb : Below w.heap.size w w1) : OwnR w1 B P sl ks := h.carry (fun b hq hl => ⟨hb.block b hl, hq⟩) hb.size
theorem OwnR.form {w : World} {B : Nat} {P : Nat → Prop} {sl : Value} {ks : List Out} (h : OwnR w B P sl ks) : ∃ a cap, sl = .slice a ks.length cap := by
  obtain ⟨c, h1, _⟩ := h
  rcases h1.2 with ⟨h2, h3⟩ | ⟨g, cap, cur, hv, _⟩
  · exact ⟨none, 0, by rw [h2, h3]⟩
  · exact ⟨_, _, hv⟩
/-- Behind an append of one result. -/
theorem OwnR.snoc {w1 w2 : World} {B g' cap' : Nat} {P : Nat → Prop} {sl : Value} {ks : List Out} {x : Out} {e0 e1 e2 e3 e4 e5 e6 e7 e8 e9 : Value} {c : Nat → Nat → Value}
    (hk : ∀ i x, ks[i]? = some x → ResV w1 (fun b => P b ∧ some b ≠ sl.ownBlock) (ten c i) x)
    (he : ResV w1 (fun b => P b ∧ some b ≠ sl.ownBlock) (.agg #[e0, e1, e2, e3, e4, e5, e6, e7, e8, e9]) x)
    (ho : w2.ownsRow B 42 10 (.slice (some ⟨g', 0, none⟩) (ks.length + 1) cap') (ks.length + 1) (tenCells c ks.length ++ [e0, e1, e2, e3, e4, e5, e6, e7, e8, e9]))
    (hgr : w1.grownBy w2 sl.ownBlock) (hat : sl.ownBlock = some g' ∨ g' = w1.heap.size) (hP : P g') : OwnR w2 B P (.slice (some ⟨g', 0, none⟩) (ks.length + 1) cap') (ks ++ [x]) := by
  have hlen : (ks ++ [x]).length = ks.length + 1 := by simp
  have hcar : ∀ {v : Value} {y : Out}, ResV w1 (fun b => P b ∧ some b ≠ sl.ownBlock) v y → ResV w2 (fun b => P b ∧ some b ≠ (Value.slice (some ⟨g', 0, none⟩) (ks.length + 1) cap').ownBlock) v y := fun {v y} hv =>
    hv.carry (fun b hq hl => ⟨hgr.block b hl hq.2, hq.1, fun e => by
      have e' : b = g' := Option.some.inj e
      rcases hat with h | h
      · exact hq.2 (by rw [h, e'])
      · omega⟩) hgr.size
  refine ⟨fun i j => if i < ks.length then c i j else [e0, e1, e2, e3, e4, e5, e6, e7, e8, e9].getD j (.bool false), ?_, (fun g hg => by cases hg; exact hP), fun i y hy => ?_⟩
  · rw [hlen, tenCells_snoc c _ ks.length (fun i hi j => by simp [hi])]
    simpa using ho
  · by_cases hi : i < ks.length
    · rw [List.getElem?_append_left hi] at hy
      have := hcar (hk i y hy)
      unfold ten at this ⊢
      simpa [hi] using this
    · have hi2 : i = ks.length := by
        have := (List.getElem?_eq_some_iff.1 hy).1
        simp at this; omega
      subst hi2
      simp at hy
      subst hy
      have := hcar he
      unfold ten
      simpa using this
/-- The result at a place: its cells. -/
theorem OwnR.get {w : World} {B : Nat} {P : Nat → Prop} {sl : Value} {os : List Out} (h : OwnR w B P sl os) {i : Nat} {x : Out} (hi : os[i]? = some x) : ∃ (g cap : Nat) (r0 r1 r2 r3 : Int) (r4 : Bool) (k5 m5 b5 : Int) (t5 : ByteArray) (a5 : Option Addr) (n5 cap5 : Nat),
    sl = .slice (some ⟨g, 0, none⟩) os.length cap ∧ i < os.length ∧ os.length ≤ cap ∧ cap ≤ 9223372036854775807 ∧ g < w.heap.size ∧ w.cell? ⟨g, i * 10, none⟩ = some (.int .i64 r0) ∧ w.cell? ⟨g, i * 10 + 1, none⟩ = some (.int .i64 r1) ∧ w.cell? ⟨g, i * 10 + 2, none⟩ = some (.int .i64 r2) ∧ w.cell? ⟨g, i * 10 + 3, none⟩ = some (.int .i64 r3) ∧ w.cell? ⟨g, i * 10 + 4, none⟩ = some (.bool r4) ∧ w.cell? ⟨g, i * 10 + 5, none⟩ = some (.int .i64 k5) ∧ w.cell? ⟨g, i * 10 + 6, none⟩ = some (.int .i64 m5) ∧ w.cell? ⟨g, i * 10 + 7, none⟩ = some (.int .u64 b5) ∧ w.cell? ⟨g, i * 10 + 8, none⟩ = some (.string t5) ∧ w.cell? ⟨g, i * 10 + 9, none⟩ = some (.slice a5 n5 cap5) ∧ ResV w (fun b => P b ∧ some b ≠ sl.ownBlock) (.agg #[.int .i64 r0, .int .i64 r1, .int .i64 r2, .int .i64 r3, .bool r4, .int .i64 k5, .int .i64 m5, .int .u64 b5, .string t5, .slice a5 n5 cap5]) x := by
  obtain ⟨c, h1, hp, h2⟩ := h
  have h1' := h1
  have hlt : i < os.length := (List.getElem?_eq_some_iff.1 hi).1
  have hx := h2 i x hi
  rcases h1.2 with ⟨_, h3⟩ | ⟨g, cap, cur, rfl, hg, hh, hn, hc, hs, ht⟩
  · omega
  · obtain ⟨r0, r1, r2, r3, r4, k5, m5, b5, t5, a5, n5, cap5, e⟩ := hx.form
    have e' := e
    unfold ten at e'
    simp only [Value.agg.injEq, Array.mk.injEq, List.cons.injEq, and_true] at e'
    obtain ⟨f0, f1, f2, f3, f4, f5, f6, f7, f8, f9⟩ := e'
    have hA : ∀ j, j < 10 → w.cell? ⟨g, i * 10 + j, none⟩ = some (c i j) := fun j hj => by
      rw [World.ownsRow.cellAt h1' (i * 10 + j) (by omega)]
      exact tenCells_get c _ i hlt j hj
    rw [e] at hx
    refine ⟨g, cap, r0, r1, r2, r3, r4, k5, m5, b5, t5, a5, n5, cap5, rfl, hlt, hn, by unfold maxLen at hc; omega, (Array.getElem?_eq_some_iff.1 hh).1, by rw [← f0]; exact hA 0 (by omega), by rw [← f1]; exact hA 1 (by omega), by rw [← f2]; exact hA 2 (by omega), by rw [← f3]; exact hA 3 (by omega), by rw [← f4]; exact hA 4 (by omega), by rw [← f5]; exact hA 5 (by omega), by rw [← f6]; exact hA 6 (by omega), by rw [← f7]; exact hA 7 (by omega), by rw [← f8]; exact hA 8 (by omega), by rw [← f9]; exact hA 9 (by omega), hx⟩

/-- A slice of ints that the call has made: it owns its cells from block B on. -/
def Made (w : World) (B : Nat) (v : Value) (l : List Int) : Prop := w.ownsRow B 3 1 v l.length (l.map (Value.int .i64))
theorem Made.nil (w : World) (B : Nat) : Made w B (.slice none 0 0) [] := World.ownsRow_nil _ _ _ _
theorem Made.carry {w w1 : World} {B : Nat} {v : Value} {l : List Int} (h : Made w B v l) (hb : ∀ g, v.ownBlock = some g → w1.heap[g]? = w.heap[g]?) : Made w1 B v l := by
  obtain ⟨h1, h2⟩ := h
  refine ⟨h1, ?_⟩
  rcases h2 with h2 | ⟨g, cap, cur, hv, hg, hh, r⟩
  · exact Or.inl h2
  · exact Or.inr ⟨g, cap, cur, hv, hg, by rw [hb g (by rw [hv]; rfl)]; exact hh, r⟩
theorem Made.below {w w1 : World} {B : Nat} {v : Value} {l : List Int} (h : Made w B v l) (hb : Below w.heap.size w w1) : Made w1 B v l := h.carry fun g hg => hb.block g (World.ownsRow.lt h g hg).2
theorem Made.snoc {w : World} {B : Nat} {v : Value} {l : List Int} {x : Int} (h : w.ownsRow B 3 1 v (l.length + 1) (l.map (Value.int .i64) ++ [.int .i64 x])) : Made w B v (l ++ [x]) := by
  unfold Made
  rw [List.length_append, List.map_append]
  exact h
theorem Made.form {w : World} {B : Nat} {v : Value} {l : List Int} (h : Made w B v l) : ∃ a cap, v = .slice a l.length cap := by
  rcases h.2 with ⟨h2, h3⟩ | ⟨g, cap, cur, hv, _⟩
  · exact ⟨none, 0, by rw [h2, h3]⟩
  · exact ⟨_, _, hv⟩
theorem Made.get {w : World} {B : Nat} {v : Value} {l : List Int} (h : Made w B v l) {i : Nat} {x : Int} (hi : l[i]? = some x) : ∃ g cap, v = .slice (some ⟨g, 0, none⟩) l.length cap ∧ i < l.length ∧ l.length ≤ cap ∧ cap ≤ 9223372036854775807 ∧ g < w.heap.size ∧ w.cell? ⟨g, i, none⟩ = some (.int .i64 x) := by
  have h1' := h
  have hlt : i < l.length := (List.getElem?_eq_some_iff.1 hi).1
  rcases h.2 with ⟨_, h3⟩ | ⟨g, cap, cur, rfl, hg, hh, hn, hc, hs, ht⟩
  · omega
  · refine ⟨g, cap, rfl, hlt, hn, by unfold maxLen at hc; omega, (Array.getElem?_eq_some_iff.1 hh).1, ?_⟩
    rw [World.ownsRow.cellAt h1' i (by omega), List.getElem?_map, hi]
    rfl

/-- An act. -/
structure Ac where
  op : Int
  A : D
  B : D
  n : Int
/-- A slice reads as acts. -/
def Acts (w : World) (v : Value) (xs : List Ac) : Prop := ∃ (p : Option Addr) (cp : Nat), v = .slice p xs.length cp ∧ xs.length ≤ 9223372036854775807 ∧ ∀ i x, xs[i]? = some x → ∃ (g o : Nat) (k m b : Int) (t : ByteArray) (a1 : Option Addr) (l cap1 : Nat) (k' m' b' : Int) (t' : ByteArray) (a2 : Option Addr) (l' cap2 : Nat),
  p = some ⟨g, o, none⟩ ∧ g < w.heap.size ∧ xs.length ≤ cp ∧ cp ≤ 9223372036854775807 ∧ w.cell? ⟨g, o + i * 12, none⟩ = some (.int .i64 x.op) ∧ w.cell? ⟨g, o + i * 12 + 1, none⟩ = some (.int .i64 k) ∧ w.cell? ⟨g, o + i * 12 + 2, none⟩ = some (.int .i64 m) ∧ w.cell? ⟨g, o + i * 12 + 3, none⟩ = some (.int .u64 b) ∧ w.cell? ⟨g, o + i * 12 + 4, none⟩ = some (.string t) ∧ w.cell? ⟨g, o + i * 12 + 5, none⟩ = some (.slice a1 l cap1) ∧ w.cell? ⟨g, o + i * 12 + 6, none⟩ = some (.int .i64 k') ∧ w.cell? ⟨g, o + i * 12 + 7, none⟩ = some (.int .i64 m') ∧ w.cell? ⟨g, o + i * 12 + 8, none⟩ = some (.int .u64 b') ∧ w.cell? ⟨g, o + i * 12 + 9, none⟩ = some (.string t') ∧ w.cell? ⟨g, o + i * 12 + 10, none⟩ = some (.slice a2 l' cap2) ∧ w.cell? ⟨g, o + i * 12 + 11, none⟩ = some (.int .i64 x.n) ∧ Rep w (.agg #[.int .i64 k, .int .i64 m, .int .u64 b, .string t, .slice a1 l cap1]) x.A ∧ Rep w (.agg #[.int .i64 k', .int .i64 m', .int .u64 b', .string t', .slice a2 l' cap2]) x.B
theorem Acts.later {w w1 : World} {v : Value} {xs : List Ac} (h : Acts w v xs) (hb : Below w.heap.size w w1) : Acts w1 v xs := by
  obtain ⟨p, cp, hv, h0, hx⟩ := h
  refine ⟨p, cp, hv, h0, fun i x hi => ?_⟩
  obtain ⟨g, o, k, m, b, t, a1, l, cap1, k', m', b', t', a2, l', cap2, hp, hg, h1, h2, c0, c1, c2, c3, c4, c5, c6, c7, c8, c9, c10, c11, hA, hB⟩ := hx i x hi
  exact ⟨g, o, k, m, b, t, a1, l, cap1, k', m', b', t', a2, l', cap2, hp, Nat.lt_of_lt_of_le hg hb.size, h1, h2, (hb.cell (p := ⟨g, _, none⟩) hg).trans c0, (hb.cell (p := ⟨g, _, none⟩) hg).trans c1, (hb.cell (p := ⟨g, _, none⟩) hg).trans c2, (hb.cell (p := ⟨g, _, none⟩) hg).trans c3, (hb.cell (p := ⟨g, _, none⟩) hg).trans c4, (hb.cell (p := ⟨g, _, none⟩) hg).trans c5, (hb.cell (p := ⟨g, _, none⟩) hg).trans c6, (hb.cell (p := ⟨g, _, none⟩) hg).trans c7, (hb.cell (p := ⟨g, _, none⟩) hg).trans c8, (hb.cell (p := ⟨g, _, none⟩) hg).trans c9, (hb.cell (p := ⟨g, _, none⟩) hg).trans c10, (hb.cell (p := ⟨g, _, none⟩) hg).trans c11, hA.carry hb, hB.carry hb⟩

/-- The outcome of an act. -/
noncomputable def outA (x : Ac) : Out := by
  classical
  exact if h : Good x.A ∧ Good x.B then Classical.choose (both_any h.1 h.2 x.op x.n) else .err
theorem outA_both {x : Ac} (hA : Good x.A) (hB : Good x.B) : Both x.op x.A x.B x.n (outA x) := by
  unfold outA
  rw [dif_pos ⟨hA, hB⟩]
  exact Classical.choose_spec (both_any hA hB x.op x.n)
def isPan : Out → Bool
  | .pan _ _ => true
  | _ => false
/-- As far as the first that panics, it too. -/
def runO : List Out → List Out
  | [] => []
  | o :: os => o :: (if isPan o = true then [] else runO os)
theorem runO_len : ∀ os : List Out, (runO os).length ≤ os.length
  | [] => Nat.le_refl _
  | o :: os => by
    have := runO_len os
    unfold runO
    split
    · simp
    · simp; omega
theorem runO_drop {os : List Out} {k : Nat} {o : Out} (h : os[k]? = some o) : runO (os.drop k) = o :: (if isPan o = true then [] else runO (os.drop (k + 1))) := by
  obtain ⟨hl, rfl⟩ := List.getElem?_eq_some_iff.1 h
  rw [List.drop_eq_getElem_cons hl, runO]
/-- k+n-1 down to k. -/
def downs (k : Nat) : Nat → List Int
  | 0 => []
  | n + 1 => ((k + n : Nat) : Int) :: downs k n
theorem downs_len (k : Nat) : ∀ n, (downs k n).length = n
  | 0 => rfl
  | n + 1 => by rw [downs, List.length_cons, downs_len k n]
theorem downs_snoc (k : Nat) : ∀ n, downs k (n + 1) = downs (k + 1) n ++ [(k : Int)]
  | 0 => rfl
  | n + 1 => by
    rw [downs, downs_snoc k n, downs, show k + (n + 1) = k + 1 + n by omega]
    rfl
theorem downs_get (k : Nat) : ∀ (n i : Nat), i < n → (downs k n)[i]? = some ((k + n - 1 - i : Nat) : Int)
  | n + 1, 0, _ => by rw [downs]; simp
  | n + 1, i + 1, h => by
    rw [downs, List.getElem?_cons_succ, downs_get k n i (by omega)]
    congr 2
    omega
end Go.Proofs.YteplhhlgceppkabGreat
