/- What a slice of Acts reads as, opened. -/
import Derived.Test.YteplhhlgceppkabGreatR6
namespace Go.Proofs.YteplhhlgceppkabGreat
open Go Go.RowKit Go.ChangeShapes Go.WideShapes

section
variable {H : Type} {enc : TypeId × Value → H}
set_option maxRecDepth 100000 in
set_option maxHeartbeats 800000 in
theorem acts_of_trod {w : World} {base : Nat} {sp : Nat → Bool} {held : Bool} (fuel : Nat) (cs : List Value) (x : DataW H × List MemPlace) (h : DataW.trod enc Tryz.prog w base sp held fuel 22 cs = some x) :
    ∃ (v : Value) (xs : List Ac), cs = [v] ∧ Acts w v xs := by
  rcases DataW.trod_slice Tryz.underlying22 h with ⟨e4, _⟩ | ⟨a, len, cap, elems, rest, n4, _, e4, _, _, hlc, hcm, hel, hes, _, _⟩
  · exact ⟨_, [], e4, none, 0, rfl, by simp, fun i x hx => by simp at hx⟩
  · rw [cells27] at hes
    have hcm' : cap ≤ 9223372036854775807 := by unfold maxLen at hcm; omega
    by_cases h0 : len = 0
    · subst h0
      exact ⟨_, [], e4, _, _, rfl, by simp, fun i x hx => by simp at hx⟩
    have hL : ∀ i, i < len → ∃ cs' x', w.cells? base (a.add (i * 12)) 12 = some cs' ∧ DataW.trod enc Tryz.prog w base sp held n4 28 cs' = some x' := fun i hi => by
      have h1 := hes i hi
      rw [List.getElem?_eq_getElem (by omega)] at h1
      obtain ⟨cs', hc', hx'⟩ := Option.bind_eq_some_iff.1 h1
      exact ⟨cs', _, hc', hx'⟩
    obtain ⟨g, o, sp'⟩ := a
    have hspot : sp' = none ∧ g < w.heap.size := by
      obtain ⟨cs', x', h1, h2⟩ := hL 0 (by omega)
      obtain ⟨_, hl12, hc⟩ := World.cells?_some h1
      have h3 := hc 0 (by omega)
      rw [List.getElem?_eq_getElem (by omega)] at h3
      have e : ((⟨g, o, sp'⟩ : Addr).add (0 * 12)).add 0 = ⟨g, o, sp'⟩ := rfl
      rw [e] at h3
      have h4 := World.cell?_spot h3
      exact ⟨h4, by cases h4; exact block_lt_of_cell h3⟩
    obtain ⟨rfl, hg⟩ := hspot
    have hD : ∀ i, i < len → ∃ x : Ac, ∃ (k m b : Int) (t : ByteArray) (a1 : Option Addr) (l1 cap1 : Nat) (k' m' b' : Int) (t' : ByteArray) (a2 : Option Addr) (l2 cap2 : Nat), w.cell? (((⟨g, o, none⟩ : Addr).add (i * 12)).add 0) = some (.int .i64 x.op) ∧ w.cell? (((⟨g, o, none⟩ : Addr).add (i * 12)).add 1) = some (.int .i64 k) ∧ w.cell? (((⟨g, o, none⟩ : Addr).add (i * 12)).add 2) = some (.int .i64 m) ∧ w.cell? (((⟨g, o, none⟩ : Addr).add (i * 12)).add 3) = some (.int .u64 b) ∧ w.cell? (((⟨g, o, none⟩ : Addr).add (i * 12)).add 4) = some (.string t) ∧ w.cell? (((⟨g, o, none⟩ : Addr).add (i * 12)).add 5) = some (.slice a1 l1 cap1) ∧ w.cell? (((⟨g, o, none⟩ : Addr).add (i * 12)).add 6) = some (.int .i64 k') ∧ w.cell? (((⟨g, o, none⟩ : Addr).add (i * 12)).add 7) = some (.int .i64 m') ∧ w.cell? (((⟨g, o, none⟩ : Addr).add (i * 12)).add 8) = some (.int .u64 b') ∧ w.cell? (((⟨g, o, none⟩ : Addr).add (i * 12)).add 9) = some (.string t') ∧ w.cell? (((⟨g, o, none⟩ : Addr).add (i * 12)).add 10) = some (.slice a2 l2 cap2) ∧ w.cell? (((⟨g, o, none⟩ : Addr).add (i * 12)).add 11) = some (.int .i64 x.n) ∧ Rep w (.agg #[.int .i64 k, .int .i64 m, .int .u64 b, .string t, .slice a1 l1 cap1]) x.A ∧ Rep w (.agg #[.int .i64 k', .int .i64 m', .int .u64 b', .string t', .slice a2 l2 cap2]) x.B := fun i hi => by
      obtain ⟨cs', x', h1, h2⟩ := hL i hi
      obtain ⟨op, n, k, m, b, t, a1, l1, cap1, k', m', b', t', a2, l2, cap2, A, B, e, hA, hB, _, _⟩ := act_of_trod _ _ _ h2
      obtain ⟨_, hl12, hc⟩ := World.cells?_some h1
      obtain rfl : cs' = [.int .i64 op, .int .i64 k, .int .i64 m, .int .u64 b, .string t, .slice a1 l1 cap1, .int .i64 k', .int .i64 m', .int .u64 b', .string t', .slice a2 l2 cap2, .int .i64 n] := by
        have := congrArg Array.toList e
        simpa using this
      exact ⟨⟨op, A, B, n⟩, k, m, b, t, a1, l1, cap1, k', m', b', t', a2, l2, cap2, hc 0 (by omega), hc 1 (by omega), hc 2 (by omega), hc 3 (by omega), hc 4 (by omega), hc 5 (by omega), hc 6 (by omega), hc 7 (by omega), hc 8 (by omega), hc 9 (by omega), hc 10 (by omega), hc 11 (by omega), hA, hB⟩
    obtain ⟨f, hf⟩ := Classical.axiomOfChoice (r := fun (i : Nat) (x : Ac) => i < len → ∃ (k m b : Int) (t : ByteArray) (a1 : Option Addr) (l1 cap1 : Nat) (k' m' b' : Int) (t' : ByteArray) (a2 : Option Addr) (l2 cap2 : Nat), w.cell? (((⟨g, o, none⟩ : Addr).add (i * 12)).add 0) = some (.int .i64 x.op) ∧ w.cell? (((⟨g, o, none⟩ : Addr).add (i * 12)).add 1) = some (.int .i64 k) ∧ w.cell? (((⟨g, o, none⟩ : Addr).add (i * 12)).add 2) = some (.int .i64 m) ∧ w.cell? (((⟨g, o, none⟩ : Addr).add (i * 12)).add 3) = some (.int .u64 b) ∧ w.cell? (((⟨g, o, none⟩ : Addr).add (i * 12)).add 4) = some (.string t) ∧ w.cell? (((⟨g, o, none⟩ : Addr).add (i * 12)).add 5) = some (.slice a1 l1 cap1) ∧ w.cell? (((⟨g, o, none⟩ : Addr).add (i * 12)).add 6) = some (.int .i64 k') ∧ w.cell? (((⟨g, o, none⟩ : Addr).add (i * 12)).add 7) = some (.int .i64 m') ∧ w.cell? (((⟨g, o, none⟩ : Addr).add (i * 12)).add 8) = some (.int .u64 b') ∧ w.cell? (((⟨g, o, none⟩ : Addr).add (i * 12)).add 9) = some (.string t') ∧ w.cell? (((⟨g, o, none⟩ : Addr).add (i * 12)).add 10) = some (.slice a2 l2 cap2) ∧ w.cell? (((⟨g, o, none⟩ : Addr).add (i * 12)).add 11) = some (.int .i64 x.n) ∧ Rep w (.agg #[.int .i64 k, .int .i64 m, .int .u64 b, .string t, .slice a1 l1 cap1]) x.A ∧ Rep w (.agg #[.int .i64 k', .int .i64 m', .int .u64 b', .string t', .slice a2 l2 cap2]) x.B) (fun i => by
      by_cases hi : i < len
      · obtain ⟨x, hx⟩ := hD i hi
        exact ⟨x, fun _ => hx⟩
      · exact ⟨⟨0, .mk 0 0 0 ⟨#[]⟩ [], .mk 0 0 0 ⟨#[]⟩ [], 0⟩, fun h => absurd h hi⟩)
    have hlen : ((List.range len).map f).length = len := by simp
    have hadd : ∀ i j, ((⟨g, o, none⟩ : Addr).add (i * 12)).add j = ⟨g, o + i * 12 + j, none⟩ := fun i j => by
      unfold Addr.add
      split <;> split <;> simp_all
    refine ⟨_, (List.range len).map f, e4, some ⟨g, o, none⟩, cap, by rw [hlen], by rw [hlen]; omega, fun i x hx => ?_⟩
    rw [List.getElem?_map] at hx
    by_cases hi : i < len
    · rw [List.getElem?_range hi] at hx
      simp only [Option.map_some, Option.some.injEq] at hx
      subst hx
      obtain ⟨k, m, b, t, a1, l1, cap1, k', m', b', t', a2, l2, cap2, c0, c1, c2, c3, c4, c5, c6, c7, c8, c9, c10, c11, hA, hB⟩ := hf i hi
      simp only [hadd, Nat.add_zero] at c0 c1 c2 c3 c4 c5 c6 c7 c8 c9 c10 c11
      exact ⟨g, o, k, m, b, t, a1, l1, cap1, k', m', b', t', a2, l2, cap2, rfl, hg, by rw [hlen]; exact hlc, hcm', c0, c1, c2, c3, c4, c5, c6, c7, c8, c9, c10, c11, hA, hB⟩
    · rw [List.getElem?_eq_none (by simp; omega)] at hx
      cases hx
end
end Go.Proofs.YteplhhlgceppkabGreat
