/- guard.Run. -/
import Derived.Test.YteplhhlgceppkabGreatR2
import Derived.Deep.Onto
namespace Go.Proofs.YteplhhlgceppkabGreat
open Go Go.RowKit Go.ChangeShapes Go.WideShapes

theorem Made.mono {w : World} {B B' : Nat} {v : Value} {l : List Int} (h : Made w B v l) (hb : B' ≤ B) : Made w B' v l := World.ownsRow.mono h hb
theorem OwnR.mono {w : World} {B B' : Nat} {P : Nat → Prop} {sl : Value} {os : List Out} (h : OwnR w B P sl os) (hb : B' ≤ B) : OwnR w B' P sl os := by
  obtain ⟨c, h1, h2⟩ := h
  exact ⟨c, World.ownsRow.mono h1 hb, h2⟩
theorem ResV.errno {w : World} {Q : Nat → Prop} {o : Out} {r0 r1 r2 r3 : Int} {r4 : Bool} {k5 m5 b5 : Int} {t5 : ByteArray} {a5 : Option Addr} {n5 cap5 : Nat} (h : ResV w Q (.agg #[.int .i64 r0, .int .i64 r1, .int .i64 r2, .int .i64 r3, .bool r4, .int .i64 k5, .int .i64 m5, .int .u64 b5, .string t5, .slice a5 n5 cap5]) o) : (isPan o = true ∧ r0 = 110) ∨ (isPan o = false ∧ (r0 = 0 ∨ r0 = 12)) := by
  cases o with
  | gave d =>
    obtain ⟨k, m, b, t, a, n, cap, e, h2⟩ := h
    simp only [Value.agg.injEq, Array.mk.injEq, List.cons.injEq, Value.int.injEq] at e
    exact Or.inr ⟨rfl, Or.inl e.1.2⟩
  | pan p n =>
    have e := h
    simp only [ResV, Value.agg.injEq, Array.mk.injEq, List.cons.injEq, Value.int.injEq] at e
    exact Or.inl ⟨rfl, e.1.2⟩
  | err =>
    have e := h
    simp only [ResV, Value.agg.injEq, Array.mk.injEq, List.cons.injEq, Value.int.injEq] at e
    exact Or.inr ⟨rfl, Or.inr e.1.2⟩
/-- Behind an append to the results. -/
theorem Var.gained {w w1 w2 : World} {L g n cap Bo Bo2 : Nat} {lv rv : Value} {os : List Out} {x : Out} {c : Nat → Nat → Value} {r0 r1 r2 r3 : Int} {r4 : Bool} {k5 m5 b5 : Int} {t5 : ByteArray} {a5 : Option Addr} {n5 cap5 : Nat} (h : Var w1 L lv rv (.slice none 0 0) os [] Bo) (hn : os.length = n)
    (hk : ∀ i x, os[i]? = some x → ResV w1 (fun b => (L + 4 ≤ b ∧ some b ≠ Value.ownBlock (.slice none 0 0)) ∧ some b ≠ rv.ownBlock) (ten c i) x)
    (he : ResV w1 (fun b => (L + 4 ≤ b ∧ some b ≠ Value.ownBlock (.slice none 0 0)) ∧ some b ≠ rv.ownBlock) (.agg #[.int .i64 r0, .int .i64 r1, .int .i64 r2, .int .i64 r3, .bool r4, .int .i64 k5, .int .i64 m5, .int .u64 b5, .string t5, .slice a5 n5 cap5]) x)
    (hown : w2.ownsRow (L + 4) 42 10 (.slice (some ⟨g, 0, none⟩) (n + 1) cap) (n + 1) (tenCells c n ++ [.int .i64 r0, .int .i64 r1, .int .i64 r2, .int .i64 r3, .bool r4, .int .i64 k5, .int .i64 m5, .int .u64 b5, .string t5, .slice a5 n5 cap5])) (hgr : w1.grownBy w2 rv.ownBlock) (hat : rv.ownBlock = some g ∨ g = w1.heap.size)
    (hb : Far (fun b => b = L + 1 ∨ some b = rv.ownBlock) w w1) (h2 : L + 4 ≤ Bo2) (h3 : Bo2 ≤ w1.heap.size) :
    Var (w2.setCell ⟨L + 1, 0, none⟩ (.slice (some ⟨g, 0, none⟩) (n + 1) cap)) L lv (.slice (some ⟨g, 0, none⟩) (n + 1) cap) (.slice none 0 0) (os ++ [x]) [] Bo2 ∧ Far (fun b => b = L + 1 ∨ some b = rv.ownBlock) w (w2.setCell ⟨L + 1, 0, none⟩ (.slice (some ⟨g, 0, none⟩) (n + 1) cap)) ∧ L + 4 ≤ g := by
  subst hn
  obtain ⟨c', hown', hPr, _⟩ := h.R
  have hlt := World.ownsRow.lt hown'
  have hne : ∀ b, b < L + 4 → some b ≠ rv.ownBlock := fun b hb e => by have := hlt b e.symm; omega
  have hgB : L + 4 ≤ g := by
    rcases hat with e | e
    · exact (hlt g e).1
    · have := h.z; have := h.b; omega
  have hz := hgr.size
  have hS := OwnR.snoc (P := fun b => L + 4 ≤ b ∧ some b ≠ Value.ownBlock (.slice none 0 0)) hk he hown hgr hat ⟨hgB, fun e => by cases e⟩
  have hf : Far (fun b => b = L + 1 ∨ some b = rv.ownBlock) w1 (w2.setCell ⟨L + 1, 0, none⟩ (.slice (some ⟨g, 0, none⟩) (os.length + 1) cap)) :=
    (Far.grown hgr (fun r hr => Or.inr hr.symm)).trans (Far.set w2 (L + 1) 0 _ rfl (E := fun b => b = L + 1)) (fun i _ e => Or.inl e)
  refine ⟨⟨h.l.far hf ?_, h.d.far hf ?_, ?_, h.o.far hf ?_, ?_, Made.nil _ _, h2, by simp; omega⟩, hb.trans hf (fun i _ e => e), hgB⟩
  · rintro (e | e)
    · omega
    · exact hne _ (by omega) e
  · rintro (e | e)
    · omega
    · exact hne _ (by omega) e
  · have h2 : Row w2 (L + 1) #[rv] 33 := h.r.keep (hgr.block _ h.r.lt (hne _ (by omega)))
    exact h2.set 0 _
  · rintro (e | e)
    · omega
    · exact hne _ (by omega) e
  · exact hS.carry (fun b hq hl => ⟨heap_setCell_other _ _ _ _ (show b ≠ L + 1 by have := hq.1; omega), hq⟩) (by simp)

set_option maxRecDepth 100000 in
set_option maxHeartbeats 3200000 in
theorem do_any {W0 : World} {lv : Value} {xs : List Ac} (hA : Acts W0 lv xs) (hg : ∀ x ∈ xs, Good x.A ∧ Good x.B) (hlen : xs.length ≤ 65536) (L : Nat) (hL : W0.heap.size ≤ L) :
    ∀ (n k : Nat), k + n = xs.length → ∀ (w : World) (rv : Value) (Bo : Nat), Below W0.heap.size W0 w → Var w L lv rv (.slice none 0 0) ((xs.map outA).take k) [] Bo →
    Calls Tryz.prog 13 #[.int .i64 k, .pointer (some ⟨L, 0, none⟩), .pointer (some ⟨L + 2, 0, none⟩), .pointer (some ⟨L + 1, 0, none⟩), .pointer (some ⟨L + 3, 0, none⟩)] w fun e w' => e = .returned (.tuple #[]) ∧ ∃ rv' ov', Var w' L lv rv' ov' ((xs.map outA).take k ++ runO ((xs.map outA).drop k)) (downs k (runO ((xs.map outA).drop k)).length) w.heap.size ∧ Far (fun b => b = L + 1 ∨ b = L + 2 ∨ some b = rv.ownBlock) w w' := by
  obtain ⟨p, cp, rfl, hmx, hX⟩ := hA
  intro n
  induction n with
  | zero =>
    intro k hk w rv Bo hb hV
    have hd0 : (xs.map outA).drop k = [] := by
      rw [List.drop_eq_nil_iff]; simp; omega
    rw [hd0]
    obtain ⟨W1, hW1⟩ : ∃ W1, W1 = w.alloc (.cells #[.int .i64 k] 3) := ⟨_, rfl⟩
    have hb1 : Below w.heap.size w W1 := by rw [hW1]; exact (Below.refl _ _).alloc (Nat.le_refl _) _
    have hkr : Row W1 w.heap.size #[.int .i64 k] 3 := by rw [hW1]; exact Row.new _ _ _
    have hV1 := hV.later hb1
    have q0 : W1.cell? ⟨w.heap.size, 0, none⟩ = some (.int .i64 k) := hkr.cell 0 rfl
    have q1 : W1.cell? ⟨L, 0, none⟩ = some (.slice p xs.length cp) := hV1.l.cell 0 rfl
    have ht : ((k : Int) == xs.length) = true := by simp; omega
    have hbz : L + 4 ≤ w.heap.size := Nat.le_trans hV.b hV.z
    go_enter_defers Tryz.func13, Tryz.ntmps13
    go_upto_region 1 with fail
    rw [← hW1]
    clear hW1
    go_wp2_with fail
    exact ⟨.tuple #[], results_none rfl _ _ _, rfl, rv, _, ⟨hV1.l, hV1.d, hV1.r, hV1.o, by simpa [runO] using hV1.R, Made.nil _ _, hbz, hb1.size⟩, Far.of hb1⟩
  | succ n ih =>
    intro k hk w rv Bo hb hV
    obtain ⟨cz, hV0O, -, -⟩ := hV.R
    have hV0lt := World.ownsRow.lt hV0O
    have hlt : k < xs.length := by omega
    obtain ⟨x, hx⟩ : ∃ x, xs[k]? = some x := ⟨_, List.getElem?_eq_getElem hlt⟩
    obtain ⟨hgA, hgB⟩ := hg x (List.mem_of_getElem? hx)
    have HT := Lib.hid (outA_both hgA hgB).2
    have hox : (xs.map outA)[k]? = some (outA x) := by rw [List.getElem?_map, hx]; rfl
    have HTK := Lib.hid (show (xs.map outA).take (k + 1) = (xs.map outA).take k ++ [outA x] by rw [List.take_add_one, hox]; rfl)
    have HDR := Lib.hid (runO_drop hox)
    have hkl : ((xs.map outA).take k).length = k := by simp; omega
    have IH := Lib.hid (ih (k + 1) (by omega))
    have hl2 := runO_len ((xs.map outA).drop (k + 1))
    have hl3 : ((xs.map outA).drop (k + 1)).length ≤ 65536 := by simp; omega
    clear ih hgA hgB hox
    obtain ⟨g, o, ka, m, b, t, a1, l1, cap1, k', m', b', t', a2, l2, cap2, rfl, hgw, hcp, hcm, c0, c1, c2, c3, c4, c5, c6, c7, c8, c9, c10, c11, hrA, hrB⟩ := hX k x hx
    clear hX hx
    obtain ⟨W1, hW1⟩ : ∃ W1, W1 = w.alloc (.cells #[.int .i64 k] 3) := ⟨_, rfl⟩
    have hb1 : Below w.heap.size w W1 := by rw [hW1]; exact (Below.refl _ _).alloc (Nat.le_refl _) _
    have hkr : Row W1 w.heap.size #[.int .i64 k] 3 := by rw [hW1]; exact Row.new _ _ _
    have hV1 := hV.later hb1
    have q0 : W1.cell? ⟨w.heap.size, 0, none⟩ = some (.int .i64 k) := hkr.cell 0 rfl
    have q1 : W1.cell? ⟨L, 0, none⟩ = some (.slice (some ⟨g, o, none⟩) xs.length cp) := hV1.l.cell 0 rfl
    have hbW1 := hb.trans (hb1.mono hb.size)
    have d0 : W1.cell? ⟨g, o + k * 12, none⟩ = some (.int .i64 x.op) := (hbW1.cell (p := ⟨g, _, none⟩) hgw).trans c0
    have d1 : W1.cell? ⟨g, o + k * 12 + 1, none⟩ = some (.int .i64 ka) := (hbW1.cell (p := ⟨g, _, none⟩) hgw).trans c1
    have d2 : W1.cell? ⟨g, o + k * 12 + 2, none⟩ = some (.int .i64 m) := (hbW1.cell (p := ⟨g, _, none⟩) hgw).trans c2
    have d3 : W1.cell? ⟨g, o + k * 12 + 3, none⟩ = some (.int .u64 b) := (hbW1.cell (p := ⟨g, _, none⟩) hgw).trans c3
    have d4 : W1.cell? ⟨g, o + k * 12 + 4, none⟩ = some (.string t) := (hbW1.cell (p := ⟨g, _, none⟩) hgw).trans c4
    have d5 : W1.cell? ⟨g, o + k * 12 + 5, none⟩ = some (.slice a1 l1 cap1) := (hbW1.cell (p := ⟨g, _, none⟩) hgw).trans c5
    have d6 : W1.cell? ⟨g, o + k * 12 + 6, none⟩ = some (.int .i64 k') := (hbW1.cell (p := ⟨g, _, none⟩) hgw).trans c6
    have d7 : W1.cell? ⟨g, o + k * 12 + 7, none⟩ = some (.int .i64 m') := (hbW1.cell (p := ⟨g, _, none⟩) hgw).trans c7
    have d8 : W1.cell? ⟨g, o + k * 12 + 8, none⟩ = some (.int .u64 b') := (hbW1.cell (p := ⟨g, _, none⟩) hgw).trans c8
    have d9 : W1.cell? ⟨g, o + k * 12 + 9, none⟩ = some (.string t') := (hbW1.cell (p := ⟨g, _, none⟩) hgw).trans c9
    have d10 : W1.cell? ⟨g, o + k * 12 + 10, none⟩ = some (.slice a2 l2 cap2) := (hbW1.cell (p := ⟨g, _, none⟩) hgw).trans c10
    have d11 : W1.cell? ⟨g, o + k * 12 + 11, none⟩ = some (.int .i64 x.n) := (hbW1.cell (p := ⟨g, _, none⟩) hgw).trans c11
    clear c0 c1 c2 c3 c4 c5 c6 c7 c8 c9 c10 c11
    have ht : ((k : Int) == xs.length) = false := by simp; omega
    have hbz : L + 4 ≤ w.heap.size := Nat.le_trans hV.b hV.z
    have HW := Lib.hid (HT.out W0 _ _ _ _ _ _ _ _ _ _ _ _ _ _ hrA hrB)
    clear HT hrA hrB
    generalize outA x = ox at *
    go_enter_defers Tryz.func13, Tryz.ntmps13
    go_upto_region 1 with fail
    rw [← hW1]
    clear hW1
    go_wp2_with fail
    refine (HW.out _ hbW1).1.mono ?_
    rintro e w2 ⟨v2, rfl, hg2, hb2⟩
    obtain ⟨r0, r1, r2, r3, r4, k5, m5, b5, t5, a5, n5, cap5, rfl⟩ := hg2.form
    clear q0 q1 d0 d1 d2 d3 d4 d5 d6 d7 d8 d9 d10 d11
    obtain ⟨Wa, hWa⟩ : ∃ Wa, Wa = w2.alloc (.cells #[.int .i64 r0, .int .i64 r1, .int .i64 r2, .int .i64 r3, .bool r4, .int .i64 k5, .int .i64 m5, .int .u64 b5, .string t5, .slice a5 n5 cap5] 42) := ⟨_, rfl⟩
    have hba : Below w2.heap.size w2 Wa := by rw [hWa]; exact (Below.refl _ _).alloc (Nat.le_refl _) _
    have hra : Row Wa w2.heap.size #[.int .i64 r0, .int .i64 r1, .int .i64 r2, .int .i64 r3, .bool r4, .int .i64 k5, .int .i64 m5, .int .u64 b5, .string t5, .slice a5 n5 cap5] 42 := by rw [hWa]; exact Row.new _ _ _
    have hb2a := hb2.trans (hba.mono hb2.size)
    obtain ⟨cv, hV1O, hV1P, -⟩ := hV1.R
    have hVa := hV1.later hb2a
    have hka := hkr.later hb2a
    have hga := hg2.later hba
    have hz1 := hb1.size
    have hz2 := hb2.size
    have hza := hra.lt
    have hkl1 := hkr.lt
    dsimp only
    go_upto_region 4 with fail
    rw [← hWa]
    clear hWa
    have p0 : Wa.cell? ⟨L + 1, 0, none⟩ = some rv := hVa.r.cell 0 rfl
    have q0 : Wa.cell? ⟨w2.heap.size, 0, none⟩ = some (.int .i64 r0) := hra.cell 0 rfl
    have q1 : Wa.cell? ⟨w2.heap.size, 1, none⟩ = some (.int .i64 r1) := hra.cell 1 rfl
    have q2 : Wa.cell? ⟨w2.heap.size, 2, none⟩ = some (.int .i64 r2) := hra.cell 2 rfl
    have q3 : Wa.cell? ⟨w2.heap.size, 3, none⟩ = some (.int .i64 r3) := hra.cell 3 rfl
    have q4 : Wa.cell? ⟨w2.heap.size, 4, none⟩ = some (.bool r4) := hra.cell 4 rfl
    have q5 : Wa.cell? ⟨w2.heap.size, 5, none⟩ = some (.int .i64 k5) := hra.cell 5 rfl
    have q6 : Wa.cell? ⟨w2.heap.size, 6, none⟩ = some (.int .i64 m5) := hra.cell 6 rfl
    have q7 : Wa.cell? ⟨w2.heap.size, 7, none⟩ = some (.int .u64 b5) := hra.cell 7 rfl
    have q8 : Wa.cell? ⟨w2.heap.size, 8, none⟩ = some (.string t5) := hra.cell 8 rfl
    have q9 : Wa.cell? ⟨w2.heap.size, 9, none⟩ = some (.slice a5 n5 cap5) := hra.cell 9 rfl
    obtain ⟨c, hown, hPr, hkk⟩ := hVa.R
    rw [hkl] at hown
    have HKK := Lib.hid hkk
    clear hkk
    obtain ⟨i0, hi, hz0, hzs, hzb⟩ := info_parts info42
    go_wp2_with (at_builtin; refine wpList_append_lies _ rfl (.tmp 17) (.tmp 19) 33 rfl (L + 4) 42 i0 (.agg #[.int .i64 0, .int .i64 0, .int .i64 0, .int .i64 0, .bool false, .int .i64 0, .int .i64 0, .int .u64 0, .string ⟨#[]⟩, .slice none 0 0]) 10 104 Tryz.underlying33 hi hz0 hzs hzb rfl (by decide) _ _ _ rfl (World.ownsRow.alloc hown _) ⟨Wa.heap.size, 0, none⟩ 1 1 [.int .i64 r0, .int .i64 r1, .int .i64 r2, .int .i64 r3, .bool r4, .int .i64 k5, .int .i64 m5, .int .u64 b5, .string t5, .slice a5 n5 cap5] rfl rfl (World.news_of_block (heap_alloc_new Wa _)) ?c2 (by decide) ?c3 ?c4 ?c5 _ rfl ?_)
    case c2 => exact ⟨rfl, rfl, rfl, rfl, rfl, rfl, rfl, rfl, rfl, rfl⟩
    case c3 => unfold maxLen; omega
    case c4 => omega
    case c5 => omega
    intro g5 cap6 w4 hown4 hgr hat hlt4
    have hwa : Below Wa.heap.size Wa (Wa.alloc (.cells #[.int .i64 r0, .int .i64 r1, .int .i64 r2, .int .i64 r3, .bool r4, .int .i64 k5, .int .i64 m5, .int .u64 b5, .string t5, .slice a5 n5 cap5] 42)) := (Below.refl _ _).alloc (Nat.le_refl _) _
    have hltr := World.ownsRow.lt hown
    have hr4 : Row w4 (L + 1) #[rv] 33 := (hVa.r.later hwa).keep (hgr.block _ (hVa.r.later hwa).lt (fun e => by have := hltr _ e.symm; omega))
    have hra4 : Row w4 w2.heap.size #[.int .i64 r0, .int .i64 r1, .int .i64 r2, .int .i64 r3, .bool r4, .int .i64 k5, .int .i64 m5, .int .u64 b5, .string t5, .slice a5 n5 cap5] 42 := (hra.later hwa).keep (hgr.block _ (hra.later hwa).lt (fun e => by have := World.ownsRow.lt hV1O _ e.symm; omega))
    have p2 : w4.cell? ⟨L + 1, 0, none⟩ = some rv := hr4.cell 0 rfl
    have f2 := hr4.thaw 0
    have hres := (hVa.later hwa).gained (w := w) (Bo2 := w.heap.size) hkl (fun i x hx => (HKK.out i x hx).later hwa) ((hga.later hwa).carry (fun b hq hl => ⟨rfl, ⟨by omega, fun e => by cases e⟩, fun e => by have := World.ownsRow.lt hV1O _ e.symm; omega⟩) (Nat.le_refl _)) hown4 hgr (by simpa using hat) (Far.of (hb1.trans ((hb2a.trans (hwa.mono hb2a.size)).mono hb1.size))) hbz (by have := hwa.size; omega)
    obtain ⟨W5, hW5⟩ : ∃ W5, W5 = w4.setCell ⟨L + 1, 0, none⟩ (.slice (some ⟨g5, 0, none⟩) (k + 1) cap6) := ⟨_, rfl⟩
    rw [← hW5] at hres
    obtain ⟨hV5, hF5, hg5L⟩ := hres
    have hra5 : Row W5 w2.heap.size #[.int .i64 r0, .int .i64 r1, .int .i64 r2, .int .i64 r3, .bool r4, .int .i64 k5, .int .i64 m5, .int .u64 b5, .string t5, .slice a5 n5 cap5] 42 := by rw [hW5]; exact hra4.other _ _ (by omega)
    have hk5 : Row W5 w.heap.size #[.int .i64 k] 3 := by
      rw [hW5]
      exact ((hka.later hwa).keep (hgr.block _ (hka.later hwa).lt (fun e => by have := hV0lt _ e.symm; omega))).other _ _ (by omega)
    clear p0 q0 q1 q2 q3 q4 q5 q6 q7 q8 q9 hown4
    go_upto_region 5 with fail
    rw [← hW5]
    clear hW5 p2 f2
    have q0 : W5.cell? ⟨w2.heap.size, 0, none⟩ = some (.int .i64 r0) := hra5.cell 0 rfl
    have hzW5 : w.heap.size ≤ W5.heap.size := hV5.z
    have hKg : w.heap.size ≠ g5 := by
      rcases hat with e | e
      · have := hV0lt _ e; omega
      · omega
    rcases hga.errno with ⟨hp, rfl⟩ | ⟨hp, hr0⟩
    · go_wp2_with fail
      refine leaves_cons (f := 14) (args := #[.pointer (some ⟨L + 2, 0, none⟩), .pointer (some ⟨w.heap.size, 0, none⟩)]) (by simp) (by simp [go_sem]) ?_
      refine (place_any hV5 hk5 (by simp)).mono ?_
      rintro e u' W' ⟨rfl, rfl, ov7, hV7, hF7⟩
      refine ⟨.tuple #[], results_none rfl _ _ _, rfl, .slice (some ⟨g5, 0, none⟩) (k + 1) cap6, ov7, ?_, ?_⟩
      · rw [HDR.out, if_pos hp]
        exact hV7
      · refine hF5.join hF7 ?_ ?_
        · rintro i _ (e | e)
          · exact Or.inl e
          · exact Or.inr (Or.inr e)
        · rintro i _ (e | e)
          · exact Or.inr (Or.inl e)
          · cases e
    · have hne : (r0 == 110) = false := by rcases hr0 with rfl | rfl <;> rfl
      have hne2 : (r0 != 110) = true := by rcases hr0 with rfl | rfl <;> rfl
      have p3 : W5.cell? ⟨L + 3, 0, none⟩ = some (doV L) := hV5.d.cell 0 rfl
      unfold doV at p3
      have p4 : W5.cell? ⟨w.heap.size, 0, none⟩ = some (.int .i64 k) := hk5.cell 0 rfl
      rw [← HTK.out] at hV5
      have hb5 : Below W0.heap.size W0 W5 := hF5.below hb (fun b (e : b = L + 1 ∨ some b = rv.ownBlock) => e.elim (fun e => by omega) (fun e => by have := hV0lt b e.symm; omega)) hb.size
      have IH2 := IH.out W5 _ _ hb5 hV5
      have e1 : ((k + 1 : Nat) : Int) = (k : Int) + 1 := by omega
      rw [e1] at IH2
      have IH3 := Lib.hid IH2
      clear IH2 IH
      go_wp2_with fail
      refine IH3.out.mono ?_
      rintro e w6 ⟨rfl, rv6, ov6, hV6, hF6⟩
      have hk6 : Row w6 w.heap.size #[.int .i64 k] 3 := by
        refine hk5.far hF6 ?_
        rintro (e | e | e)
        · omega
        · omega
        · exact hKg (Option.some.inj e)
      go_wp2_with fail
      refine leaves_cons (f := 14) (args := #[.pointer (some ⟨L + 2, 0, none⟩), .pointer (some ⟨w.heap.size, 0, none⟩)]) (by simp) (by simp [go_sem]) ?_
      refine (place_any hV6 hk6 (by rw [downs_len]; omega)).mono ?_
      rintro e u' W' ⟨rfl, rfl, ov7, hV7, hF7⟩
      refine ⟨.tuple #[], results_none rfl _ _ _, rfl, rv6, ov7, ?_, ?_⟩
      · rw [HDR.out, if_neg (by rw [hp]; decide), List.length_cons, downs_snoc]
        rw [HTK.out, List.append_assoc] at hV7
        exact ⟨hV7.l, hV7.d, hV7.r, hV7.o, hV7.R, hV7.O.mono hzW5, hbz, Nat.le_trans hzW5 hV7.z⟩
      · refine (hF5.join hF6 (E := fun b => b = L + 1 ∨ b = L + 2 ∨ some b = rv.ownBlock) ?_ ?_).join hF7 (fun i _ e => e) ?_
        · rintro i _ (e | e)
          · exact Or.inl e
          · exact Or.inr (Or.inr e)
        · rintro i hi (e | e | e)
          · exact Or.inl e
          · exact Or.inr (Or.inl e)
          · have e' : i = g5 := Option.some.inj e
            rcases hat with h | h
            · exact Or.inr (Or.inr (by rw [h, e']))
            · omega
        · rintro i hi (e | e)
          · exact Or.inr (Or.inl e)
          · have := World.ownsRow.lt hV6.O _ e.symm
            omega
end Go.Proofs.YteplhhlgceppkabGreat
