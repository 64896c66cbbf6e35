/- Guard: contracts, joined texts (G1, G2, G3, G4, G5). -/
import Derived.Test.YtecdniimikfbhaaGreatDoorRows
import Derived.WalkKit
import Derived.ProofKit
import Derived.Handy
import Derived.Outline
import Derived.Deep.RegionHeld3
import Derived.Deep.DeepCutAuto
import Derived.Deep.CutBlock
import Derived.Deep.QuietTactic
import Derived.BigQuiet
import Derived.Lib.Hide
import Derived.WalkSpells
import Derived.WalkLawsBesides
import Derived.Deep.AppendLies
import Derived.Deep.RegionLaw

/- Values as trees: a Datum in memory, and what it is without addresses. -/
namespace Go.Proofs.YtecdniimikfbhaaGreatDoor
open Go Go.RowKit Go.ChangeShapes Go.WideShapes

/-- A Datum without addresses. -/
inductive D where
  | mk (kind num bits : Int) (text : ByteArray) (kids : List D)
namespace D
def kind : D → Int | mk k _ _ _ _ => k
def num : D → Int | mk _ n _ _ _ => n
def bits : D → Int | mk _ _ b _ _ => b
def text : D → ByteArray | mk _ _ _ t _ => t
def kids : D → List D | mk _ _ _ _ l => l
mutual
/-- How many parts. -/
def parts : D → Nat
  | mk _ _ _ _ l => 1 + partsL l
def partsL : List D → Nat
  | [] => 0
  | x :: l => parts x + partsL l
end
theorem partsL_append (l r : List D) : partsL (l ++ r) = partsL l + partsL r := by
  induction l with
  | nil => simp [partsL]
  | cons x l ih => simp [partsL, ih]; omega
theorem parts_pos (d : D) : 1 ≤ parts d := by
  cases d; simp [parts]
theorem partsL_take {l : List D} {j : Nat} {x : D} (h : l[j]? = some x) : partsL (l.take (j + 1)) = partsL (l.take j) + parts x := by
  obtain ⟨hl, rfl⟩ := List.getElem?_eq_some_iff.1 h
  rw [List.take_succ_eq_append_getElem hl, partsL_append]
  simp [partsL]
theorem length_le_partsL (l : List D) : l.length ≤ partsL l := by
  induction l with
  | nil => simp
  | cons x l ih => have := parts_pos x; simp [partsL]; omega
theorem parts_mem {l : List D} {j : Nat} {x : D} (h : l[j]? = some x) : parts x ≤ partsL l := by
  have := List.mem_of_getElem? h
  clear h
  induction l with
  | nil => cases this
  | cons y l ih =>
    rcases List.mem_cons.1 this with rfl | h
    · simp [partsL]
    · have := ih h
      simp [partsL]; omega
end D

/-- An element of a row of five cells. -/
def five (c : Nat → Nat → Value) (i : Nat) : Value := .agg #[c i 0, c i 1, c i 2, c i 3, c i 4]
/-- The row's cells lie in the world. -/
def Row5 (w : World) (g o n : Nat) (c : Nat → Nat → Value) : Prop := ∀ i, i < n → w.cell? ⟨g, o + i * 5, none⟩ = some (c i 0) ∧ w.cell? ⟨g, o + i * 5 + 1, none⟩ = some (c i 1) ∧ w.cell? ⟨g, o + i * 5 + 2, none⟩ = some (c i 2) ∧ w.cell? ⟨g, o + i * 5 + 3, none⟩ = some (c i 3) ∧ w.cell? ⟨g, o + i * 5 + 4, none⟩ = some (c i 4)
theorem Row5.below {w w1 : World} {g o n : Nat} {c : Nat → Nat → Value} (h : Row5 w g o n c) (hg : g < w.heap.size) (hb : Below w.heap.size w w1) : Row5 w1 g o n c := fun i hi => by
  obtain ⟨h0, h1, h2, h3, h4⟩ := h i hi
  exact ⟨(hb.cell (p := ⟨g, _, none⟩) hg).trans h0, (hb.cell (p := ⟨g, _, none⟩) hg).trans h1, (hb.cell (p := ⟨g, _, none⟩) hg).trans h2, (hb.cell (p := ⟨g, _, none⟩) hg).trans h3, (hb.cell (p := ⟨g, _, none⟩) hg).trans h4⟩

/-- A value in a world is a Datum. -/
inductive Rep (w : World) : Value → D → Prop
  | mk (k m b : Int) (t : ByteArray) (a : Option Addr) (cap g o : Nat) (c : Nat → Nat → Value) (kids : List D)
      (hw : (Lit.int .i64 k).wf = true ∧ (Lit.int .i64 m).wf = true ∧ (Lit.int .u64 b).wf = true ∧ t.size ≤ maxLen)
      (ha : 0 < kids.length → a = some ⟨g, o, none⟩ ∧ g < w.heap.size ∧ kids.length ≤ cap ∧ cap ≤ 9223372036854775807)
      (hc : Row5 w g o kids.length c)
      (hk : ∀ i x, kids[i]? = some x → Rep w (five c i) x) :
      Rep w (.agg #[.int .i64 k, .int .i64 m, .int .u64 b, .string t, .slice a kids.length cap]) (.mk k m b t kids)

/-- What a Datum's value is made of. -/
theorem Rep.inv {w : World} {v : Value} {d : D} (h : Rep w v d) : ∃ (k m b : Int) (t : ByteArray) (a : Option Addr) (cap g o : Nat) (c : Nat → Nat → Value) (kids : List D), v = .agg #[.int .i64 k, .int .i64 m, .int .u64 b, .string t, .slice a kids.length cap] ∧ d = .mk k m b t kids ∧
    ((Lit.int .i64 k).wf = true ∧ (Lit.int .i64 m).wf = true ∧ (Lit.int .u64 b).wf = true ∧ t.size ≤ maxLen) ∧
    (0 < kids.length → a = some ⟨g, o, none⟩ ∧ g < w.heap.size ∧ kids.length ≤ cap ∧ cap ≤ 9223372036854775807) ∧ Row5 w g o kids.length c ∧ (∀ i x, kids[i]? = some x → Rep w (five c i) x) := by
  cases h with
  | mk k m b t a cap g o c kids hw ha hc hk => exact ⟨k, m, b, t, a, cap, g, o, c, kids, rfl, rfl, hw, ha, hc, hk⟩

theorem Rep.carry {w w1 : World} {v : Value} {d : D} (h : Rep w v d) (hb : Below w.heap.size w w1) : Rep w1 v d := by
  induction h with
  | mk k m b t a cap g o c kids hw ha hc hk ih =>
    refine Rep.mk k m b t a cap g o c kids hw (fun h0 => ?_) ?_ ih
    · obtain ⟨h1, h2, h3⟩ := ha h0
      exact ⟨h1, Nat.lt_of_lt_of_le h2 hb.size, h3⟩
    · by_cases h0 : 0 < kids.length
      · exact hc.below (ha h0).2.1 hb
      · exact fun i hi => absurd hi (by omega)

/-- The cells of an element, where its value is known. -/
theorem five_inv {c : Nat → Nat → Value} {i : Nat} {v0 v1 v2 v3 v4 : Value} (h : five c i = .agg #[v0, v1, v2, v3, v4]) : c i 0 = v0 ∧ c i 1 = v1 ∧ c i 2 = v2 ∧ c i 3 = v3 ∧ c i 4 = v4 := by
  unfold five at h
  simpa using h

section
variable {H : Type} {enc : TypeId × Value → H}
theorem cells25 : Tryz.prog.cellsOf 25 = 5 := by kernel_rfl
theorem cells1 : Tryz.prog.cellsOf 3 = 1 ∧ Tryz.prog.cellsOf 2 = 1 ∧ Tryz.prog.cellsOf 22 = 1 ∧ Tryz.prog.cellsOf 9 = 1 ∧ Tryz.prog.cellsOf 23 = 1 := ⟨by kernel_rfl, by kernel_rfl, by kernel_rfl, by kernel_rfl, by kernel_rfl⟩

theorem field_of {fs : Array Field} {xs : List (DataW H × List MemPlace)} {n : Nat} {w : World} {base : Nat} {sp : Nat → Bool} {held : Bool} {cs : List Value}
    (h : ∀ (i : Nat) (f : Field), fs[i]? = some f → DataW.trod enc Tryz.prog w base sp held n f.type ((cs.drop f.offset).take (Tryz.prog.cellsOf f.type)) = xs[i]?) (hl : xs.length = fs.size) (i : Nat) (f : Field) (hf : fs[i]? = some f) :
    ∃ x, DataW.trod enc Tryz.prog w base sp held n f.type ((cs.drop f.offset).take (Tryz.prog.cellsOf f.type)) = some x := by
  have hi : i < xs.length := by rw [hl]; exact (Array.getElem?_eq_some_iff.1 hf).1
  exact ⟨xs[i], (h i f hf).trans (List.getElem?_eq_getElem hi)⟩

theorem list5 {α : Type} {l : List α} (h : l.length = 5) : ∃ a b c d e, l = [a, b, c, d, e] := by
  match l, h with
  | [a, b, c, d, e], _ => exact ⟨a, b, c, d, e, rfl⟩

theorem rep_of_trod {w : World} {base : Nat} {sp : Nat → Bool} {held : Bool} : ∀ (fuel : Nat) (cs : List Value) (x : DataW H × List MemPlace),
    DataW.trod enc Tryz.prog w base sp held fuel 25 cs = some x → ∃ d, Rep w (.agg cs.toArray) d := by
  intro fuel
  induction fuel using Nat.strongRecOn with
  | _ fuel ih =>
    intro cs x h
    obtain ⟨xs, n, rfl, rfl, hl, hxl, hf⟩ := DataW.trod_struct Tryz.underlying25 h
    rw [cells25] at hl
    obtain ⟨c0, c1, c2, c3, c4, rfl⟩ := list5 hl
    obtain ⟨x0, h0⟩ : ∃ x, DataW.trod enc Tryz.prog w base sp held n 3 (([c0, c1, c2, c3, c4].drop 0).take (Tryz.prog.cellsOf 3)) = some x := field_of hf hxl 0 _ rfl
    obtain ⟨x1, h1⟩ : ∃ x, DataW.trod enc Tryz.prog w base sp held n 2 (([c0, c1, c2, c3, c4].drop 1).take (Tryz.prog.cellsOf 2)) = some x := field_of hf hxl 1 _ rfl
    obtain ⟨x2, h2⟩ : ∃ x, DataW.trod enc Tryz.prog w base sp held n 22 (([c0, c1, c2, c3, c4].drop 2).take (Tryz.prog.cellsOf 22)) = some x := field_of hf hxl 2 _ rfl
    obtain ⟨x3, h3⟩ : ∃ x, DataW.trod enc Tryz.prog w base sp held n 9 (([c0, c1, c2, c3, c4].drop 3).take (Tryz.prog.cellsOf 9)) = some x := field_of hf hxl 3 _ rfl
    obtain ⟨x4, h4⟩ : ∃ x, DataW.trod enc Tryz.prog w base sp held n 23 (([c0, c1, c2, c3, c4].drop 4).take (Tryz.prog.cellsOf 23)) = some x := field_of hf hxl 4 _ rfl
    rw [cells1.1] at h0
    rw [cells1.2.1] at h1
    rw [cells1.2.2.1] at h2
    rw [cells1.2.2.2.1] at h3
    rw [cells1.2.2.2.2] at h4
    simp only [List.drop_zero, List.drop_succ_cons, List.take_succ_cons, List.take_zero] at h0 h1 h2 h3 h4
    obtain ⟨k, e0, _, w0⟩ := DataW.trod_int Tryz.underlying3 h0
    obtain ⟨m, e1, _, w1⟩ := DataW.trod_int Tryz.underlying2 h1
    obtain ⟨b, e2, _, w2⟩ := DataW.trod_int Tryz.underlying22 h2
    obtain ⟨t, e3, _, w3⟩ := DataW.trod_string Tryz.underlying9 h3
    simp only [List.cons.injEq, and_true] at e0 e1 e2 e3
    subst e0 e1 e2 e3
    have hw := And.intro w0 (And.intro w1 (And.intro w2 w3))
    rcases DataW.trod_slice Tryz.underlying23 h4 with ⟨e4, _⟩ | ⟨a, len, cap, elems, rest, n4, _, e4, _, _, hlc, hcm, hel, hes, _, _⟩
    · simp only [List.cons.injEq, and_true] at e4
      subst e4
      exact ⟨_, Rep.mk k m b t none 0 0 0 (fun _ _ => (.bool false)) [] hw (fun h => absurd h (by simp)) (fun i hi => absurd hi (by simp)) (fun i x hx => by simp at hx)⟩
    · simp only [List.cons.injEq, and_true] at e4
      subst e4
      rw [cells25] at hes
      have hL : ∀ i, i < len → ∃ cs' x', w.cells? base (a.add (i * 5)) 5 = some cs' ∧ DataW.trod enc Tryz.prog w base sp held n4 25 cs' = some x' := fun i hi => by
        have h1 := hes i hi
        rw [List.getElem?_eq_getElem (by omega)] at h1
        obtain ⟨cs', hc', hx'⟩ := Option.bind_eq_some_iff.1 h1
        exact ⟨cs', _, hc', hx'⟩
      have hD : ∀ i, i < len → ∃ (cs' : List Value) (d : D), w.cells? base (a.add (i * 5)) 5 = some cs' ∧ Rep w (.agg cs'.toArray) d := fun i hi => by
        obtain ⟨cs', x', h1, h2⟩ := hL i hi
        obtain ⟨d, hd⟩ := ih n4 (by omega) cs' x' h2
        exact ⟨cs', d, h1, hd⟩
      obtain ⟨f, hfs⟩ := Classical.axiomOfChoice (r := fun (i : Nat) (y : List Value × D) => i < len → w.cells? base (a.add (i * 5)) 5 = some y.1 ∧ Rep w (.agg y.1.toArray) y.2) (fun i => by
        by_cases hi : i < len
        · obtain ⟨cs', d, h1, h2⟩ := hD i hi
          exact ⟨(cs', d), fun _ => ⟨h1, h2⟩⟩
        · exact ⟨([], .mk 0 0 0 ⟨#[]⟩ []), fun h => absurd h hi⟩)
      have hcell : ∀ i, i < len → ∀ j, j < 5 → w.cell? ((a.add (i * 5)).add j) = some ((f i).1.getD j (.bool false)) := fun i hi j hj => by
        obtain ⟨_, hl5, hc⟩ := World.cells?_some (hfs i hi).1
        rw [hc j hj, List.getD_eq_getElem?_getD, List.getElem?_eq_getElem (by omega)]
        rfl
      have hfive : ∀ i, i < len → five (fun i j => (f i).1.getD j (.bool false)) i = .agg (f i).1.toArray := fun i hi => by
        obtain ⟨_, hl5, _⟩ := World.cells?_some (hfs i hi).1
        obtain ⟨a0, a1, a2, a3, a4, e⟩ := list5 hl5
        show Value.agg #[(f i).1.getD 0 (.bool false), (f i).1.getD 1 (.bool false), (f i).1.getD 2 (.bool false), (f i).1.getD 3 (.bool false), (f i).1.getD 4 (.bool false)] = _
        rw [e]
        rfl
      have hlen : ((List.range len).map fun i => (f i).2).length = len := by simp
      have hsl : (.slice (some a) len cap : Value) = .slice (some a) ((List.range len).map fun i => (f i).2).length cap := by rw [hlen]
      refine ⟨.mk k m b t ((List.range len).map fun i => (f i).2), ?_⟩
      show Rep w (.agg #[.int .i64 k, .int .i64 m, .int .u64 b, .string t, .slice (some a) len cap]) _
      rw [hsl]
      have hcm' : cap ≤ 9223372036854775807 := by unfold maxLen at hcm; omega
      obtain ⟨g, o, sp'⟩ := a
      have hspot : 0 < len → sp' = none ∧ g < w.heap.size := fun h0 => by
        have h1 := hcell 0 h0 0 (by omega)
        have e : ((⟨g, o, sp'⟩ : Addr).add (0 * 5)).add 0 = ⟨g, o, sp'⟩ := rfl
        rw [e] at h1
        have h2 := World.cell?_spot h1
        exact ⟨h2, by cases h2; exact block_lt_of_cell h1⟩
      refine Rep.mk k m b t _ cap g o (fun i j => (f i).1.getD j (.bool false)) _ hw (fun h0 => ?_) ?_ ?_
      · rw [hlen] at h0 ⊢
        obtain ⟨rfl, h2⟩ := hspot h0
        exact ⟨rfl, h2, hlc, hcm'⟩
      · rw [hlen]
        intro i hi
        obtain ⟨rfl, _⟩ := hspot (by omega)
        have hA : ∀ j, ((⟨g, o, none⟩ : Addr).add (i * 5)).add j = ⟨g, o + i * 5 + j, none⟩ := fun j => by
          unfold Addr.add
          split <;> split <;> simp_all
        refine ⟨?_, ?_, ?_, ?_, ?_⟩
        · have := hcell i hi 0 (by omega); rwa [hA] at this
        · have := hcell i hi 1 (by omega); rwa [hA] at this
        · have := hcell i hi 2 (by omega); rwa [hA] at this
        · have := hcell i hi 3 (by omega); rwa [hA] at this
        · have := hcell i hi 4 (by omega); rwa [hA] at this
      · intro i x hx
        rw [List.getElem?_map] at hx
        by_cases hi : i < len
        · rw [List.getElem?_range hi] at hx
          simp only [Option.map_some, Option.some.injEq] at hx
          rw [hfive i hi, ← hx]
          exact (hfs i hi).2
        · rw [List.getElem?_eq_none (by simp; omega)] at hx
          cases hx
end
end Go.Proofs.YtecdniimikfbhaaGreatDoor

/- Contract of the reference's count: the parts of a value, as far as they are few. -/
namespace Go.Proofs.YtecdniimikfbhaaGreatDoor
open Go Go.RowKit Go.ChangeShapes Go.WideShapes

/-- No row of parts is long. -/
inductive Slim : D → Prop
  | mk (k m b : Int) (t : ByteArray) (kids : List D) (hl : kids.length ≤ 4096) (hk : ∀ x ∈ kids, Slim x) : Slim (.mk k m b t kids)
theorem Slim.inv {k m b : Int} {t : ByteArray} {kids : List D} (h : Slim (.mk k m b t kids)) : kids.length ≤ 4096 ∧ ∀ x ∈ kids, Slim x := by
  cases h with
  | mk _ _ _ _ _ hl hk => exact ⟨hl, hk⟩

theorem count_early (v : Value) (deep left : Int) (w : World) (h : decide (16 < deep) = true ∨ (decide (16 < deep) = false ∧ decide (left ≤ 0) = true)) (hv : ∃ c0 c1 c2 c3 c4, v = .agg #[c0, c1, c2, c3, c4]) :
    Calls Tryz.prog 14 #[v, .int .i64 deep, .int .i64 left] w fun x w' => x = .returned (.tuple #[.int .i64 4097, .int .i64 deep]) ∧ Below w.heap.size w w' := by
  obtain ⟨c0, c1, c2, c3, c4, rfl⟩ := hv
  go_enter Tryz.func14, Tryz.ntmps14
  rcases h with h | ⟨h1, h2⟩
  · go_wp2_with fail
    go_ret2
    exact ⟨rfl, by go_grown⟩
  · go_wp2_with fail
    go_ret2
    exact ⟨rfl, by go_grown⟩

set_option maxHeartbeats 1600000 in
theorem count_any {w0 : World} {v : Value} {d : D} (h : Rep w0 v d) : ∀ (deep left : Int) (w : World), Below w0.heap.size w0 w → 0 ≤ deep → deep ≤ 17 → -9000 ≤ left → left ≤ 4096 →
    Calls Tryz.prog 14 #[v, .int .i64 deep, .int .i64 left] w fun x w' => ∃ n m : Int, x = .returned (.tuple #[.int .i64 n, .int .i64 m]) ∧ ((1 ≤ n ∧ n ≤ left ∧ Slim d ∧ Hid (n = (d.parts : Int))) ∨ n = 4097) ∧ 0 ≤ m ∧ m ≤ 17 ∧ Below w.heap.size w w' := by
  induction h with
  | mk k m b t a cap g o c kids hw ha hc hk ih =>
    intro deep left w hb hd0 hd1 hl0 hl1
    by_cases h1 : 16 < deep
    · exact (count_early _ deep left w (Or.inl (by simpa using h1)) ⟨_, _, _, _, _, rfl⟩).mono fun x w' ⟨hx, hb'⟩ => ⟨4097, deep, hx, Or.inr rfl, hd0, hd1, hb'⟩
    by_cases h2 : left ≤ 0
    · exact (count_early _ deep left w (Or.inr ⟨by simpa using h1, by simpa using h2⟩) ⟨_, _, _, _, _, rfl⟩).mono fun x w' ⟨hx, hb'⟩ => ⟨4097, deep, hx, Or.inr rfl, hd0, hd1, hb'⟩
    have e1 : decide (16 < deep) = false := by simpa using h1
    have e2 : decide (left ≤ 0) = false := by simpa using h2
    have HI := Lib.hid ih
    have HA := Lib.hid ha
    have HC := Lib.hid hc
    clear ih ha hc hk hw
    obtain ⟨W1, hW1⟩ : ∃ W1, W1 = w.alloc (.cells #[.int .i64 k, .int .i64 m, .int .u64 b, .string t, .slice a kids.length cap] 25) := ⟨_, rfl⟩
    have hbW : Below w.heap.size w W1 := by rw [hW1]; exact (Below.refl _ _).alloc (Nat.le_refl _) _
    have hzW : w.heap.size + 1 ≤ W1.heap.size := by rw [hW1]; simp
    have hc4 : W1.cell? ⟨w.heap.size, 4, none⟩ = some (.slice a kids.length cap) := by rw [hW1]; go_cell
    have hB0 : Below w0.heap.size w0 W1 := hb.trans (hbW.mono hb.size)
    go_enter Tryz.func14, Tryz.ntmps14
    go_wp2_with fail
    rw [← hW1]
    clear hW1
    go_loopw [8, 9, 24] (fun n' mo i wr => ∃ (k : Nat) (nn mm : Int), k ≤ kids.length ∧ i = .int .i64 k ∧ n' = .int .i64 nn ∧ mo = .int .i64 mm ∧ (k : Int) + 1 ≤ nn ∧ nn ≤ left ∧ 0 ≤ mm ∧ mm ≤ 16 ∧ Below W1.heap.size W1 wr ∧ Hid (∀ j, j < k → ∀ x, kids[j]? = some x → Slim x) ∧ Hid (nn = 1 + (D.partsL (kids.take k) : Int))) (fun _ _ i _ => kids.length - (intOf i).toNat)
    case atStart => exact ⟨0, 1, deep, by omega, rfl, rfl, rfl, by omega, by omega, by omega, by omega, Below.refl _ _, fun j hj => absurd hj (by omega), (show (1 : Int) = 1 + (D.partsL [] : Int) from rfl)⟩
    case round =>
      obtain ⟨j, nn, mm, hj, rfl, rfl, rfl, hn0, hn1, hm0, hm1, hbr, hS, hP⟩ := hrel
      by_cases hlt : j < kids.length
      · obtain ⟨rfl, hg, hcp, hcm⟩ := HA.out (by omega)
        have hc4' : wr.cell? ⟨w.heap.size, 4, none⟩ = some (.slice (some ⟨g, o, none⟩) kids.length cap) := (hbr.cell (p := ⟨w.heap.size, 4, none⟩) hzW).trans hc4
        have hB1 : Below w0.heap.size w0 wr := hB0.trans (hbr.mono hB0.size)
        obtain ⟨q0, q1, q2, q3, q4⟩ := (HC.out.below hg hB1) j hlt
        have hx : kids[j]? = some kids[j] := List.getElem?_eq_getElem hlt
        have HX := Lib.hid (HI.out j _ hx)
        have HP2 := Lib.hid (D.partsL_take hx)
        have HS2 := Lib.hid (show Slim kids[j] → ∀ i, i < j + 1 → ∀ x, kids[i]? = some x → Slim x from fun h i hi x hx' => by
          by_cases e : i = j
          · subst e; rw [hx] at hx'; rw [← Option.some.inj hx']; exact h
          · exact hS.out i (by omega) x hx')
        clear hS hx
        unfold five at HX
        generalize c j 0 = v0 at q0 HX
        generalize c j 1 = v1 at q1 HX
        generalize c j 2 = v2 at q2 HX
        generalize c j 3 = v3 at q3 HX
        generalize c j 4 = v4 at q4 HX
        generalize kids[j] = kj at HX HP2 HS2
        go_wp2_with fail
        refine (HX.out (deep + 1) (left - nn) wr hB1 (by omega) (by omega) (by omega) (by omega)).mono ?_
        rintro x w2 ⟨n', m', rfl, hor, hm2, hm3, hb2⟩
        have hbr2 : Below W1.heap.size W1 w2 := hbr.trans (hb2.mono hbr.size)
        have hbw2 : Below w.heap.size w w2 := hbW.trans (hbr2.mono hbW.size)
        clear HX hb2 hbr q0 q1 q2 q3 q4 hc4'
        rcases hor with ⟨hn2, hn3, hsl, hpp⟩ | rfl
        · have e3 : decide (left < nn + n') = false := by simp; omega
          have HS3 := Lib.hid (HS2.out hsl)
          clear HS2
          go_wp2_with fail
          · go_ret2
            exact ⟨4097, m', rfl, Or.inr rfl, by omega, by omega, hbw2⟩
          · go_roundw
            case rel => exact ⟨j + 1, _, _, by omega, by go_num, rfl, rfl, by omega, by omega, by split <;> omega, by first | omega | (split <;> omega), hbr2, HS3, Lib.hid (by rw [HP2.out, hP.out, hpp.out]; omega)⟩
            case measure => simp [intOf]; omega
        · have e3 : decide (left < nn + 4097) = true := by simp; omega
          go_wp2_with fail
          · go_ret2
            exact ⟨4097, m', rfl, Or.inr rfl, by omega, by omega, hbw2⟩
          · go_ret2
            exact ⟨4097, mm, rfl, Or.inr rfl, by omega, by omega, hbw2⟩
      · obtain rfl : j = kids.length := by omega
        have hSl : Slim (.mk k m b t kids) := .mk _ _ _ _ _ (by omega) (fun x hx => by
          obtain ⟨i, hi, e⟩ := List.getElem_of_mem hx
          exact hS.out i hi x (by rw [← e]; exact List.getElem?_eq_getElem hi))
        have hbw2 : Below w.heap.size w wr := hbW.trans (hbr.mono hbW.size)
        go_wp2_with fail
        go_ret2
        exact ⟨nn, mm, rfl, Or.inl ⟨by omega, hn1, hSl, Lib.hid (by rw [hP.out, List.take_length]; simp [D.parts])⟩, hm0, by omega, hbw2⟩

/-- As its kind has it, and so all parts. -/
def okTop (k m b : Int) (t : ByteArray) (n : Nat) : Prop :=
  0 ≤ k ∧ k ≤ 13 ∧ (k = 9 → n = 2) ∧ (k = 11 → n = 1) ∧ (k = 8 ∨ k = 9 ∨ k = 11 ∨ n = 0) ∧ t.size ≤ 65535 ∧
  ((k = 1 ∨ k = 2 ∨ k = 6 ∨ k = 10 ∨ k = 11) ∨ m = 0) ∧ (k = 3 ∨ b = 0) ∧ ((k = 4 ∨ k = 5 ∨ k = 7 ∨ k = 10) ∨ t.toList = []) ∧ (k = 6 → m = 0 ∨ m = 1) ∧ (k = 11 → 1 ≤ m)
inductive Right : D → Prop
  | mk (k m b : Int) (t : ByteArray) (kids : List D) (hl : okTop k m b t kids.length) (hk : ∀ x ∈ kids, Right x) : Right (.mk k m b t kids)
theorem Right.inv {k m b : Int} {t : ByteArray} {kids : List D} (h : Right (.mk k m b t kids)) : okTop k m b t kids.length ∧ ∀ x ∈ kids, Right x := by
  cases h with
  | mk _ _ _ _ _ hl hk => exact ⟨hl, hk⟩
end Go.Proofs.YtecdniimikfbhaaGreatDoor

/- Contract of the reference's right: each part is as its kind has it. -/
namespace Go.Proofs.YtecdniimikfbhaaGreatDoor
open Go Go.RowKit Go.ChangeShapes Go.WideShapes

theorem eq_of_bne {a b : Int} (h : (a != b) = false) : a = b := by simpa using h
theorem okTop_of {k m b : Int} {t : ByteArray} {n : Nat} {r3 r4 r5 : Bool} {p : Int} (h : 0 ≤ k ∧ k ≤ 13 ∧ (r3 = true → k = 1 ∨ k = 2 ∨ k = 6 ∨ k = 10 ∨ k = 11) ∧ (r4 = true → k = 3) ∧ (r5 = true → k = 4 ∨ k = 5 ∨ k = 7 ∨ k = 10) ∧ (p = -1 ∧ k = 8 ∨ p = 2 ∧ k = 9 ∨ p = 1 ∧ k = 11 ∨ p = 0 ∧ k ≠ 8 ∧ k ≠ 9 ∧ k ≠ 11) ∧ (k = 6 → m = 0 ∨ m = 1) ∧ (k = 11 → 1 ≤ m))
    (h1 : r3 = true ∨ m = 0) (h2 : r4 = true ∨ b = 0) (h3 : r5 = true ∨ t.toList = []) (h4 : ¬ 0 ≤ p ∨ (n : Int) = p) (h5 : ¬ 65535 < (t.size : Int)) : okTop k m b t n := by
  obtain ⟨f1, f2, f3, f4, f5, f6, f7, f8⟩ := h
  refine ⟨f1, f2, by omega, by omega, by omega, by omega, h1.imp f3 id, h2.imp f4 id, h3.imp f5 id, f7, f8⟩

set_option maxRecDepth 100000 in
set_option maxHeartbeats 3200000 in
theorem right_any {w0 : World} {v : Value} {d : D} (h : Rep w0 v d) : ∀ (w : World), Below w0.heap.size w0 w →
    Calls Tryz.prog 15 #[v] w fun x w' => ∃ r : Bool, x = .returned (.bool r) ∧ (r = true → Right d) ∧ Below w.heap.size w w' := by
  induction h with
  | mk k m b t a cap g o c kids hw ha hc hk ih =>
    intro w hb
    have HI := Lib.hid ih
    have HA := Lib.hid ha
    have HC := Lib.hid hc
    clear ih ha hc hk hw
    obtain ⟨W1, hW1⟩ : ∃ W1, W1 = w.alloc (.cells #[.int .i64 k, .int .i64 m, .int .u64 b, .string t, .slice a kids.length cap] 25) := ⟨_, rfl⟩
    have hbW : Below w.heap.size w W1 := by rw [hW1]; exact (Below.refl _ _).alloc (Nat.le_refl _) _
    have hzW : w.heap.size + 1 ≤ W1.heap.size := by rw [hW1]; simp
    have hc0 : W1.cell? ⟨w.heap.size, 0, none⟩ = some (.int .i64 k) := by rw [hW1]; go_cell
    have hc1 : W1.cell? ⟨w.heap.size, 1, none⟩ = some (.int .i64 m) := by rw [hW1]; go_cell
    have hc2 : W1.cell? ⟨w.heap.size, 2, none⟩ = some (.int .u64 b) := by rw [hW1]; go_cell
    have hc3 : W1.cell? ⟨w.heap.size, 3, none⟩ = some (.string t) := by rw [hW1]; go_cell
    have hc4 : W1.cell? ⟨w.heap.size, 4, none⟩ = some (.slice a kids.length cap) := by rw [hW1]; go_cell
    have hB0 : Below w0.heap.size w0 W1 := hb.trans (hbW.mono hb.size)
    go_enter Tryz.func15, Tryz.ntmps15
    go_upto_block 0 with fail
    rw [← hW1]
    clear hW1
    go_cut [3, 4, 5, 6] (fun f3 f4 f5 f6 wx => ∃ (r3 r4 r5 : Bool) (p : Int), f3 = .bool r3 ∧ f4 = .bool r4 ∧ f5 = .bool r5 ∧ f6 = .int .i64 p ∧ W1 = wx ∧ Hid (0 ≤ k ∧ k ≤ 13 ∧ (r3 = true → k = 1 ∨ k = 2 ∨ k = 6 ∨ k = 10 ∨ k = 11) ∧ (r4 = true → k = 3) ∧ (r5 = true → k = 4 ∨ k = 5 ∨ k = 7 ∨ k = 10) ∧ (p = -1 ∧ k = 8 ∨ p = 2 ∧ k = 9 ∨ p = 1 ∧ k = 11 ∨ p = 0 ∧ k ≠ 8 ∧ k ≠ 9 ∧ k ≠ 11) ∧ (k = 6 → m = 0 ∨ m = 1) ∧ (k = 11 → 1 ≤ m)))
    case first =>
      clear HI HA HC hB0
      have hm : (m != 0) = false ∨ ((m != 0) = true ∧ (m != 1) = false) ∨ ((m != 0) = true ∧ (m != 1) = true) := by
        cases m != 0 <;> cases m != 1 <;> simp
      rcases hm with hm0 | ⟨hm0, hm1⟩ | ⟨hm0, hm1⟩
      all_goals go_wp2_with fail
      all_goals first
        | (go_ret; exact ⟨false, rfl, fun h => (by cases h), hbW⟩)
        | (go_meet; refine ⟨_, _, _, _, rfl, rfl, rfl, rfl, rfl, ?_⟩; unfold Hid; simp only [beq_iff_eq, beq_eq_false_iff_ne, ne_eq, bne_iff_ne, bne_eq_false_iff_eq] at *; refine ⟨?_, ?_, ?_, ?_, ?_, ?_, ?_, ?_⟩ <;> first | omega | (simp; done) | (simp; omega) | (intro h; cases h))
    case rest =>
      obtain ⟨r3, r4, r5, p, rfl, rfl, rfl, rfl, hW, HF⟩ := hcut
      subst hW
      go_upto_region 32 with fail
      go_cut [3, 4, 5, 6, 85] (fun _ _ _ _ f wx => ∃ r : Bool, f = .bool r ∧ W1 = wx ∧ Hid (r = false → okTop k m b t kids.length))
      case first =>
        clear HI HA HC hB0
        obtain ⟨q1, e1⟩ : ∃ q, (m != 0) = q := ⟨_, rfl⟩
        obtain ⟨q2, e2⟩ : ∃ q, (b != 0) = q := ⟨_, rfl⟩
        obtain ⟨q4, e4⟩ : ∃ q, ((kids.length : Int) != p) = q := ⟨_, rfl⟩
        obtain ⟨q5, e5⟩ : ∃ q, decide (65535 < (t.size : Int)) = q := ⟨_, rfl⟩
        obtain ⟨q6, e6⟩ : ∃ q, decide (0 ≤ p) = q := ⟨_, rfl⟩
        go_wp2_with fail
        all_goals go_meet
        all_goals refine ⟨_, rfl, rfl, ?_⟩
        all_goals intro hr
        all_goals first | (exact absurd hr (by decide)) | skip
        all_goals refine okTop_of HF.out ?_ ?_ ?_ ?_ ?_
        all_goals (try simp only [Bool.not_eq_true] at *)
        all_goals subst e1 e2 e4 e5 e6
        all_goals first
          | (exact Or.inl (by assumption))
          | (exact Or.inr (by assumption))
          | (exact Or.inr (eq_of_bne (by assumption)))
          | (exact Or.inl (of_decide_eq_false (by assumption)))
          | (exact of_decide_eq_false (by assumption))
      case rest =>
        obtain ⟨r, rfl, hW, HO⟩ := hcut
        subst hW
        cases r with
        | true =>
          go_wp2_with fail
          go_ret
          exact ⟨false, rfl, fun h => (by cases h), hbW⟩
        | false =>
          have HT := Lib.hid (HO.out rfl)
          clear HO HF
          go_wp2_with fail
          go_loopw [89] (fun i wr => ∃ j : Nat, j ≤ kids.length ∧ i = .int .i64 j ∧ Below W1.heap.size W1 wr ∧ Hid (∀ i, i < j → ∀ x, kids[i]? = some x → Right x)) (fun i _ => kids.length - (intOf i).toNat)
          case atStart => exact ⟨0, by omega, rfl, Below.refl _ _, fun j hj => absurd hj (by omega)⟩
          case round =>
            obtain ⟨j, hj, rfl, hbr, hS⟩ := hrel
            by_cases hlt : j < kids.length
            · obtain ⟨rfl, hg, hcp, hcm⟩ := HA.out (by omega)
              have hc4' : wr.cell? ⟨w.heap.size, 4, none⟩ = some (.slice (some ⟨g, o, none⟩) kids.length cap) := (hbr.cell (p := ⟨w.heap.size, 4, none⟩) hzW).trans hc4
              have hB1 : Below w0.heap.size w0 wr := hB0.trans (hbr.mono hB0.size)
              obtain ⟨q0, q1, q2, q3, q4⟩ := (HC.out.below hg hB1) j hlt
              have hx : kids[j]? = some kids[j] := List.getElem?_eq_getElem hlt
              have HX := Lib.hid (HI.out j _ hx)
              have HS2 := Lib.hid (show Right kids[j] → ∀ i, i < j + 1 → ∀ x, kids[i]? = some x → Right x from fun h i hi x hx' => by
                by_cases e : i = j
                · subst e; rw [hx] at hx'; rw [← Option.some.inj hx']; exact h
                · exact hS.out i (by omega) x hx')
              clear hS hx
              unfold five at HX
              generalize c j 0 = v0 at q0 HX
              generalize c j 1 = v1 at q1 HX
              generalize c j 2 = v2 at q2 HX
              generalize c j 3 = v3 at q3 HX
              generalize c j 4 = v4 at q4 HX
              go_wp2_with fail
              refine (HX.out wr hB1).mono ?_
              rintro x w2 ⟨r, rfl, hr, hb2⟩
              have hbr2 : Below W1.heap.size W1 w2 := hbr.trans (hb2.mono hbr.size)
              have hbw2 : Below w.heap.size w w2 := hbW.trans (hbr2.mono hbW.size)
              clear HX hb2 hbr q0 q1 q2 q3 q4 hc4'
              cases r with
              | false =>
                go_wp2_with fail
                go_ret
                exact ⟨false, rfl, fun h => (by cases h), hbw2⟩
              | true =>
                have HS3 := Lib.hid (HS2.out (hr rfl))
                clear HS2 hr
                go_wp2_with fail
                go_roundw
                case rel => exact ⟨j + 1, by omega, by go_num, hbr2, HS3⟩
                case measure => simp [intOf]; omega
            · obtain rfl : j = kids.length := by omega
              have hbw2 : Below w.heap.size w wr := hbW.trans (hbr.mono hbW.size)
              have hR : Right (.mk k m b t kids) := .mk _ _ _ _ _ HT.out (fun x hx => by
                obtain ⟨i, hi, e⟩ := List.getElem_of_mem hx
                exact hS.out i hi x (by rw [← e]; exact List.getElem?_eq_getElem hi))
              go_wp2_with fail
              go_ret
              exact ⟨true, rfl, fun _ => hR, hbw2⟩
end Go.Proofs.YtecdniimikfbhaaGreatDoor

/- Contracts of the reference's Valid and Same. -/
namespace Go.Proofs.YtecdniimikfbhaaGreatDoor
open Go Go.RowKit Go.ChangeShapes Go.WideShapes

theorem Rep.five {w : World} {v : Value} {d : D} (h : Rep w v d) : ∃ c0 c1 c2 c3 c4, v = .agg #[c0, c1, c2, c3, c4] := by
  obtain ⟨k, m, b, t, a, cap, g, o, c, kids, e, _⟩ := h.inv
  exact ⟨_, _, _, _, _, e⟩

theorem valid_any {w0 : World} {v : Value} {d : D} (h : Rep w0 v d) (w : World) (hb : Below w0.heap.size w0 w) :
    Calls Tryz.prog 5 #[v] w fun x w' => ∃ r : Bool, x = .returned (.bool r) ∧ (r = true → Slim d ∧ Right d ∧ d.parts ≤ 4096) ∧ Below w.heap.size w w' := by
  have HC := Lib.hid (count_any h)
  have HR := Lib.hid (right_any h)
  obtain ⟨c0, c1, c2, c3, c4, rfl⟩ := h.five
  clear h
  obtain ⟨W1, hW1⟩ : ∃ W1, W1 = w.alloc (.cells #[c0, c1, c2, c3, c4] 25) := ⟨_, rfl⟩
  have hbW : Below w.heap.size w W1 := by rw [hW1]; exact (Below.refl _ _).alloc (Nat.le_refl _) _
  have hzW : w.heap.size < W1.heap.size := by rw [hW1]; simp
  have hB0 : Below w0.heap.size w0 W1 := hb.trans (hbW.mono hb.size)
  have u0 : W1.cell? ⟨w.heap.size, 0, none⟩ = some c0 := by rw [hW1]; go_cell
  have u1 : W1.cell? ⟨w.heap.size, 1, none⟩ = some c1 := by rw [hW1]; go_cell
  have u2 : W1.cell? ⟨w.heap.size, 2, none⟩ = some c2 := by rw [hW1]; go_cell
  have u3 : W1.cell? ⟨w.heap.size, 3, none⟩ = some c3 := by rw [hW1]; go_cell
  have u4 : W1.cell? ⟨w.heap.size, 4, none⟩ = some c4 := by rw [hW1]; go_cell
  go_enter Tryz.func5, Tryz.ntmps5
  go_upto_region 1 with fail
  rw [← hW1]
  clear hW1
  go_wp2_with fail
  refine (HC.out 1 4096 W1 hB0 (by omega) (by omega) (by omega) (by omega)).mono ?_
  rintro x w2 ⟨n, m, rfl, hor, hm0, hm1, hb2⟩
  have hB2 : Below w0.heap.size w0 w2 := hB0.trans (hb2.mono hB0.size)
  have hbw2 : Below w.heap.size w w2 := hbW.trans (hb2.mono hbW.size)
  have u0 : w2.cell? ⟨w.heap.size, 0, none⟩ = some c0 := (hb2.cell (p := ⟨w.heap.size, 0, none⟩) hzW).trans u0
  have u1 : w2.cell? ⟨w.heap.size, 1, none⟩ = some c1 := (hb2.cell (p := ⟨w.heap.size, 1, none⟩) hzW).trans u1
  have u2 : w2.cell? ⟨w.heap.size, 2, none⟩ = some c2 := (hb2.cell (p := ⟨w.heap.size, 2, none⟩) hzW).trans u2
  have u3 : w2.cell? ⟨w.heap.size, 3, none⟩ = some c3 := (hb2.cell (p := ⟨w.heap.size, 3, none⟩) hzW).trans u3
  have u4 : w2.cell? ⟨w.heap.size, 4, none⟩ = some c4 := (hb2.cell (p := ⟨w.heap.size, 4, none⟩) hzW).trans u4
  rcases hor with ⟨hn1, hn2, hsl, hpp⟩ | rfl
  · have e1 : decide (n ≤ 4096) = true := by simpa using hn2
    cases e2 : decide (m ≤ 16) with
    | false =>
      go_wp2_with fail
      go_ret
      exact ⟨false, rfl, fun h => (by cases h), hbw2⟩
    | true =>
      go_wp2_with fail
      refine (HR.out w2 hB2).mono ?_
      rintro x w3 ⟨r, rfl, hr, hb3⟩
      have hbw3 : Below w.heap.size w w3 := hbw2.trans (hb3.mono hbw2.size)
      have HRR := Lib.hid hr
      clear hr
      go_wp2_with fail
      go_ret
      exact ⟨r, rfl, fun h => ⟨hsl, HRR.out h, by have := hpp.out; omega⟩, hbw3⟩
  · go_wp2_with fail
    go_ret
    exact ⟨false, rfl, fun h => (by cases h), hbw2⟩

theorem keep12 {W w1 w2 : World} {B g g' p p' : Nat} {s1 s2 v0 v1 v2 v3 v4 z0 z1 z2 z3 z4 : Value} (hB : B + 2 ≤ W.heap.size) (hg : g < W.heap.size) (hg' : g' < W.heap.size)
    (h : w1.cell? ⟨B, 4, none⟩ = some s1 ∧ w1.cell? ⟨B + 1, 4, none⟩ = some s2 ∧ w1.cell? ⟨g, p, none⟩ = some v0 ∧ w1.cell? ⟨g, p + 1, none⟩ = some v1 ∧ w1.cell? ⟨g, p + 2, none⟩ = some v2 ∧ w1.cell? ⟨g, p + 3, none⟩ = some v3 ∧ w1.cell? ⟨g, p + 4, none⟩ = some v4 ∧ w1.cell? ⟨g', p', none⟩ = some z0 ∧ w1.cell? ⟨g', p' + 1, none⟩ = some z1 ∧ w1.cell? ⟨g', p' + 2, none⟩ = some z2 ∧ w1.cell? ⟨g', p' + 3, none⟩ = some z3 ∧ w1.cell? ⟨g', p' + 4, none⟩ = some z4 ∧ Below W.heap.size W w1) (hb : Below w1.heap.size w1 w2) :
    w2.cell? ⟨B, 4, none⟩ = some s1 ∧ w2.cell? ⟨B + 1, 4, none⟩ = some s2 ∧ w2.cell? ⟨g, p, none⟩ = some v0 ∧ w2.cell? ⟨g, p + 1, none⟩ = some v1 ∧ w2.cell? ⟨g, p + 2, none⟩ = some v2 ∧ w2.cell? ⟨g, p + 3, none⟩ = some v3 ∧ w2.cell? ⟨g, p + 4, none⟩ = some v4 ∧ w2.cell? ⟨g', p', none⟩ = some z0 ∧ w2.cell? ⟨g', p' + 1, none⟩ = some z1 ∧ w2.cell? ⟨g', p' + 2, none⟩ = some z2 ∧ w2.cell? ⟨g', p' + 3, none⟩ = some z3 ∧ w2.cell? ⟨g', p' + 4, none⟩ = some z4 ∧ Below W.heap.size W w2 := by
  obtain ⟨h1, h2, a0, a1, a2, a3, a4, b0, b1, b2, b3, b4, hB1⟩ := h
  have hz := hB1.size
  exact ⟨(hb.cell (p := ⟨B, 4, none⟩) (by simp; omega)).trans h1, (hb.cell (p := ⟨B + 1, 4, none⟩) (by simp; omega)).trans h2, (hb.cell (p := ⟨g, _, none⟩) (by simp; omega)).trans a0, (hb.cell (p := ⟨g, _, none⟩) (by simp; omega)).trans a1, (hb.cell (p := ⟨g, _, none⟩) (by simp; omega)).trans a2, (hb.cell (p := ⟨g, _, none⟩) (by simp; omega)).trans a3, (hb.cell (p := ⟨g, _, none⟩) (by simp; omega)).trans a4,
    (hb.cell (p := ⟨g', _, none⟩) (by simp; omega)).trans b0, (hb.cell (p := ⟨g', _, none⟩) (by simp; omega)).trans b1, (hb.cell (p := ⟨g', _, none⟩) (by simp; omega)).trans b2, (hb.cell (p := ⟨g', _, none⟩) (by simp; omega)).trans b3, (hb.cell (p := ⟨g', _, none⟩) (by simp; omega)).trans b4, hB1.trans (hb.mono hB1.size)⟩

theorem held12 {W w1 : World} {B g g' p p' : Nat} {s1 s2 v0 v1 v2 v3 v4 z0 z1 z2 z3 z4 : Value} (h : w1.cell? ⟨B, 4, none⟩ = some s1 ∧ w1.cell? ⟨B + 1, 4, none⟩ = some s2 ∧ w1.cell? ⟨g, p, none⟩ = some v0 ∧ w1.cell? ⟨g, p + 1, none⟩ = some v1 ∧ w1.cell? ⟨g, p + 2, none⟩ = some v2 ∧ w1.cell? ⟨g, p + 3, none⟩ = some v3 ∧ w1.cell? ⟨g, p + 4, none⟩ = some v4 ∧ w1.cell? ⟨g', p', none⟩ = some z0 ∧ w1.cell? ⟨g', p' + 1, none⟩ = some z1 ∧ w1.cell? ⟨g', p' + 2, none⟩ = some z2 ∧ w1.cell? ⟨g', p' + 3, none⟩ = some z3 ∧ w1.cell? ⟨g', p' + 4, none⟩ = some z4 ∧ Below W.heap.size W w1) : Below W.heap.size W w1 := by
  obtain ⟨h1, h2, a0, a1, a2, a3, a4, b0, b1, b2, b3, b4, hB1⟩ := h
  exact hB1

set_option maxHeartbeats 1600000 in
/-- Two that are one Datum are the same. -/
theorem same_self {w0 : World} {v : Value} {d : D} (h : Rep w0 v d) : ∀ (v' : Value), Rep w0 v' d → ∀ (w : World), Below w0.heap.size w0 w →
    Calls Tryz.prog 11 #[v, v'] w fun x w' => x = .returned (.bool true) ∧ Below w.heap.size w w' := by
  induction h with
  | mk k m b t a cap g o c kids hw ha hc hk ih =>
    intro v' h' w hb
    obtain ⟨k', m', b', t', a', cap', g', o', c', kids', rfl, e, _, ha', hc', hk'⟩ := h'.inv
    simp only [D.mk.injEq] at e
    obtain ⟨rfl, rfl, rfl, rfl, rfl⟩ := e
    have HI := Lib.hid ih
    have HA := Lib.hid ha
    have HC := Lib.hid hc
    have HA' := Lib.hid ha'
    have HC' := Lib.hid hc'
    have HK' := Lib.hid hk'
    clear ih ha hc hk hw ha' hc' hk' h'
    obtain ⟨W1, hW1⟩ : ∃ W1, W1 = (w.alloc (.cells #[.int .i64 k, .int .i64 m, .int .u64 b, .string t, .slice a kids.length cap] 25)).alloc (.cells #[.int .i64 k, .int .i64 m, .int .u64 b, .string t, .slice a' kids.length cap'] 25) := ⟨_, rfl⟩
    have hbW : Below w.heap.size w W1 := by rw [hW1]; go_grown
    have hzW : w.heap.size + 2 ≤ W1.heap.size := by rw [hW1]; simp
    have u0 : W1.cell? ⟨w.heap.size, 0, none⟩ = some (.int .i64 k) := by rw [hW1]; go_cell
    have u1 : W1.cell? ⟨w.heap.size, 1, none⟩ = some (.int .i64 m) := by rw [hW1]; go_cell
    have u2 : W1.cell? ⟨w.heap.size, 2, none⟩ = some (.int .u64 b) := by rw [hW1]; go_cell
    have u3 : W1.cell? ⟨w.heap.size, 3, none⟩ = some (.string t) := by rw [hW1]; go_cell
    have u4 : W1.cell? ⟨w.heap.size, 4, none⟩ = some (.slice a kids.length cap) := by rw [hW1]; go_cell
    have x0 : W1.cell? ⟨w.heap.size + 1, 0, none⟩ = some (.int .i64 k) := by rw [hW1]; go_cell
    have x1 : W1.cell? ⟨w.heap.size + 1, 1, none⟩ = some (.int .i64 m) := by rw [hW1]; go_cell
    have x2 : W1.cell? ⟨w.heap.size + 1, 2, none⟩ = some (.int .u64 b) := by rw [hW1]; go_cell
    have x3 : W1.cell? ⟨w.heap.size + 1, 3, none⟩ = some (.string t) := by rw [hW1]; go_cell
    have x4 : W1.cell? ⟨w.heap.size + 1, 4, none⟩ = some (.slice a' kids.length cap') := by rw [hW1]; go_cell
    have hB0 : Below w0.heap.size w0 W1 := hb.trans (hbW.mono hb.size)
    go_enter Tryz.func11, Tryz.ntmps11
    go_upto_region 1 with fail
    rw [← hW1]
    clear hW1
    go_wp2_with fail
    go_loopw [44] (fun i wr => ∃ j : Nat, j ≤ kids.length ∧ i = .int .i64 j ∧ Below W1.heap.size W1 wr) (fun i _ => kids.length - (intOf i).toNat)
    case atStart => exact ⟨0, by omega, rfl, Below.refl _ _⟩
    case round =>
      obtain ⟨j, hj, rfl, hbr⟩ := hrel
      by_cases hlt : j < kids.length
      · obtain ⟨rfl, hg, hcp, hcm⟩ := HA.out (by omega)
        obtain ⟨rfl, hg', hcp', hcm'⟩ := HA'.out (by omega)
        have hzr := hbr.size
        have p4 : wr.cell? ⟨w.heap.size, 4, none⟩ = some (.slice (some ⟨g, o, none⟩) kids.length cap) := (hbr.cell (p := ⟨w.heap.size, 4, none⟩) (by simp; omega)).trans u4
        have y4 : wr.cell? ⟨w.heap.size + 1, 4, none⟩ = some (.slice (some ⟨g', o', none⟩) kids.length cap') := (hbr.cell (p := ⟨w.heap.size + 1, 4, none⟩) (by simp; omega)).trans x4
        have hB1 : Below w0.heap.size w0 wr := hB0.trans (hbr.mono hB0.size)
        have hzg := hB1.size
        obtain ⟨q0, q1, q2, q3, q4⟩ := (HC.out.below hg hB1) j hlt
        obtain ⟨r0, r1, r2, r3, r4⟩ := (HC'.out.below hg' hB1) j hlt
        have hx : kids[j]? = some kids[j] := List.getElem?_eq_getElem hlt
        have HX := Lib.hid (HI.out j _ hx (five c' j) (HK'.out j _ hx))
        clear hx
        unfold five at HX
        generalize c j 0 = v0 at q0 HX
        generalize c j 1 = v1 at q1 HX
        generalize c j 2 = v2 at q2 HX
        generalize c j 3 = v3 at q3 HX
        generalize c j 4 = v4 at q4 HX
        generalize c' j 0 = z0 at r0 HX
        generalize c' j 1 = z1 at r1 HX
        generalize c' j 2 = z2 at r2 HX
        generalize c' j 3 = z3 at r3 HX
        generalize c' j 4 = z4 at r4 HX
        have HX2 := Lib.hid (fun w' (h : Below wr.heap.size wr w') => HX.out w' (hB1.trans (h.mono hzg)))
        clear HX
        have hK1 : w.heap.size + 2 ≤ wr.heap.size := by omega
        have hK2 : g < wr.heap.size := by omega
        have hK3 : g' < wr.heap.size := by omega
        clear u0 u1 u2 u3 u4 x0 x1 x2 x3 x4
        go_wp2_with fail
        go_region_held3 (fun w' => w'.cell? ⟨w.heap.size, 4, none⟩ = some (.slice (some ⟨g, o, none⟩) kids.length cap) ∧ w'.cell? ⟨w.heap.size + 1, 4, none⟩ = some (.slice (some ⟨g', o', none⟩) kids.length cap') ∧ w'.cell? ⟨g, o + j * 5, none⟩ = some v0 ∧ w'.cell? ⟨g, o + j * 5 + 1, none⟩ = some v1 ∧ w'.cell? ⟨g, o + j * 5 + 2, none⟩ = some v2 ∧ w'.cell? ⟨g, o + j * 5 + 3, none⟩ = some v3 ∧ w'.cell? ⟨g, o + j * 5 + 4, none⟩ = some v4 ∧ w'.cell? ⟨g', o' + j * 5, none⟩ = some z0 ∧ w'.cell? ⟨g', o' + j * 5 + 1, none⟩ = some z1 ∧ w'.cell? ⟨g', o' + j * 5 + 2, none⟩ = some z2 ∧ w'.cell? ⟨g', o' + j * 5 + 3, none⟩ = some z3 ∧ w'.cell? ⟨g', o' + j * 5 + 4, none⟩ = some z4 ∧ Below wr.heap.size wr w')
          (first | (exact ⟨p4, y4, q0, q1, q2, q3, q4, r0, r1, r2, r3, r4, by go_grown⟩) | (exact keep12 hK1 hK2 hK3 (by assumption) (by assumption)) | fail)
          (try (go_at_call 11; refine (HX2.out _ (held12 (by assumption))).mono ?_; rintro x w2 ⟨rfl, hb2⟩))
        have hq := held12 (by assumption)
        go_wp2_with fail
        go_roundw
        case rel => exact ⟨j + 1, by omega, by go_num, hbr.trans (hq.mono hzr)⟩
        case measure => simp [intOf]; omega
      · obtain rfl : j = kids.length := by omega
        have hbw2 : Below w.heap.size w wr := hbW.trans (hbr.mono hbW.size)
        go_wp2_with fail
        go_ret
        exact ⟨rfl, hbw2⟩
end Go.Proofs.YtecdniimikfbhaaGreatDoor

/- A Datum with its footprint; rows of them that the call makes. -/
namespace Go.Proofs.YtecdniimikfbhaaGreatDoor
open Go Go.RowKit Go.ChangeShapes Go.WideShapes

/-- A block that the claimer may write: the predicate holds of it, and nothing of it is frozen. -/
def OwnB (w : World) (Q : Nat → Prop) (g : Nat) : Prop := Q g ∧ ∀ j, w.frozen? ⟨g, j, none⟩ = false
theorem frozen_block {w w1 : World} {g : Nat} (h : w1.heap[g]? = w.heap[g]?) (j : Nat) : w1.frozen? ⟨g, j, none⟩ = w.frozen? ⟨g, j, none⟩ := by
  unfold World.frozen?
  simp only [h]

/-- A value is a Datum, all in blocks of Q. -/
inductive RepQ (w : World) (Q : Nat → Prop) : Value → D → Prop
  | mk (k m b : Int) (t : ByteArray) (a : Option Addr) (cap g o : Nat) (c : Nat → Nat → Value) (kids : List D)
      (hw : (Lit.int .i64 k).wf = true ∧ (Lit.int .i64 m).wf = true ∧ (Lit.int .u64 b).wf = true ∧ t.size ≤ maxLen)
      (ha : 0 < kids.length → a = some ⟨g, o, none⟩ ∧ OwnB w Q g ∧ g < w.heap.size ∧ kids.length ≤ cap ∧ cap ≤ 9223372036854775807)
      (hc : Row5 w g o kids.length c)
      (hk : ∀ i x, kids[i]? = some x → RepQ w Q (five c i) x) :
      RepQ w Q (.agg #[.int .i64 k, .int .i64 m, .int .u64 b, .string t, .slice a kids.length cap]) (.mk k m b t kids)

theorem RepQ.rep {w : World} {Q : Nat → Prop} {v : Value} {d : D} (h : RepQ w Q v d) : Rep w v d := by
  induction h with
  | mk k m b t a cap g o c kids hw ha hc hk ih => exact .mk k m b t a cap g o c kids hw (fun h0 => ⟨(ha h0).1, (ha h0).2.2⟩) hc ih

theorem RepQ.carry {w w1 : World} {Q Q1 : Nat → Prop} {v : Value} {d : D} (h : RepQ w Q v d) (hb : ∀ b, Q b → b < w.heap.size → w1.heap[b]? = w.heap[b]? ∧ Q1 b) (hz : w.heap.size ≤ w1.heap.size) : RepQ w1 Q1 v d := by
  induction h with
  | mk k m b t a cap g o c kids hw ha hc hk ih =>
    refine .mk k m b t a cap g o c kids hw (fun h0 => ?_) ?_ ih
    · obtain ⟨h1, h2, h3, h4⟩ := ha h0
      exact ⟨h1, ⟨(hb g h2.1 h3).2, fun j => (frozen_block (hb g h2.1 h3).1 j).trans (h2.2 j)⟩, Nat.lt_of_lt_of_le h3 hz, h4⟩
    · by_cases h0 : 0 < kids.length
      · obtain ⟨_, h2, h3, _⟩ := ha h0
        have hq := (hb g h2.1 h3).1
        intro i hi
        obtain ⟨q0, q1, q2, q3, q4⟩ := hc i hi
        exact ⟨(World.cell?_of_block (w := w) hq).trans q0, (World.cell?_of_block (w := w) hq).trans q1, (World.cell?_of_block (w := w) hq).trans q2, (World.cell?_of_block (w := w) hq).trans q3, (World.cell?_of_block (w := w) hq).trans q4⟩
      · exact fun i hi => absurd hi (by omega)

/-- The cells of n elements. -/
def rowCells (c : Nat → Nat → Value) (n : Nat) : List Value := (List.range n).flatMap fun i => [c i 0, c i 1, c i 2, c i 3, c i 4]
theorem rowCells_length (c : Nat → Nat → Value) (n : Nat) : (rowCells c n).length = n * 5 := by
  induction n with
  | zero => rfl
  | succ n ih =>
    unfold rowCells at ih ⊢
    rw [List.range_succ, List.flatMap_append, List.length_append, ih]
    simp; omega
theorem flatMap_same {α β : Type} {f g : α → List β} : ∀ {l : List α}, (∀ x ∈ l, f x = g x) → l.flatMap f = l.flatMap g
  | [], _ => rfl
  | a :: l, h => by
    rw [List.flatMap_cons, List.flatMap_cons, h a (by simp), flatMap_same (fun x hx => h x (by simp [hx]))]
theorem rowCells_snoc (c c' : Nat → Nat → Value) (n : Nat) (h : ∀ i, i < n → ∀ j, c' i j = c i j) : rowCells c' (n + 1) = rowCells c n ++ [c' n 0, c' n 1, c' n 2, c' n 3, c' n 4] := by
  unfold rowCells
  rw [List.range_succ, List.flatMap_append]
  have e : (List.range n).flatMap (fun i => [c' i 0, c' i 1, c' i 2, c' i 3, c' i 4]) = (List.range n).flatMap (fun i => [c i 0, c i 1, c i 2, c i 3, c i 4]) := by
    refine flatMap_same fun i hi => ?_
    have hi' := List.mem_range.1 hi
    rw [h i hi', h i hi', h i hi', h i hi', h i hi']
  rw [e]
  simp
theorem rowCells_get (c : Nat → Nat → Value) (n : Nat) : ∀ i, i < n → ∀ j, j < 5 → (rowCells c n)[i * 5 + j]? = some (c i j) := by
  induction n with
  | zero => intro i hi; omega
  | succ n ih =>
    intro i hi j hj
    rw [rowCells_snoc c c n (fun _ _ _ => rfl)]
    by_cases h : i < n
    · rw [List.getElem?_append_left (by rw [rowCells_length]; omega)]
      exact ih i h j hj
    · obtain rfl : i = n := by omega
      rw [List.getElem?_append_right (by rw [rowCells_length]; omega), rowCells_length, Nat.add_sub_cancel_left]
      match j, hj with
      | 0, _ => rfl
      | 1, _ => rfl
      | 2, _ => rfl
      | 3, _ => rfl
      | 4, _ => rfl

/-- A slice that the call has made, from block B on, of Datums whose own memory lies elsewhere. -/
def OwnQ (w : World) (B : Nat) (sl : Value) (ks : List D) : Prop :=
  ∃ c : Nat → Nat → Value, w.ownsRow B 25 5 sl ks.length (rowCells c ks.length) ∧ ∀ i x, ks[i]? = some x → RepQ w (fun b => B ≤ b ∧ some b ≠ sl.ownBlock) (five c i) x

theorem OwnQ.nil (w : World) (B : Nat) : OwnQ w B (.slice none 0 0) [] := ⟨fun _ _ => .bool false, World.ownsRow_nil _ _ _ _, fun i x h => by simp at h⟩

theorem OwnQ.form {w : World} {B : Nat} {sl : Value} {ks : List D} (h : OwnQ w B sl ks) : ∃ a cap, sl = .slice a ks.length cap := by
  obtain ⟨c, h1, _⟩ := h
  rcases h1.2 with ⟨h2, h3⟩ | ⟨g, cap, cur, hv, _⟩
  · exact ⟨none, 0, by rw [h2, h3]⟩
  · exact ⟨_, _, hv⟩

/-- Such a row, made a Datum. -/
theorem OwnQ.repQ {w : World} {B : Nat} {sl : Value} {ks : List D} (h : OwnQ w B sl ks) {k m b : Int} {t : ByteArray}
    (hw : (Lit.int .i64 k).wf = true ∧ (Lit.int .i64 m).wf = true ∧ (Lit.int .u64 b).wf = true ∧ t.size ≤ maxLen) :
    RepQ w (fun b => B ≤ b) (.agg #[.int .i64 k, .int .i64 m, .int .u64 b, .string t, sl]) (.mk k m b t ks) := by
  obtain ⟨c, h1, h2⟩ := h
  have h1' := h1
  have hK : ∀ i x, ks[i]? = some x → RepQ w (fun b => B ≤ b) (five c i) x := fun i x hx => (h2 i x hx).carry (fun b hb _ => ⟨rfl, hb.1⟩) (Nat.le_refl _)
  rcases h1.2 with ⟨rfl, h3⟩ | ⟨g, cap, cur, rfl, hg, hh, hn, hc, hs, ht⟩
  · have e : (Value.slice none 0 0) = .slice none ks.length 0 := by rw [h3]
    rw [e]
    exact .mk k m b t none 0 0 0 c ks hw (fun h => absurd h (by omega)) (fun i hi => absurd hi (by omega)) hK
  · refine .mk k m b t _ cap g 0 c ks hw (fun _ => ⟨rfl, ⟨hg, World.ownsRow.frozenAt h1'⟩, (Array.getElem?_eq_some_iff.1 hh).1, hn, by unfold maxLen at hc; omega⟩) (fun i hi => ?_) hK
    have hA : ∀ j, j < 5 → w.cell? ⟨g, 0 + i * 5 + j, none⟩ = some (c i j) := fun j hj => by
      rw [Nat.zero_add, World.ownsRow.cellAt h1' (i * 5 + j) (by omega)]
      exact rowCells_get c _ i hi j hj
    exact ⟨hA 0 (by omega), hA 1 (by omega), hA 2 (by omega), hA 3 (by omega), hA 4 (by omega)⟩

/-- From one world to another in which the row's block and all from B on is as it was. -/
theorem OwnQ.carry {w w1 : World} {B : Nat} {sl : Value} {ks : List D} (h : OwnQ w B sl ks) (hb : ∀ b, B ≤ b → b < w.heap.size → w1.heap[b]? = w.heap[b]?) (hz : w.heap.size ≤ w1.heap.size) : OwnQ w1 B sl ks := by
  obtain ⟨c, h1, h2⟩ := h
  refine ⟨c, ⟨h1.1, ?_⟩, fun i x hx => (h2 i x hx).carry (fun b hq hl => ⟨hb b hq.1 hl, hq⟩) hz⟩
  rcases h1.2 with h3 | ⟨g, cap, cur, hv, hg, hh, r⟩
  · exact Or.inl h3
  · exact Or.inr ⟨g, cap, cur, hv, hg, by rw [hb g hg (Array.getElem?_eq_some_iff.1 hh).1]; exact hh, r⟩

/-- Behind an append of one element. -/
theorem OwnQ.snoc {w1 w2 : World} {B g' cap' : Nat} {sl : Value} {ks : List D} {x : D} {e0 e1 e2 e3 e4 : Value} {c : Nat → Nat → Value}
    (hk : ∀ i x, ks[i]? = some x → RepQ w1 (fun b => B ≤ b ∧ some b ≠ sl.ownBlock) (five c i) x)
    (he : RepQ w1 (fun b => B ≤ b ∧ some b ≠ sl.ownBlock) (.agg #[e0, e1, e2, e3, e4]) x)
    (ho : w2.ownsRow B 25 5 (.slice (some ⟨g', 0, none⟩) (ks.length + 1) cap') (ks.length + 1) (rowCells c ks.length ++ [e0, e1, e2, e3, e4]))
    (hgr : w1.grownBy w2 sl.ownBlock) (hat : sl.ownBlock = some g' ∨ g' = w1.heap.size) : OwnQ w2 B (.slice (some ⟨g', 0, none⟩) (ks.length + 1) cap') (ks ++ [x]) := by
  have hlen : (ks ++ [x]).length = ks.length + 1 := by simp
  have hcar : ∀ {v : Value} {y : D}, RepQ w1 (fun b => B ≤ b ∧ some b ≠ sl.ownBlock) v y → RepQ w2 (fun b => B ≤ b ∧ some b ≠ (Value.slice (some ⟨g', 0, none⟩) (ks.length + 1) cap').ownBlock) v y := fun {v y} hv =>
    hv.carry (fun b hq hl => ⟨hgr.block b hl hq.2, hq.1, fun e => by
      have e' : b = g' := Option.some.inj e
      rcases hat with h | h
      · exact hq.2 (by rw [h, e'])
      · omega⟩) hgr.size
  refine ⟨fun i j => if i < ks.length then c i j else [e0, e1, e2, e3, e4].getD j (.bool false), ?_, fun i y hy => ?_⟩
  · rw [hlen, rowCells_snoc c _ ks.length (fun i hi j => by simp [hi])]
    simpa using ho
  · by_cases hi : i < ks.length
    · rw [List.getElem?_append_left hi] at hy
      have := hcar (hk i y hy)
      unfold five at this ⊢
      simpa [hi] using this
    · have hi2 : i = ks.length := by
        have := (List.getElem?_eq_some_iff.1 hy).1
        simp at this; omega
      subst hi2
      simp at hy
      subst hy
      have := hcar he
      unfold five
      simpa using this
end Go.Proofs.YtecdniimikfbhaaGreatDoor
