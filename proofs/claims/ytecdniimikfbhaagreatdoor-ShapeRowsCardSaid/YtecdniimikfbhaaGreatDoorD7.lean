/- Shape: both Maps, with the numbers' decimal texts. -/
import Derived.Test.YtecdniimikfbhaaGreatDoorD6
import Derived.Test.YtecdniimikfbhaaGreatDoorShelf
import Derived.Lib.ItoaLen
import Derived.Lib.AppendIntMem
import Derived.Lib.SmallJoins
namespace Go.Proofs.YtecdniimikfbhaaGreatDoor
open Go Go.RowKit Go.ChangeShapes Go.WideShapes

/-- A number's decimal text. -/
def itoaB (m : Int) : ByteArray := ⟨(Lib.itoa m).toArray⟩
/-- The table of powers holds its numbers. -/
def Tab (w : World) : Prop := Lib.TabIs Tryz.prog w "internal/strconv.uint64pow10" .u64 Lib.pow10Tab
theorem gTab : Tryz.prog.globalNamed "internal/strconv.uint64pow10" = some 1 := by kernel_rfl
theorem Tab.later {w w1 : World} (h : Tab w) (hb : Below w.heap.size w w1) : Tab w1 := Joins.tab_stays gTab h hb (Nat.le_refl _)
theorem i64_wf {m : Int} (h : (Lit.int .i64 m).wf = true) : -9223372036854775808 ≤ m ∧ m ≤ 9223372036854775807 := by
  have h1 : IntKind.i64.min = -9223372036854775808 := by decide
  have h2 : IntKind.i64.max = 9223372036854775807 := by decide
  simp only [Lit.wf, h1, h2, Bool.and_eq_true, decide_eq_true_eq] at h
  exact h
theorem isValue : ∃ F : D → Bool, ∀ x, F x = true ↔ FitsIn 0 1 x := ⟨fun x => @decide (FitsIn 0 1 x) (Classical.propDecidable _), fun x => by simp⟩
theorem Rep.num_in {w : World} {v : Value} {d : D} (h : Rep w v d) : -9223372036854775808 ≤ d.num ∧ d.num ≤ 9223372036854775807 := by
  obtain ⟨k, m, b, t, a, cap, g, o, c, kids, rfl, rfl, hw, -⟩ := h.inv
  exact i64_wf hw.2.1
theorem itoaB_size {n : Int} (h : -9223372036854775808 ≤ n ∧ n ≤ 9223372036854775807) : (itoaB n).size ≤ 65531 := by
  have h1 := Lib.itoa_length_le n h.1 h.2
  have h2 : (itoaB n).size = (Lib.itoa n).length := by simp [itoaB, ByteArray.size]
  omega
theorem fmt_exact {n : Int} (h : -9223372036854775808 ≤ n ∧ n ≤ 9223372036854775807) (w : World) (htab : Tab w) : Calls Tryz.prog 55 #[.int .i64 n, .int .i64 10] w fun x w' => ∃ s, x = .returned (.string s) ∧ s = itoaB n ∧ Below w.heap.size w w' :=
  (Tryz.strconv_FormatInt_10 n h.1 h.2 w htab).mono fun x w' ⟨hx, k, os, hw⟩ => ⟨_, hx, rfl, by rw [hw]; exact Lib.below_grow _ _ (Nat.le_refl _) _ _⟩
/-- What a map tells of a value, its number's text the decimal one. -/
def mapE (F : D → Bool) (tp : ByteArray) (op : Int) (d : D) : MO := mapO F (itoaB d.num) tp op d
theorem mapE_fits {F : D → Bool} (hF : ∀ x, F x = true ↔ FitsIn 0 1 x) {tp : ByteArray} {op : Int} {w : World} {v : Value} {d x : D} (hv : Rep w v d) (hd : FitsIn 0 1 d) (h : mapE F tp op d = .gave x) : FitsIn 0 1 x := mapO_fits hF (itoaB_size hv.num_in) hd h
theorem mapE_err {F : D → Bool} {tp : ByteArray} {op : Int} {d : D} {e pk pn : Int} (h : mapE F tp op d = .err e pk pn) : e ≠ 0 := mapO_err h
theorem smapE {w0 : World} {v : Value} {d : D} (hv : Rep w0 v d) (hd : FitsIn 0 1 d) (htab : Tab w0) {F : D → Bool} (hF : ∀ x, F x = true ↔ FitsIn 0 1 x) (op : Int) (tp : ByteArray) (htp : tp.size ≤ maxLen) (w : World) (hb0 : Below w0.heap.size w0 w) :
    Calls Tryz.prog 8 #[.int .i64 op, .string tp, v] w fun x w' => ∃ v', x = .returned v' ∧ RMV w' (fun b => w.heap.size ≤ b) v' (mapE F tp op d) ∧ Below w.heap.size w w' :=
  (smap_any hv hd (P := fun s => s = itoaB d.num) ⟨_, rfl⟩ (fun s hs => by rw [hs]; exact itoaB_size hv.num_in) hF op tp htp w hb0 (fun W hW => fmt_exact hv.num_in W ((htab.later hb0).later hW))).mono fun x w' ⟨v', s, hs, hx, hr, hb⟩ => ⟨v', hx, by rw [hs] at hr; exact RMV.of_mv hr, hb⟩
theorem rmapE {w0 : World} {v : Value} {d : D} (hv : Rep w0 v d) (hd : FitsIn 0 1 d) (htab : Tab w0) {F : D → Bool} (hF : ∀ x, F x = true ↔ FitsIn 0 1 x) (op : Int) (tp : ByteArray) (htp : tp.size ≤ maxLen) (w : World) (hb0 : Below w0.heap.size w0 w) :
    Calls Tryz.prog 10 #[.int .i64 op, .string tp, v] w fun x w' => ∃ v', x = .returned v' ∧ RMV w' (fun b => w.heap.size ≤ b) v' (mapE F tp op d) ∧ Below w.heap.size w w' :=
  (rmap_any hv hd (P := fun s => s = itoaB d.num) ⟨_, rfl⟩ (fun s hs => by rw [hs]; exact itoaB_size hv.num_in) hF op tp htp w hb0 (fun W hW => fmt_exact hv.num_in W ((htab.later hb0).later hW))).mono fun x w' ⟨v', s, hs, hx, hr, hb⟩ => ⟨v', hx, by rw [hs] at hr; exact hr, hb⟩
/-- The body of what a map told is a value. -/
theorem RMV.body {w : World} {Q : Nat → Prop} {e c p n : Int} {hs : Bool} {k m b : Int} {t : ByteArray} {a : Option Addr} {l cap : Nat} {o : MO} (h : RMV w Q (.agg #[.int .i64 e, .int .i64 c, .int .i64 p, .int .i64 n, .bool hs, .int .i64 k, .int .i64 m, .int .u64 b, .string t, .slice a l cap]) o) (hf : ∀ x, o = .gave x → FitsIn 0 1 x) : ∃ x, Rep w (.agg #[.int .i64 k, .int .i64 m, .int .u64 b, .string t, .slice a l cap]) x ∧ FitsIn 0 1 x := by
  cases o with
  | gave d =>
    obtain ⟨k', m', b', t', a', n', cap', h1, h2⟩ := h
    simp only [Value.agg.injEq, Array.mk.injEq, List.cons.injEq, Value.int.injEq, Value.slice.injEq, Value.string.injEq, true_and, and_true] at h1
    obtain ⟨-, -, -, -, -, rfl, rfl, rfl, rfl, rfl, rfl, rfl⟩ := h1
    exact ⟨d, h2.rep, hf d rfl⟩
  | err e' pk pn =>
    have h1 : (.agg #[.int .i64 e, .int .i64 c, .int .i64 p, .int .i64 n, .bool hs, .int .i64 k, .int .i64 m, .int .u64 b, .string t, .slice a l cap] : Value) = errV e' pk pn := h
    unfold errV at h1
    simp only [Value.agg.injEq, Array.mk.injEq, List.cons.injEq, Value.int.injEq, Value.slice.injEq, Value.string.injEq, true_and, and_true] at h1
    obtain ⟨-, -, -, -, -, rfl, rfl, rfl, rfl, rfl, rfl, rfl⟩ := h1
    exact ⟨_, zeroD w, zeroFits⟩
end Go.Proofs.YtecdniimikfbhaaGreatDoor
