/- Shape: a row of maps, in plain words; the given Maps. -/
import Derived.Test.YtecdniimikfbhaaGreatDoorD7
namespace Go.Proofs.YtecdniimikfbhaaGreatDoor
open Go Go.RowKit Go.ChangeShapes Go.WideShapes

/-- What a row of maps tells, one behind the other. -/
def mapsE (F : D → Bool) (tp : ByteArray) : List Int → D → MO
  | [], d => .gave d
  | op :: ops, d => match mapE F tp op d with
    | .gave x => mapsE F tp ops x
    | .err e pk pn => .err e pk pn
theorem mapsE_cons {F : D → Bool} {tp : ByteArray} {op : Int} {ops : List Int} {d : D} : mapsE F tp (op :: ops) d = match mapE F tp op d with | .gave x => mapsE F tp ops x | .err e pk pn => .err e pk pn := rfl
theorem mapsE_append {F : D → Bool} {tp : ByteArray} : ∀ (xs ys : List Int) (d : D), mapsE F tp (xs ++ ys) d = match mapsE F tp xs d with | .gave x => mapsE F tp ys x | .err e pk pn => .err e pk pn
  | [], ys, d => rfl
  | op :: xs, ys, d => by
    rw [List.cons_append, mapsE_cons, mapsE_cons]
    cases h : mapE F tp op d with
    | gave x => exact mapsE_append xs ys x
    | err e pk pn => rfl
theorem mapsE_err {F : D → Bool} {tp : ByteArray} : ∀ (xs : List Int) (d : D) {e pk pn : Int}, mapsE F tp xs d = .err e pk pn → e ≠ 0
  | [], d, e, pk, pn, h => by cases h
  | op :: xs, d, e, pk, pn, h => by
    rw [mapsE_cons] at h
    cases h2 : mapE F tp op d with
    | gave x => rw [h2] at h; exact mapsE_err xs x h
    | err e' pk' pn' => rw [h2] at h; cases h; exact mapE_err h2
theorem drop_cons {α : Type} {l : List α} {j : Nat} {x : α} (h : l[j]? = some x) : l.drop j = x :: l.drop (j + 1) := by
  obtain ⟨hl, rfl⟩ := List.getElem?_eq_some_iff.1 h
  exact List.drop_eq_getElem_cons hl
/-- A slice of ints holds these. -/
def Ints (w : World) (v : Value) (xs : List Int) : Prop := ∃ (a : Option Addr) (cap : Nat), v = .slice a xs.length cap ∧ xs.length ≤ 9223372036854775807 ∧ (a = none → cap = 0) ∧ ∀ (i : Nat) (x : Int), xs[i]? = some x → ∃ g o, a = some ⟨g, o, none⟩ ∧ g < w.heap.size ∧ xs.length ≤ cap ∧ cap ≤ 9223372036854775807 ∧ w.cell? ⟨g, o + i, none⟩ = some (.int .i64 x)
theorem Ints.later {w w1 : World} {v : Value} {xs : List Int} (h : Ints w v xs) (hb : Below w.heap.size w w1) : Ints w1 v xs := by
  obtain ⟨a, cap, rfl, hm, hn, hx⟩ := h
  refine ⟨a, cap, rfl, hm, hn, fun i x hi => ?_⟩
  obtain ⟨g, o, ha, hg, h1, h2, hc⟩ := hx i x hi
  exact ⟨g, o, ha, Nat.lt_of_lt_of_le hg hb.size, h1, h2, (hb.cell (p := ⟨g, _, none⟩) hg).trans hc⟩

set_option maxRecDepth 100000 in
set_option maxHeartbeats 6400000 in
theorem smaps_any {w0 : World} {lv : Value} {ops : List Int} {d : D} {k m b : Int} {t : ByteArray} {a : Option Addr} {l cap : Nat} (hv : Rep w0 (.agg #[.int .i64 k, .int .i64 m, .int .u64 b, .string t, .slice a l cap]) d) (hd : FitsIn 0 1 d) (htab : Tab w0) {F : D → Bool} (hF : ∀ x, F x = true ↔ FitsIn 0 1 x) (hI : Ints w0 lv ops) (tp : ByteArray) (htp : tp.size ≤ maxLen) (w : World) (hb0 : Below w0.heap.size w0 w) :
    Calls Tryz.prog 12 #[lv, .string tp, (.agg #[.int .i64 k, .int .i64 m, .int .u64 b, .string t, .slice a l cap])] w fun x w' => ∃ v', x = .returned v' ∧ RMV w' (fun i => w.heap.size ≤ i) v' (mapsE F tp ops d) ∧ (∀ x, mapsE F tp ops d = .gave x → FitsIn 0 1 x) ∧ Below w.heap.size w w' := by
  have HC := Lib.hid (fun W hW => sclone_any hv (hd.slim (by omega)) W hW)
  have HB := Lib.hid hb0
  have HT := Lib.hid (htab.later hb0)
  obtain ⟨ia, icap, rfl, hmx, hnx, hX⟩ := hI.later hb0
  have HX := Lib.hid hX
  have HD := Lib.hid hd
  have HF := Lib.hid hF
  clear hv hd hb0 htab hI hX hF hnx
  obtain ⟨W1, hW1, hb1, hz, hx1, hx2⟩ := res_worlds w (.int .i64 k) (.int .i64 m) (.int .u64 b) (.string t) (.slice a l cap)
  have hzo := hz.out
  have hr1 := hx1.row
  have p0 : W1.cell? ⟨w.heap.size, 0, none⟩ = some (.int .i64 k) := hr1.cell 0 rfl
  have p1 : W1.cell? ⟨w.heap.size, 1, none⟩ = some (.int .i64 m) := hr1.cell 1 rfl
  have p2 : W1.cell? ⟨w.heap.size, 2, none⟩ = some (.int .u64 b) := hr1.cell 2 rfl
  have p3 : W1.cell? ⟨w.heap.size, 3, none⟩ = some (.string t) := hr1.cell 3 rfl
  have p4 : W1.cell? ⟨w.heap.size, 4, none⟩ = some (.slice a l cap) := hr1.cell 4 rfl
  go_enter Tryz.func12, Tryz.ntmps12
  go_upto_region 1 with fail
  rw [← hW1]
  clear hW1
  go_wp2_with fail
  refine (HC.out _ (HB.out.trans (hb1.mono HB.out.size))).mono ?_
  rintro x w2 ⟨v2, rfl, hq2, hb2⟩
  obtain ⟨k5, m5, b5, t5, a5, n5, cap5, rfl⟩ := hq2.form
  have hy2 := hx2.later hb2
  have hbw2 := hb1.trans (hb2.mono hb1.size)
  have hP2 := RepP.of_repQ hq2
  clear hq2 HC HB
  have hz12 := hb2.size
  clear p0 p1 p2 p3 p4
  dsimp only
  go_wp2_with fail
  refine (sgave_v _ _ _ _ _ _ _ _).mono ?_
  rintro x w3 ⟨rfl, hb3⟩
  have hy3 := hy2.later hb3
  have hP3 := hP2.later hb3
  have hbw3 := hbw2.trans (hb3.mono hbw2.size)
  have hz23 := hb3.size
  obtain ⟨W4, hW4⟩ : ∃ W4, W4 = w3.alloc (.cells #[.int .i64 0, .int .i64 0, .int .i64 0, .int .i64 0, .bool true, .int .i64 k5, .int .i64 m5, .int .u64 b5, .string t5, .slice a5 n5 cap5] 33) := ⟨_, rfl⟩
  have hb4 : Below w3.heap.size w3 W4 := by rw [hW4]; exact (Below.refl _ _).alloc (Nat.le_refl _) _
  have hr4 : Row W4 w3.heap.size #[.int .i64 0, .int .i64 0, .int .i64 0, .int .i64 0, .bool true, .int .i64 k5, .int .i64 m5, .int .u64 b5, .string t5, .slice a5 n5 cap5] 33 := by rw [hW4]; exact Row.new _ _ _
  have hy4 := hy3.later hb4
  have hlt3 := hy3.lt
  have hP4 : RepP W4 (fun i => w.heap.size + 2 ≤ i ∧ i ≠ w3.heap.size) (.agg #[.int .i64 k5, .int .i64 m5, .int .u64 b5, .string t5, .slice a5 n5 cap5]) d := hP2.carry (fun i hi hl => ⟨((hb3.trans (hb4.mono hb3.size)).block i hl), by omega, by omega⟩) (by have := hb4.size; omega)
  have hbw4 := hbw3.trans (hb4.mono hbw3.size)
  dsimp only
  go_upto_region 2 with fail
  rw [← hW4]
  clear hW4 hP2 hP3
  go_wp2_with fail
  go_loopw [15] (fun i wr => ∃ (j : Nat) (k5 m5 b5 : Int) (t5 : ByteArray) (a5 : Option Addr) (n5 cap5 : Nat) (dd : D), j ≤ ops.length ∧ i = .int .i64 j ∧ Row wr w3.heap.size #[.int .i64 0, .int .i64 0, .int .i64 0, .int .i64 0, .bool true, .int .i64 k5, .int .i64 m5, .int .u64 b5, .string t5, .slice a5 n5 cap5] 33 ∧ Row wr (w.heap.size + 1) #[.int .i64 0, .int .i64 0, .int .i64 0, .int .i64 0, .bool false, .int .i64 0, .int .i64 0, .int .u64 0, .string ⟨#[]⟩, .slice none 0 0] 33 ∧ RepP wr (fun i => w.heap.size + 2 ≤ i ∧ i ≠ w3.heap.size) (.agg #[.int .i64 k5, .int .i64 m5, .int .u64 b5, .string t5, .slice a5 n5 cap5]) dd ∧ FitsIn 0 1 dd ∧ Hid (mapsE F tp (ops.drop j) dd = mapsE F tp ops d) ∧ Below w.heap.size w wr) (fun i _ => ops.length - (intOf i).toNat)
  case atStart => exact ⟨0, k5, m5, b5, t5, a5, n5, cap5, d, by omega, rfl, hr4, hy4, hP4, HD.out, Lib.hid rfl, hbw4⟩
  case round =>
    clear hr4 hy4 hP4 HD hbw4 hb4 hy3 hbw3 hb3 hy2 hbw2 hb2 hx1 hx2 hr1 hb1
    obtain ⟨j, k5, m5, b5, t5, a5, n5, cap5, dd, hj, rfl, hr, hy, hP, hfit5, HE, hbr⟩ := hrel
    have hltg := hr.lt
    by_cases hlt : j < ops.length
    · obtain ⟨op, hop⟩ : ∃ op, ops[j]? = some op := ⟨_, List.getElem?_eq_getElem hlt⟩
      have hE := HE.out
      rw [drop_cons hop, mapsE_cons] at hE
      obtain ⟨gg, oo, rfl, hgw, hcp, hcm, hc⟩ := HX.out j op hop
      have hcr : wr.cell? ⟨gg, oo + j, none⟩ = some (.int .i64 op) := (hbr.cell (p := ⟨gg, _, none⟩) hgw).trans hc
      obtain ⟨mo, hmo⟩ : ∃ mo, mapE F tp op dd = mo := ⟨_, rfl⟩
      have HM0 := smapE hP.rep hfit5 (HT.out.later hbr) HF.out op tp htp wr (Below.refl _ _)
      rw [hmo] at HM0 hE
      have HM := Lib.hid HM0
      have HFit := Lib.hid (fun x (h : mo = .gave x) => mapE_fits HF.out hP.rep hfit5 (hmo.trans h))
      have HErr := Lib.hid (fun e pk pn (h : mo = .err e pk pn) => mapE_err (hmo.trans h))
      clear HM0 hmo hc hop hP HE
      have p0 : wr.cell? ⟨w3.heap.size, 0, none⟩ = some (.int .i64 0) := hr.cell 0 rfl
      have p1 : wr.cell? ⟨w3.heap.size, 1, none⟩ = some (.int .i64 0) := hr.cell 1 rfl
      have p2 : wr.cell? ⟨w3.heap.size, 2, none⟩ = some (.int .i64 0) := hr.cell 2 rfl
      have p3 : wr.cell? ⟨w3.heap.size, 3, none⟩ = some (.int .i64 0) := hr.cell 3 rfl
      have p4 : wr.cell? ⟨w3.heap.size, 4, none⟩ = some (.bool true) := hr.cell 4 rfl
      have p5 : wr.cell? ⟨w3.heap.size, 5, none⟩ = some (.int .i64 k5) := hr.cell 5 rfl
      have p6 : wr.cell? ⟨w3.heap.size, 6, none⟩ = some (.int .i64 m5) := hr.cell 6 rfl
      have p7 : wr.cell? ⟨w3.heap.size, 7, none⟩ = some (.int .u64 b5) := hr.cell 7 rfl
      have p8 : wr.cell? ⟨w3.heap.size, 8, none⟩ = some (.string t5) := hr.cell 8 rfl
      have p9 : wr.cell? ⟨w3.heap.size, 9, none⟩ = some (.slice a5 n5 cap5) := hr.cell 9 rfl
      cases mo with
      | gave x =>
        have HE := Lib.hid (show mapsE F tp (ops.drop (j + 1)) x = mapsE F tp ops d from hE)
        have hfit6 := HFit.out x rfl
        clear HFit HErr hE
        go_wp2_with fail
        refine HM.out.mono ?_
        rintro y w5 ⟨v5, rfl, hg5, hb5⟩
        obtain ⟨k6, m6, b6, t6, a6, n6, cap6, rfl, hq5⟩ := hg5
        have hr5 := hr.later hb5
        have hy5 := hy.later hb5
        have hbr5 := hbr.trans (hb5.mono hbr.size)
        have hz5 := hbr.size
        clear HM
        clear p0 p1 p2 p3 p4 p5 p6 p7 p8 p9
        have p0 : w5.cell? ⟨w3.heap.size, 0, none⟩ = some (.int .i64 0) := hr5.cell 0 rfl
        have fp0 := hr5.thaw 0
        have p1 : w5.cell? ⟨w3.heap.size, 1, none⟩ = some (.int .i64 0) := hr5.cell 1 rfl
        have fp1 := hr5.thaw 1
        have p2 : w5.cell? ⟨w3.heap.size, 2, none⟩ = some (.int .i64 0) := hr5.cell 2 rfl
        have fp2 := hr5.thaw 2
        have p3 : w5.cell? ⟨w3.heap.size, 3, none⟩ = some (.int .i64 0) := hr5.cell 3 rfl
        have fp3 := hr5.thaw 3
        have p4 : w5.cell? ⟨w3.heap.size, 4, none⟩ = some (.bool true) := hr5.cell 4 rfl
        have fp4 := hr5.thaw 4
        have p5 : w5.cell? ⟨w3.heap.size, 5, none⟩ = some (.int .i64 k5) := hr5.cell 5 rfl
        have fp5 := hr5.thaw 5
        have p6 : w5.cell? ⟨w3.heap.size, 6, none⟩ = some (.int .i64 m5) := hr5.cell 6 rfl
        have fp6 := hr5.thaw 6
        have p7 : w5.cell? ⟨w3.heap.size, 7, none⟩ = some (.int .u64 b5) := hr5.cell 7 rfl
        have fp7 := hr5.thaw 7
        have p8 : w5.cell? ⟨w3.heap.size, 8, none⟩ = some (.string t5) := hr5.cell 8 rfl
        have fp8 := hr5.thaw 8
        have p9 : w5.cell? ⟨w3.heap.size, 9, none⟩ = some (.slice a5 n5 cap5) := hr5.cell 9 rfl
        have fp9 := hr5.thaw 9
        obtain ⟨W6, hW6⟩ : ∃ W6, W6 = (((((((((w5.setCell ⟨w3.heap.size, 0, none⟩ (.int .i64 0)).setCell ⟨w3.heap.size, 1, none⟩ (.int .i64 0)).setCell ⟨w3.heap.size, 2, none⟩ (.int .i64 0)).setCell ⟨w3.heap.size, 3, none⟩ (.int .i64 0)).setCell ⟨w3.heap.size, 4, none⟩ (.bool true)).setCell ⟨w3.heap.size, 5, none⟩ (.int .i64 k6)).setCell ⟨w3.heap.size, 6, none⟩ (.int .i64 m6)).setCell ⟨w3.heap.size, 7, none⟩ (.int .u64 b6)).setCell ⟨w3.heap.size, 8, none⟩ (.string t6)).setCell ⟨w3.heap.size, 9, none⟩ (.slice a6 n6 cap6) := ⟨_, rfl⟩
        have hr6 : Row W6 w3.heap.size #[.int .i64 0, .int .i64 0, .int .i64 0, .int .i64 0, .bool true, .int .i64 k6, .int .i64 m6, .int .u64 b6, .string t6, .slice a6 n6 cap6] 33 := by rw [hW6]; exact hr5.set10 _ _ _ _ _ _ _ _ _ _
        have hy6 : Row W6 (w.heap.size + 1) #[.int .i64 0, .int .i64 0, .int .i64 0, .int .i64 0, .bool false, .int .i64 0, .int .i64 0, .int .u64 0, .string ⟨#[]⟩, .slice none 0 0] 33 := by rw [hW6]; exact hy5.oth10 (by omega) _ _ _ _ _ _ _ _ _ _
        have hP6 : RepP W6 (fun i => w.heap.size + 2 ≤ i ∧ i ≠ w3.heap.size) (.agg #[.int .i64 k6, .int .i64 m6, .int .u64 b6, .string t6, .slice a6 n6 cap6]) x := by rw [hW6]; exact (hq5.carry (Q := fun i => w.heap.size + 2 ≤ i ∧ i ≠ w3.heap.size) (fun i hi _ => ⟨rfl, by have := hy.lt; omega, by omega⟩) (Nat.le_refl _)).set10x (fun i hi => hi.2)
        have hbr6 : Below w.heap.size w W6 := by rw [hW6]; exact set10_below hbr5 (by omega)
        dsimp only
        go_upto_region 6 with fail
        rw [← hW6]
        clear hW6
        clear p0 p1 p2 p3 p4 p5 p6 p7 p8 p9 fp0 fp1 fp2 fp3 fp4 fp5 fp6 fp7 fp8 fp9
        have z0 : W6.cell? ⟨w3.heap.size, 0, none⟩ = some (.int .i64 0) := hr6.cell 0 rfl
        go_wp2_with fail
        go_roundw
        case rel => exact ⟨j + 1, k6, m6, b6, t6, a6, n6, cap6, x, by omega, by go_num, hr6, hy6, hP6, hfit6, HE, hbr6⟩
        case measure => simp [intOf]; omega
      | err e pk pn =>
        have he : (e != 0) = true := by simpa using HErr.out e pk pn rfl
        have HE := Lib.hid (show MO.err e pk pn = mapsE F tp ops d from hE)
        clear HFit HErr hE
        go_wp2_with fail
        refine HM.out.mono ?_
        rintro y w5 ⟨v5, rfl, hg5, hb5⟩
        obtain rfl : v5 = errV e pk pn := hg5
        unfold errV
        have hr5 := hr.later hb5
        have hy5 := hy.later hb5
        have hbr5 := hbr.trans (hb5.mono hbr.size)
        have hz5 := hbr.size
        clear HM
        clear p0 p1 p2 p3 p4 p5 p6 p7 p8 p9
        have p0 : w5.cell? ⟨w3.heap.size, 0, none⟩ = some (.int .i64 0) := hr5.cell 0 rfl
        have fp0 := hr5.thaw 0
        have p1 : w5.cell? ⟨w3.heap.size, 1, none⟩ = some (.int .i64 0) := hr5.cell 1 rfl
        have fp1 := hr5.thaw 1
        have p2 : w5.cell? ⟨w3.heap.size, 2, none⟩ = some (.int .i64 0) := hr5.cell 2 rfl
        have fp2 := hr5.thaw 2
        have p3 : w5.cell? ⟨w3.heap.size, 3, none⟩ = some (.int .i64 0) := hr5.cell 3 rfl
        have fp3 := hr5.thaw 3
        have p4 : w5.cell? ⟨w3.heap.size, 4, none⟩ = some (.bool true) := hr5.cell 4 rfl
        have fp4 := hr5.thaw 4
        have p5 : w5.cell? ⟨w3.heap.size, 5, none⟩ = some (.int .i64 k5) := hr5.cell 5 rfl
        have fp5 := hr5.thaw 5
        have p6 : w5.cell? ⟨w3.heap.size, 6, none⟩ = some (.int .i64 m5) := hr5.cell 6 rfl
        have fp6 := hr5.thaw 6
        have p7 : w5.cell? ⟨w3.heap.size, 7, none⟩ = some (.int .u64 b5) := hr5.cell 7 rfl
        have fp7 := hr5.thaw 7
        have p8 : w5.cell? ⟨w3.heap.size, 8, none⟩ = some (.string t5) := hr5.cell 8 rfl
        have fp8 := hr5.thaw 8
        have p9 : w5.cell? ⟨w3.heap.size, 9, none⟩ = some (.slice a5 n5 cap5) := hr5.cell 9 rfl
        have fp9 := hr5.thaw 9
        obtain ⟨W6, hW6⟩ : ∃ W6, W6 = (((((((((w5.setCell ⟨w3.heap.size, 0, none⟩ (.int .i64 e)).setCell ⟨w3.heap.size, 1, none⟩ (.int .i64 0)).setCell ⟨w3.heap.size, 2, none⟩ (.int .i64 pk)).setCell ⟨w3.heap.size, 3, none⟩ (.int .i64 pn)).setCell ⟨w3.heap.size, 4, none⟩ (.bool false)).setCell ⟨w3.heap.size, 5, none⟩ (.int .i64 0)).setCell ⟨w3.heap.size, 6, none⟩ (.int .i64 0)).setCell ⟨w3.heap.size, 7, none⟩ (.int .u64 0)).setCell ⟨w3.heap.size, 8, none⟩ (.string ⟨#[]⟩)).setCell ⟨w3.heap.size, 9, none⟩ (.slice none 0 0) := ⟨_, rfl⟩
        have hr6 : Row W6 w3.heap.size #[.int .i64 e, .int .i64 0, .int .i64 pk, .int .i64 pn, .bool false, .int .i64 0, .int .i64 0, .int .u64 0, .string ⟨#[]⟩, .slice none 0 0] 33 := by rw [hW6]; exact hr5.set10 _ _ _ _ _ _ _ _ _ _
        have hy6 : Row W6 (w.heap.size + 1) #[.int .i64 0, .int .i64 0, .int .i64 0, .int .i64 0, .bool false, .int .i64 0, .int .i64 0, .int .u64 0, .string ⟨#[]⟩, .slice none 0 0] 33 := by rw [hW6]; exact hy5.oth10 (by omega) _ _ _ _ _ _ _ _ _ _
        have hbr6 : Below w.heap.size w W6 := by rw [hW6]; exact set10_below hbr5 (by omega)
        dsimp only
        go_upto_region 6 with fail
        rw [← hW6]
        clear hW6
        clear p0 p1 p2 p3 p4 p5 p6 p7 p8 p9 fp0 fp1 fp2 fp3 fp4 fp5 fp6 fp7 fp8 fp9
        have z0 : W6.cell? ⟨w3.heap.size, 0, none⟩ = some (.int .i64 e) := hr6.cell 0 rfl
        have z1 : W6.cell? ⟨w3.heap.size, 1, none⟩ = some (.int .i64 0) := hr6.cell 1 rfl
        have z2 : W6.cell? ⟨w3.heap.size, 2, none⟩ = some (.int .i64 pk) := hr6.cell 2 rfl
        have z3 : W6.cell? ⟨w3.heap.size, 3, none⟩ = some (.int .i64 pn) := hr6.cell 3 rfl
        have z4 : W6.cell? ⟨w3.heap.size, 4, none⟩ = some (.bool false) := hr6.cell 4 rfl
        have z5 : W6.cell? ⟨w3.heap.size, 5, none⟩ = some (.int .i64 0) := hr6.cell 5 rfl
        have z6 : W6.cell? ⟨w3.heap.size, 6, none⟩ = some (.int .i64 0) := hr6.cell 6 rfl
        have z7 : W6.cell? ⟨w3.heap.size, 7, none⟩ = some (.int .u64 0) := hr6.cell 7 rfl
        have z8 : W6.cell? ⟨w3.heap.size, 8, none⟩ = some (.string ⟨#[]⟩) := hr6.cell 8 rfl
        have z9 : W6.cell? ⟨w3.heap.size, 9, none⟩ = some (.slice none 0 0) := hr6.cell 9 rfl
        have q0 : W6.cell? ⟨(w.heap.size + 1), 0, none⟩ = some (.int .i64 0) := hy6.cell 0 rfl
        have fq0 := hy6.thaw 0
        have q1 : W6.cell? ⟨(w.heap.size + 1), 1, none⟩ = some (.int .i64 0) := hy6.cell 1 rfl
        have fq1 := hy6.thaw 1
        have q2 : W6.cell? ⟨(w.heap.size + 1), 2, none⟩ = some (.int .i64 0) := hy6.cell 2 rfl
        have fq2 := hy6.thaw 2
        have q3 : W6.cell? ⟨(w.heap.size + 1), 3, none⟩ = some (.int .i64 0) := hy6.cell 3 rfl
        have fq3 := hy6.thaw 3
        have q4 : W6.cell? ⟨(w.heap.size + 1), 4, none⟩ = some (.bool false) := hy6.cell 4 rfl
        have fq4 := hy6.thaw 4
        have q5 : W6.cell? ⟨(w.heap.size + 1), 5, none⟩ = some (.int .i64 0) := hy6.cell 5 rfl
        have fq5 := hy6.thaw 5
        have q6 : W6.cell? ⟨(w.heap.size + 1), 6, none⟩ = some (.int .i64 0) := hy6.cell 6 rfl
        have fq6 := hy6.thaw 6
        have q7 : W6.cell? ⟨(w.heap.size + 1), 7, none⟩ = some (.int .u64 0) := hy6.cell 7 rfl
        have fq7 := hy6.thaw 7
        have q8 : W6.cell? ⟨(w.heap.size + 1), 8, none⟩ = some (.string ⟨#[]⟩) := hy6.cell 8 rfl
        have fq8 := hy6.thaw 8
        have q9 : W6.cell? ⟨(w.heap.size + 1), 9, none⟩ = some (.slice none 0 0) := hy6.cell 9 rfl
        have fq9 := hy6.thaw 9
        go_wp2_with fail
        exact bodyPost_ret (results_cell_row rfl _ _ (w.heap.size + 1) 33 _ (0, 0) _ rfl (hy6.set10 _ _ _ _ _ _ _ _ _ _) Tryz.underlying33 rfl (by kernel_rfl)) rfl ⟨_, rfl, (by rw [← HE.out]; exact rfl), (fun x hx => by rw [← HE.out] at hx; cases hx), set10_below hbr6 (by omega)⟩
    · obtain rfl : j = ops.length := by omega
      have hE : MO.gave dd = mapsE F tp ops d := by have h := HE.out; rw [List.drop_length] at h; exact h
      have p0 : wr.cell? ⟨w3.heap.size, 0, none⟩ = some (.int .i64 0) := hr.cell 0 rfl
      have p1 : wr.cell? ⟨w3.heap.size, 1, none⟩ = some (.int .i64 0) := hr.cell 1 rfl
      have p2 : wr.cell? ⟨w3.heap.size, 2, none⟩ = some (.int .i64 0) := hr.cell 2 rfl
      have p3 : wr.cell? ⟨w3.heap.size, 3, none⟩ = some (.int .i64 0) := hr.cell 3 rfl
      have p4 : wr.cell? ⟨w3.heap.size, 4, none⟩ = some (.bool true) := hr.cell 4 rfl
      have p5 : wr.cell? ⟨w3.heap.size, 5, none⟩ = some (.int .i64 k5) := hr.cell 5 rfl
      have p6 : wr.cell? ⟨w3.heap.size, 6, none⟩ = some (.int .i64 m5) := hr.cell 6 rfl
      have p7 : wr.cell? ⟨w3.heap.size, 7, none⟩ = some (.int .u64 b5) := hr.cell 7 rfl
      have p8 : wr.cell? ⟨w3.heap.size, 8, none⟩ = some (.string t5) := hr.cell 8 rfl
      have p9 : wr.cell? ⟨w3.heap.size, 9, none⟩ = some (.slice a5 n5 cap5) := hr.cell 9 rfl
      have q0 : wr.cell? ⟨(w.heap.size + 1), 0, none⟩ = some (.int .i64 0) := hy.cell 0 rfl
      have fq0 := hy.thaw 0
      have q1 : wr.cell? ⟨(w.heap.size + 1), 1, none⟩ = some (.int .i64 0) := hy.cell 1 rfl
      have fq1 := hy.thaw 1
      have q2 : wr.cell? ⟨(w.heap.size + 1), 2, none⟩ = some (.int .i64 0) := hy.cell 2 rfl
      have fq2 := hy.thaw 2
      have q3 : wr.cell? ⟨(w.heap.size + 1), 3, none⟩ = some (.int .i64 0) := hy.cell 3 rfl
      have fq3 := hy.thaw 3
      have q4 : wr.cell? ⟨(w.heap.size + 1), 4, none⟩ = some (.bool false) := hy.cell 4 rfl
      have fq4 := hy.thaw 4
      have q5 : wr.cell? ⟨(w.heap.size + 1), 5, none⟩ = some (.int .i64 0) := hy.cell 5 rfl
      have fq5 := hy.thaw 5
      have q6 : wr.cell? ⟨(w.heap.size + 1), 6, none⟩ = some (.int .i64 0) := hy.cell 6 rfl
      have fq6 := hy.thaw 6
      have q7 : wr.cell? ⟨(w.heap.size + 1), 7, none⟩ = some (.int .u64 0) := hy.cell 7 rfl
      have fq7 := hy.thaw 7
      have q8 : wr.cell? ⟨(w.heap.size + 1), 8, none⟩ = some (.string ⟨#[]⟩) := hy.cell 8 rfl
      have fq8 := hy.thaw 8
      have q9 : wr.cell? ⟨(w.heap.size + 1), 9, none⟩ = some (.slice none 0 0) := hy.cell 9 rfl
      have fq9 := hy.thaw 9
      go_wp2_with fail
      exact bodyPost_ret (results_cell_row rfl _ _ (w.heap.size + 1) 33 _ (0, 0) _ rfl (hy.set10 _ _ _ _ _ _ _ _ _ _) Tryz.underlying33 rfl (by kernel_rfl)) rfl ⟨_, rfl, (by rw [← hE]; exact GaveP.set10x (Q := fun i => w.heap.size ≤ i) ⟨_, _, _, _, _, _, _, rfl, hP⟩ (fun i hi => ⟨by omega, by omega⟩)), (fun x hx => by rw [← hE] at hx; cases hx; exact hfit5), set10_below hbr (by omega)⟩

end Go.Proofs.YtecdniimikfbhaaGreatDoor
