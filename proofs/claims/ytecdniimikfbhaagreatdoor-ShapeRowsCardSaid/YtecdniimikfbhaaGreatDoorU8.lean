/- Shape: Map tells what the plain words say (mapO). -/
import Derived.Test.YtecdniimikfbhaaGreatDoorU7
import Derived.Test.YtecdniimikfbhaaGreatDoorU6
import Derived.Test.YtecdniimikfbhaaGreatDoorU2
import Derived.Test.YtecdniimikfbhaaGreatDoorT2
import Derived.Test.YtecdniimikfbhaaGreatDoorT3
import Derived.Test.YtecdniimikfbhaaGreatDoorT4
import Derived.Test.YtecdniimikfbhaaGreatDoorT5
import Derived.Test.YtecdniimikfbhaaGreatDoorT6
namespace Go.Proofs.YtecdniimikfbhaaGreatDoor
open Go Go.RowKit Go.ChangeShapes Go.WideShapes

/-- What a map tells, in memory. -/
def MV (w : World) (Q : Nat → Prop) (v : Value) : MO → Prop
  | .gave d => ResV w Q v (.gave d)
  | .err e pk pn => v = errV e pk pn
/-- Map tells what the plain words say. -/
def SMapSays (P : ByteArray → Prop) (F : D → Bool) (op : Int) (tp : ByteArray) (v : Value) (d : D) (w : World) : Prop :=
  Calls Tryz.prog 8 #[.int .i64 op, .string tp, v] w fun x w' => ∃ v' s, P s ∧ x = .returned v' ∧ MV w' (fun b => w.heap.size ≤ b) v' (mapO F s tp op d) ∧ Below w.heap.size w w'
theorem SMapSays.of_gave {P : ByteArray → Prop} {F : D → Bool} {op : Int} {tp : ByteArray} {v : Value} {d x : D} {w : World} (hP0 : ∃ s, P s) (hm : ∀ s, mapO F s tp op d = .gave x) (h : Calls Tryz.prog 8 #[.int .i64 op, .string tp, v] w fun x' w' => ∃ v', x' = .returned v' ∧ ResV w' (fun b => w.heap.size ≤ b) v' (.gave x) ∧ Below w.heap.size w w') : SMapSays P F op tp v d w := by
  obtain ⟨s, hs⟩ := hP0
  exact h.mono fun _ _ ⟨v', h1, h2, h3⟩ => ⟨v', s, hs, h1, by rw [hm s]; exact h2, h3⟩
theorem SMapSays.of_err {P : ByteArray → Prop} {F : D → Bool} {op e pk pn : Int} {tp : ByteArray} {v : Value} {d : D} {w : World} (hP0 : ∃ s, P s) (hm : ∀ s, mapO F s tp op d = .err e pk pn) (h : Calls Tryz.prog 8 #[.int .i64 op, .string tp, v] w fun x' w' => x' = .returned (errV e pk pn) ∧ Below w.heap.size w w') : SMapSays P F op tp v d w := by
  obtain ⟨s, hs⟩ := hP0
  exact h.mono fun _ _ ⟨h1, h3⟩ => ⟨_, s, hs, h1, by rw [hm s]; exact rfl, h3⟩
theorem gaveP_leaf {w : World} {P : Nat → Prop} {k m b : Int} {t : ByteArray} (hw : (Lit.int .i64 k).wf = true ∧ (Lit.int .i64 m).wf = true ∧ (Lit.int .u64 b).wf = true ∧ t.size ≤ maxLen) : GaveP w P (.agg #[.int .i64 0, .int .i64 0, .int .i64 0, .int .i64 0, .bool true, .int .i64 k, .int .i64 m, .int .u64 b, .string t, .slice none 0 0]) (.mk k m b t []) :=
  ⟨_, _, _, _, _, _, _, rfl, RepP.mk k m b t none 0 0 0 (fun _ _ => .bool false) [] hw (fun h => absurd h (by simp)) (fun i hi => absurd hi (by simp)) (fun i x hx => by simp at hx)⟩
theorem GaveP.fresh {w : World} {N B : Nat} {v : Value} {d : D} (h : ResV w (fun b => N ≤ b) v (.gave d)) : GaveP w (fun b => b < B ∨ N ≤ b) v d := (GaveP.of_resV h).carry (fun _ hq _ => ⟨rfl, Or.inr hq⟩) (Nat.le_refl _)
theorem size_le_max {t : ByteArray} (h : t.size ≤ 65535) : t.size ≤ maxLen := by unfold maxLen; omega
theorem Rep.kidS {w : World} {v : Value} {d x : D} (h : Rep w v d) {i : Nat} (hi : d.kids[i]? = some x) : ∃ (k m b : Int) (t : ByteArray) (cap g o : Nat) (k6 m6 b6 : Int) (t6 : ByteArray) (a6 : Option Addr) (n6 cap6 : Nat),
    v = .agg #[.int .i64 k, .int .i64 m, .int .u64 b, .string t, .slice (some ⟨g, o, none⟩) d.kids.length cap] ∧ i < d.kids.length ∧ d.kids.length ≤ cap ∧ cap ≤ 9223372036854775807 ∧ g < w.heap.size ∧
    w.cell? ⟨g, o + i * 5, none⟩ = some (.int .i64 k6) ∧ w.cell? ⟨g, o + i * 5 + 1, none⟩ = some (.int .i64 m6) ∧ w.cell? ⟨g, o + i * 5 + 2, none⟩ = some (.int .u64 b6) ∧ w.cell? ⟨g, o + i * 5 + 3, none⟩ = some (.string t6) ∧ w.cell? ⟨g, o + i * 5 + 4, none⟩ = some (.slice a6 n6 cap6) ∧
    Rep w (.agg #[.int .i64 k6, .int .i64 m6, .int .u64 b6, .string t6, .slice a6 n6 cap6]) x := by
  obtain ⟨k, m, b, t, a, cap, g, o, c, kids, rfl, rfl, hw, ha, hc, hk⟩ := h.inv
  have hi' : kids[i]? = some x := hi
  have hlt : i < kids.length := (List.getElem?_eq_some_iff.1 hi').1
  obtain ⟨rfl, hg, hcp, hcm⟩ := ha (by omega)
  obtain ⟨q0, q1, q2, q3, q4⟩ := hc i hlt
  have hx := hk i x hi'
  obtain ⟨k6, m6, b6, t6, a6, cap6, g6, o6, c6, kids6, e6, _⟩ := hx.inv
  obtain ⟨f0, f1, f2, f3, f4⟩ := five_inv e6
  rw [f0] at q0
  rw [f1] at q1
  rw [f2] at q2
  rw [f3] at q3
  rw [f4] at q4
  rw [e6] at hx
  exact ⟨k, m, b, t, cap, g, o, k6, m6, b6, t6, a6, _, cap6, rfl, hlt, hcp, hcm, hg, q0, q1, q2, q3, q4, hx⟩
theorem lenD_wf {d : D} (hd : FitsIn 0 1 d) {s : Int} (hs : lenD d = some s) : (Lit.int .i64 s).wf = true := by
  have ht : d.text.size ≤ 65535 ∧ d.kids.length ≤ 4096 := by
    have hsl := hd.slim (by omega)
    have hR := hd.2.2
    cases hsl with
    | mk k m b t kids hl hk => exact ⟨hR.inv.1.2.2.2.2.2.1, hl⟩
  have hb : 0 ≤ s ∧ s ≤ 65535 := by
    unfold lenD at hs
    by_cases h1 : d.kind = 4 ∨ d.kind = 5 ∨ d.kind = 7
    · rw [if_pos h1] at hs; cases hs; omega
    · rw [if_neg h1] at hs
      by_cases h2 : d.kind = 8
      · rw [if_pos h2] at hs; cases hs; omega
      · rw [if_neg h2] at hs
        by_cases h3 : d.kind = 9
        · rw [if_pos h3] at hs; cases hs; omega
        · rw [if_neg h3] at hs
          by_cases h4 : d.kind = 11
          · rw [if_pos h4] at hs; cases hs; omega
          · rw [if_neg h4] at hs
            by_cases h5 : d.kind = 12
            · rw [if_pos h5] at hs; cases hs; omega
            · rw [if_neg h5] at hs; cases hs
  exact wf_small (by omega) (by omega)
theorem face5_no : ∀ j : Fin 14, j.val ≠ 1 → j.val ≠ 3 → hasFi j.val 5 = false := by decide
theorem face3_yes : ∀ j : Fin 14, hasFi j.val 3 = true → j.val = 11 ∨ j.val = 12 := by decide
theorem face3_no : ∀ j : Fin 14, hasFi j.val 3 = false → j.val ≠ 11 ∧ j.val ≠ 12 := by decide
theorem kind6_is : ∀ j : Fin 14, isB j.val 6 = decide (j.val = 6) := by decide

set_option maxHeartbeats 800000 in
theorem smap_1 {w0 : World} {P : ByteArray → Prop} {F : D → Bool} {j : Nat} {m b : Int} {t : ByteArray} {a : Option Addr} {cap : Nat} {kids : List D} (hv : Rep w0 (.agg #[.int .i64 j, .int .i64 m, .int .u64 b, .string t, .slice a kids.length cap]) (.mk j m b t kids)) (hd : FitsIn 0 1 (.mk j m b t kids)) (tp : ByteArray) (hP0 : ∃ s, P s) (w : World) (hb0 : Below w0.heap.size w0 w) : SMapSays P F 1 tp (.agg #[.int .i64 j, .int .i64 m, .int .u64 b, .string t, .slice a kids.length cap]) (.mk j m b t kids) w := by
  have h13 : j ≤ 13 := by have := hd.top.2.1; omega
  by_cases h1 : (j : Int) = 1
  · obtain rfl : j = 1 := by omega
    exact .of_gave hP0 (fun s => mapO_1) (mapg_gave finds_1 tp (d := numD (wrap64 (m + m))) w (fun W hW => (doubled_int tp hv (hd.slim (by omega)) W (hb0.trans (hW.mono hb0.size))).mono fun _ _ ⟨hx, hb⟩ => ⟨_, hx, gaveP_leaf ⟨by decide, wrap64_wf _, by decide, by decide⟩, hb⟩) (fits_num _))
  · by_cases h3 : (j : Int) = 3
    · obtain rfl : j = 3 := by omega
      exact .of_gave hP0 (fun s => mapO_1) (mapg_gave finds_1 tp (d := fltD (fsum b.toNat b.toNat)) w (fun W hW => (doubled_flt tp hv (hd.slim (by omega)) W (hb0.trans (hW.mono hb0.size))).mono fun _ _ ⟨hx, hb⟩ => ⟨_, hx, gaveP_leaf ⟨by decide, by decide, fsum_wf _ _, by decide⟩, hb⟩) (fits_flt _))
    · exact .of_err hP0 (fun s => by rw [mapO_1, if_neg h1, if_neg h3]; rfl) (mapg_pan finds_1 tp w (fun W _ => double_no tp h13 (face5_no ⟨j, by omega⟩ (by simp only; omega) (by simp only; omega)) m b t a kids.length cap W))
set_option maxHeartbeats 800000 in
theorem smap_2 {w0 : World} {P : ByteArray → Prop} {F : D → Bool} {j : Nat} {m b : Int} {t : ByteArray} {a : Option Addr} {cap : Nat} {kids : List D} (hv : Rep w0 (.agg #[.int .i64 j, .int .i64 m, .int .u64 b, .string t, .slice a kids.length cap]) (.mk j m b t kids)) (hd : FitsIn 0 1 (.mk j m b t kids)) (tp : ByteArray) (hP0 : ∃ s, P s) (hF : ∀ x, F x = true ↔ FitsIn 0 1 x) (w : World) (hb0 : Below w0.heap.size w0 w) : SMapSays P F 2 tp (.agg #[.int .i64 j, .int .i64 m, .int .u64 b, .string t, .slice a kids.length cap]) (.mk j m b t kids) w := by
  have h13 : j ≤ 13 := by have := hd.top.2.1; omega
  clear h13
  have HG : ∀ (W W' : World) (g : Nat), Below w.heap.size w W → W.heap.size ≤ g → Row W' g #[.int .i64 j, .int .i64 m, .int .u64 b, .string t, .slice a kids.length cap] 25 → Below W.heap.size W W' → GaveP W' (fun b => b < w.heap.size ∨ W.heap.size ≤ b) (.agg #[.int .i64 0, .int .i64 0, .int .i64 0, .int .i64 0, .bool true, .int .i64 8, .int .i64 0, .int .u64 0, .string ⟨#[]⟩, .slice (some ⟨g, 0, none⟩) 1 1]) (.mk 8 0 0 ⟨#[]⟩ [.mk j m b t kids]) := fun W W' g hW hg hr hb => gaveP_listed (hv.carry hb0) (hW.trans (hb.mono hW.size)) hg hr
  by_cases hf : F (.mk 8 0 0 ⟨#[]⟩ [.mk j m b t kids]) = true
  · exact .of_gave hP0 (fun s => by rw [mapO_2]; exact if_pos hf) (mapg_gave finds_2 tp (d := .mk 8 0 0 ⟨#[]⟩ [.mk j m b t kids]) w (fun W hW => (listed_v tp W).mono fun x W' ⟨g, hg, hx, hr, hb⟩ => ⟨_, hx, HG W W' g hW hg hr hb, hb⟩) ((hF _).1 hf))
  · exact .of_err hP0 (fun s => by rw [mapO_2]; exact if_neg hf) (mapg_bad finds_2 tp (d := .mk 8 0 0 ⟨#[]⟩ [.mk j m b t kids]) w (fun W hW => (listed_v tp W).mono fun x W' ⟨g, hg, hx, hr, hb⟩ => ⟨_, hx, HG W W' g hW hg hr hb, hb⟩) (fun h => hf ((hF _).2 h)))
set_option maxHeartbeats 800000 in
theorem smap_3 {w0 : World} {P : ByteArray → Prop} {F : D → Bool} {j : Nat} {m b : Int} {t : ByteArray} {a : Option Addr} {cap : Nat} {kids : List D} (hv : Rep w0 (.agg #[.int .i64 j, .int .i64 m, .int .u64 b, .string t, .slice a kids.length cap]) (.mk j m b t kids)) (hd : FitsIn 0 1 (.mk j m b t kids)) (tp : ByteArray) (hP0 : ∃ s, P s) (w : World) (hb0 : Below w0.heap.size w0 w) : SMapSays P F 3 tp (.agg #[.int .i64 j, .int .i64 m, .int .u64 b, .string t, .slice a kids.length cap]) (.mk j m b t kids) w := by
  have h13 : j ≤ 13 := by have := hd.top.2.1; omega
  have hs := hd.slim (by omega)
  have hp : (D.mk j m b t kids).parts ≤ 4096 := by have := hd.1; omega
  cases h : hasFi j 3
  · obtain ⟨n11, n12⟩ := face3_no ⟨j, by omega⟩ h
    simp only at n11 n12
    exact .of_err hP0 (fun s => by rw [mapO_3, if_neg (by omega), if_neg (by omega), Int.toNat_natCast]) (mapg_err finds_3 tp (by decide) w (fun W hW => (opened_any tp (o := .pan 2 (faceMiss j 3)) W (fun W2 hW2 => try_pan _ _ _ _ _ _ _ _ _ _ _ _ _ _ _ _ (told_0 _) W2 (fun W3 _ => arm_open_pan (w0 := W3) _ _ _ _ _ 0 (fun W4 _ => gopen_no h13 h W4) W3 (Below.refl _ _)))).mono fun x W' ⟨v', hx, hr, hb⟩ => ⟨by rw [hx, show v' = _ from hr]; rfl, hb⟩))
  · rcases face3_yes ⟨j, by omega⟩ h with h11 | h12
    · obtain rfl : j = 11 := h11
      have hlen : kids.length = 1 := hd.top.2.2.2.1 (by omega)
      obtain ⟨x, rfl⟩ : ∃ x, kids = [x] := List.length_eq_one_iff.1 hlen
      have hsx : Slim x := hs.inv.2 x (by simp)
      obtain ⟨k1, m1, b1, t1, cap1, g, o, k6, m6, b6, t6, a6, n6, cap6, e1, -, hcp, hcm, hg, i0, i1, i2, i3, i4, hx⟩ := hv.kidS (i := 0) (x := x) rfl
      simp only [Value.agg.injEq, Array.mk.injEq, List.cons.injEq, Value.int.injEq, Value.slice.injEq, Value.string.injEq, true_and, and_true] at e1
      obtain ⟨rfl, rfl, rfl, rfl, rfl, -, rfl⟩ := e1
      simp only [Nat.zero_mul, Nat.add_zero] at i0 i1 i2 i3 i4
      have HO := fun W hW => open_box hv (by omega) hd.2.2 hp ⟨hg, hcp, hcm⟩ ⟨i0, i1, i2, i3, i4⟩ hx hsx W hW
      exact .of_gave hP0 (fun s => mapO_3) (mapg_gave finds_3 tp (d := x) w (fun W hW => (opened_any tp (o := .gave x) W (fun W2 hW2 => try_ret _ _ _ _ _ _ _ _ _ _ _ _ _ W2 (fun W3 hW3 => arm_open hsx _ _ _ _ _ 0 (fun W4 hW4 => gopen_box h13 h HO W4 hW4) W3 ((hb0.trans (hW.mono hb0.size)).trans ((hW2.trans (hW3.mono hW2.size)).mono (Nat.le_trans hb0.size hW.size)))))).mono fun _ _ ⟨v', hx, hr, hb⟩ => ⟨v', hx, GaveP.fresh hr, hb⟩) (hd.kid (by simp)))
    · obtain rfl : j = 12 := h12
      exact .of_err hP0 (fun s => mapO_3) (mapg_err finds_3 tp (by decide) w (fun W hW => (opened_any tp (o := .pan 3 0) W (fun W2 hW2 => try_pan _ _ _ _ _ _ _ _ _ _ _ _ _ _ _ _ told_5 W2 (fun W3 hW3 => arm_open_pan _ _ _ _ _ 0 (fun W4 hW4 => gopen_nil h13 h (fun W5 hW5 => open_nil hv hd.2.2 hp rfl W5 hW5) W4 hW4) W3 ((hb0.trans (hW.mono hb0.size)).trans ((hW2.trans (hW3.mono hW2.size)).mono (Nat.le_trans hb0.size hW.size)))))).mono fun x W' ⟨v', hx, hr, hb⟩ => ⟨by rw [hx, show v' = _ from hr]; rfl, hb⟩))
set_option maxHeartbeats 800000 in
theorem smap_4 {w0 : World} {P : ByteArray → Prop} {F : D → Bool} {j : Nat} {m b : Int} {t : ByteArray} {a : Option Addr} {cap : Nat} {kids : List D} (hv : Rep w0 (.agg #[.int .i64 j, .int .i64 m, .int .u64 b, .string t, .slice a kids.length cap]) (.mk j m b t kids)) (hd : FitsIn 0 1 (.mk j m b t kids)) (tp : ByteArray) (hP0 : ∃ s, P s) (w : World) (hb0 : Below w0.heap.size w0 w) : SMapSays P F 4 tp (.agg #[.int .i64 j, .int .i64 m, .int .u64 b, .string t, .slice a kids.length cap]) (.mk j m b t kids) w := by
  have h13 : j ≤ 13 := by have := hd.top.2.1; omega
  clear h13
  have hp : (D.mk j m b t kids).parts ≤ 4096 := by have := hd.1; omega
  cases hn : lenD (.mk j m b t kids) with
  | some n =>
    exact .of_gave hP0 (fun s => by rw [mapO_4, hn]) (mapg_gave finds_4 tp (d := numD n) w (fun W hW => (sized_any tp (o := .gave (numD n)) W (fun W2 hW2 => try_ret _ _ _ _ _ _ _ _ _ _ _ _ _ W2 (fun W3 hW3 => act_size hv hd.2.2 hp n hn (lenD_wf hd hn) _ _ _ _ _ 0 W3 ((hb0.trans (hW.mono hb0.size)).trans ((hW2.trans (hW3.mono hW2.size)).mono (Nat.le_trans hb0.size hW.size)))))).mono fun _ _ ⟨v', hx, hr, hb⟩ => ⟨v', hx, GaveP.fresh hr, hb⟩) (fits_num _))
  | none =>
    exact .of_err hP0 (fun s => by rw [mapO_4, hn]) (mapg_err finds_4 tp (by decide) w (fun W hW => (sized_any tp (o := .err) W (fun W2 hW2 => try_ret _ _ _ _ _ _ _ _ _ _ _ _ _ W2 (fun W3 hW3 => act_size_no hv hd.2.2 hp hn _ _ _ _ _ 0 W3 ((hb0.trans (hW.mono hb0.size)).trans ((hW2.trans (hW3.mono hW2.size)).mono (Nat.le_trans hb0.size hW.size)))))).mono fun x W' ⟨v', hx, hr, hb⟩ => ⟨by rw [hx, show v' = _ from hr]; rfl, hb⟩))
set_option maxHeartbeats 800000 in
theorem smap_5 {w0 : World} {P : ByteArray → Prop} {F : D → Bool} {j : Nat} {m b : Int} {t : ByteArray} {a : Option Addr} {cap : Nat} {kids : List D} (hv : Rep w0 (.agg #[.int .i64 j, .int .i64 m, .int .u64 b, .string t, .slice a kids.length cap]) (.mk j m b t kids)) (hd : FitsIn 0 1 (.mk j m b t kids)) (tp : ByteArray) (hP0 : ∃ s, P s) (w : World) (hP : ∀ s, P s → s.size ≤ 65531) (HK : ∀ W, Below w.heap.size w W → Calls Tryz.prog 55 #[.int .i64 m, .int .i64 10] W fun x w' => ∃ s, x = .returned (.string s) ∧ P s ∧ Below W.heap.size W w') (hb0 : Below w0.heap.size w0 w) : SMapSays P F 5 tp (.agg #[.int .i64 j, .int .i64 m, .int .u64 b, .string t, .slice a kids.length cap]) (.mk j m b t kids) w := by
  have h13 : j ≤ 13 := by have := hd.top.2.1; omega
  have hp : (D.mk j m b t kids).parts ≤ 4096 := by have := hd.1; omega
  by_cases h2 : (j : Int) = 2
  · obtain rfl : j = 2 := by omega
    refine (mapg_gaves finds_5 tp (Pd := fun d => ∃ s, P s ∧ d = txtD (⟨#[107, 101, 121, 32]⟩ ++ s)) w (fun W hW => ?_) ?_).mono ?_
    · refine (named_yes tp W (fun W2 hW2 => label_key hv hd.2.2 hp rfl hP W2 (hb0.trans ((hW.trans (hW2.mono hW.size)).mono hb0.size)) (fun W3 hW3 => HK W3 ((hW.trans (hW2.mono hW.size)).trans (hW3.mono (Nat.le_trans hW.size hW2.size)))))).mono ?_
      rintro x W' ⟨s, hx, ⟨r, rfl, hr⟩, hb⟩
      refine ⟨_, _, hx, ⟨r, hr, rfl⟩, gaveP_leaf ⟨by decide, by decide, by decide, size_le_max ?_⟩, hb⟩
      rw [bytes_append_size]
      have h4 : (ByteArray.mk #[107, 101, 121, 32]).size = 4 := rfl
      have := hP r hr
      omega
    · rintro d ⟨s, hs, rfl⟩
      refine fits_txt ?_
      rw [bytes_append_size]
      have h4 : (ByteArray.mk #[107, 101, 121, 32]).size = 4 := rfl
      have := hP s hs
      omega
    · rintro x W' ⟨v', d, hx, ⟨s, hs, rfl⟩, hr, hb⟩
      exact ⟨v', s, hs, hx, hr, hb⟩
  · by_cases h5 : (j : Int) = 5 ∨ (j : Int) = 10
    · exact .of_gave hP0 (fun s => by rw [mapO_5, if_neg h2, if_pos h5]) (mapg_gave finds_5 tp (d := txtD t) w (fun W hW => (named_yes tp W (fun W2 hW2 => label_text hv hd.2.2 hp h5 W2 (hb0.trans ((hW.trans (hW2.mono hW.size)).mono hb0.size)))).mono fun x W' ⟨s, hx, hs, hb⟩ => ⟨_, hx, by rw [show s = t from hs]; exact gaveP_leaf ⟨by decide, by decide, by decide, size_le_max hd.top.2.2.2.2.2.1⟩, hb⟩) (fits_txt hd.top.2.2.2.2.2.1))
    · have hk : namedK (.mk j m b t kids) = false := by
        show (decide ((j : Int) = 2) || decide ((j : Int) = 5) || decide ((j : Int) = 10)) = false
        simp only [Bool.or_eq_false_iff, decide_eq_false_iff_not]
        omega
      exact .of_err hP0 (fun s => by rw [mapO_5, if_neg h2, if_neg h5]) (mapg_err finds_5 tp (by decide) w (fun W hW => named_no tp W (fun W2 hW2 => label_none hv hd.2.2 hp hk W2 (hb0.trans ((hW.trans (hW2.mono hW.size)).mono hb0.size)))))
set_option maxHeartbeats 800000 in
theorem smap_6 {w0 : World} {P : ByteArray → Prop} {F : D → Bool} {j : Nat} {m b : Int} {t : ByteArray} {a : Option Addr} {cap : Nat} {kids : List D} (hv : Rep w0 (.agg #[.int .i64 j, .int .i64 m, .int .u64 b, .string t, .slice a kids.length cap]) (.mk j m b t kids)) (hd : FitsIn 0 1 (.mk j m b t kids)) (tp : ByteArray) (hP0 : ∃ s, P s) (w : World) (hb0 : Below w0.heap.size w0 w) : SMapSays P F 6 tp (.agg #[.int .i64 j, .int .i64 m, .int .u64 b, .string t, .slice a kids.length cap]) (.mk j m b t kids) w := by
  have h13 : j ≤ 13 := by have := hd.top.2.1; omega
  have hs := hd.slim (by omega)
  cases h : isB j 6
  · have hj := kind6_is ⟨j, by omega⟩
    simp only at hj
    rw [hj] at h
    have h6 : ¬ (j : Int) = 6 := by have := of_decide_eq_false h; omega
    have hB : isB j 6 = false := by rw [hj]; exact h
    exact .of_err hP0 (fun s => by rw [mapO_6, if_neg h6]) (mapg_pan finds_6 tp w (fun W _ => negated_no tp W (fun W2 _ => try_pan _ _ _ _ _ _ _ _ _ _ _ _ _ _ _ _ (told_0 _) W2 (fun W3 _ => act_kind_no h13 _ _ _ _ _ 6 hB W3))))
  · have hj := kind6_is ⟨j, by omega⟩
    simp only at hj
    have hB := h
    rw [hj] at h
    obtain rfl : j = 6 := of_decide_eq_true h
    have hm : m = 0 ∨ m = 1 := hd.top.2.2.2.2.2.2.2.2.2.1 rfl
    exact .of_gave hP0 (fun s => mapO_6) (mapg_gave finds_6 tp (d := .mk 6 (1 - m) 0 ⟨#[]⟩ []) w (fun W hW => (negated_ok tp hm W (fun W2 hW2 => try_ret _ _ _ _ _ _ _ _ _ _ _ _ _ W2 (fun W3 hW3 => act_kind h13 hv hs _ _ _ _ _ 6 hB W3 ((hb0.trans (hW.mono hb0.size)).trans ((hW2.trans (hW3.mono hW2.size)).mono (Nat.le_trans hb0.size hW.size)))))).mono fun _ _ ⟨hx, hb⟩ => ⟨_, hx, gaveP_leaf ⟨by decide, by rcases hm with rfl | rfl <;> decide, by decide, by decide⟩, hb⟩) (fits_bool (by omega)))
set_option maxHeartbeats 800000 in
theorem smap_7 {w0 : World} {P : ByteArray → Prop} {F : D → Bool} {j : Nat} {m b : Int} {t : ByteArray} {a : Option Addr} {cap : Nat} {kids : List D} (hv : Rep w0 (.agg #[.int .i64 j, .int .i64 m, .int .u64 b, .string t, .slice a kids.length cap]) (.mk j m b t kids)) (hd : FitsIn 0 1 (.mk j m b t kids)) (tp : ByteArray) (hP0 : ∃ s, P s) (hF : ∀ x, F x = true ↔ FitsIn 0 1 x) (htp : tp.size ≤ maxLen) (w : World) (hb0 : Below w0.heap.size w0 w) : SMapSays P F 7 tp (.agg #[.int .i64 j, .int .i64 m, .int .u64 b, .string t, .slice a kids.length cap]) (.mk j m b t kids) w := by
  have h13 : j ≤ 13 := by have := hd.top.2.1; omega
  clear h13
  have HG : ∀ (W W' : World) (g : Nat), Below w.heap.size w W → W.heap.size ≤ g → Row W' g #[.int .i64 4, .int .i64 0, .int .u64 0, .string tp, .slice none 0 0, .int .i64 j, .int .i64 m, .int .u64 b, .string t, .slice a kids.length cap] 25 → Below W.heap.size W W' → GaveP W' (fun b => b < w.heap.size ∨ W.heap.size ≤ b) (.agg #[.int .i64 0, .int .i64 0, .int .i64 0, .int .i64 0, .bool true, .int .i64 9, .int .i64 0, .int .u64 0, .string ⟨#[]⟩, .slice (some ⟨g, 0, none⟩) 2 2]) (.mk 9 0 0 ⟨#[]⟩ [txtD tp, .mk j m b t kids]) := fun W W' g hW hg hr hb => gaveP_paired htp (hv.carry hb0) (hW.trans (hb.mono hW.size)) hg hr
  by_cases hf : F (.mk 9 0 0 ⟨#[]⟩ [txtD tp, .mk j m b t kids]) = true
  · exact .of_gave hP0 (fun s => by rw [mapO_7]; exact if_pos hf) (mapg_gave finds_7 tp (d := .mk 9 0 0 ⟨#[]⟩ [txtD tp, .mk j m b t kids]) w (fun W hW => (paired_v tp W).mono fun x W' ⟨g, hg, hx, hr, hb⟩ => ⟨_, hx, HG W W' g hW hg hr hb, hb⟩) ((hF _).1 hf))
  · exact .of_err hP0 (fun s => by rw [mapO_7]; exact if_neg hf) (mapg_bad finds_7 tp (d := .mk 9 0 0 ⟨#[]⟩ [txtD tp, .mk j m b t kids]) w (fun W hW => (paired_v tp W).mono fun x W' ⟨g, hg, hx, hr, hb⟩ => ⟨_, hx, HG W W' g hW hg hr hb, hb⟩) (fun h => hf ((hF _).2 h)))
theorem RepP.inv {w : World} {P : Nat → Prop} {v : Value} {d : D} (h : RepP w P v d) : ∃ (k m b : Int) (t : ByteArray) (a : Option Addr) (cap g o : Nat) (c : Nat → Nat → Value) (kids : List D), v = .agg #[.int .i64 k, .int .i64 m, .int .u64 b, .string t, .slice a kids.length cap] ∧ d = .mk k m b t kids ∧
    ((Lit.int .i64 k).wf = true ∧ (Lit.int .i64 m).wf = true ∧ (Lit.int .u64 b).wf = true ∧ t.size ≤ maxLen) ∧
    (0 < kids.length → a = some ⟨g, o, none⟩ ∧ P g ∧ g < w.heap.size ∧ kids.length ≤ cap ∧ cap ≤ 9223372036854775807) ∧ Row5 w g o kids.length c ∧ (∀ i x, kids[i]? = some x → RepP w P (five c i) x) := by
  cases h with
  | mk k m b t a cap g o c kids hw ha hc hk => exact ⟨k, m, b, t, a, cap, g, o, c, kids, rfl, rfl, hw, ha, hc, hk⟩
theorem GaveP.rekind {w w1 : World} {P : Nat → Prop} {k k' m b : Int} {t : ByteArray} {a : Option Addr} {cap : Nat} {kids : List D} (h : Rep w (.agg #[.int .i64 k, .int .i64 m, .int .u64 b, .string t, .slice a kids.length cap]) (.mk k m b t kids)) (hb : Below w.heap.size w w1) (hk : (Lit.int .i64 k').wf = true) (hP : ∀ i, i < w.heap.size → P i) : GaveP w1 P (.agg #[.int .i64 0, .int .i64 0, .int .i64 0, .int .i64 0, .bool true, .int .i64 k', .int .i64 m, .int .u64 b, .string t, .slice a kids.length cap]) (.mk k' m b t kids) := by
  refine ⟨_, _, _, _, _, _, _, rfl, ?_⟩
  have h1 := (keepP_new h hb).carry (Q := P) (fun i hi _ => ⟨rfl, hP i hi⟩) (Nat.le_refl _)
  obtain ⟨k0, m0, b0, t0, a0, cap0, g, o, c, kids0, e, e2, hw, ha, hc, hk0⟩ := h1.inv
  simp only [D.mk.injEq] at e2
  obtain ⟨rfl, rfl, rfl, rfl, rfl⟩ := e2
  simp only [Value.agg.injEq, Array.mk.injEq, List.cons.injEq, Value.slice.injEq, true_and, and_true] at e
  obtain ⟨rfl, rfl⟩ := e
  exact RepP.mk k' m b t a cap g o c kids ⟨hk, hw.2⟩ ha hc hk0
set_option maxHeartbeats 800000 in
theorem smap_8 {w0 : World} {P : ByteArray → Prop} {F : D → Bool} {j : Nat} {m b : Int} {t : ByteArray} {a : Option Addr} {cap : Nat} {kids : List D} (hv : Rep w0 (.agg #[.int .i64 j, .int .i64 m, .int .u64 b, .string t, .slice a kids.length cap]) (.mk j m b t kids)) (hd : FitsIn 0 1 (.mk j m b t kids)) (tp : ByteArray) (hP0 : ∃ s, P s) (w : World) (hb0 : Below w0.heap.size w0 w) : SMapSays P F 8 tp (.agg #[.int .i64 j, .int .i64 m, .int .u64 b, .string t, .slice a kids.length cap]) (.mk j m b t kids) w := by
  have h13 : j ≤ 13 := by have := hd.top.2.1; omega
  exact .of_gave hP0 (fun s => mapO_8) (mapg_gave finds_8 tp (d := .mk (keyK j) m b t kids) w (fun W hW => (keyed_any tp W).mono fun _ _ ⟨hx, hb⟩ => ⟨_, hx, GaveP.rekind (hv.carry hb0) (hW.trans (hb.mono hW.size)) (wf_small (by unfold keyK; (repeat' split) <;> omega) (by unfold keyK; (repeat' split) <;> omega)) (fun i hi => Or.inl hi), hb⟩) (fits_key hd))
theorem smap_any {w0 : World} {v : Value} {d : D} (hv : Rep w0 v d) (hd : FitsIn 0 1 d) {P : ByteArray → Prop} (hP0 : ∃ s, P s) (hP : ∀ s, P s → s.size ≤ 65531) {F : D → Bool} (hF : ∀ x, F x = true ↔ FitsIn 0 1 x) (op : Int) (tp : ByteArray) (htp : tp.size ≤ maxLen) (w : World) (hb0 : Below w0.heap.size w0 w) (HK : ∀ W, Below w.heap.size w W → Calls Tryz.prog 55 #[.int .i64 d.num, .int .i64 10] W fun x w' => ∃ s, x = .returned (.string s) ∧ P s ∧ Below W.heap.size W w') : SMapSays P F op tp v d w := by
  obtain ⟨k, m, b, t, a, cap, g, o, c, kids, rfl, rfl, -⟩ := hv.inv
  obtain ⟨j, rfl⟩ : ∃ j : Nat, k = j := ⟨k.toNat, by have := hd.top.1; omega⟩
  rcases op_cases op with rfl | rfl | rfl | rfl | rfl | rfl | rfl | rfl | ho
  · exact smap_1 hv hd tp hP0 w hb0
  · exact smap_2 hv hd tp hP0 hF w hb0
  · exact smap_3 hv hd tp hP0 w hb0
  · exact smap_4 hv hd tp hP0 w hb0
  · exact smap_5 hv hd tp hP0 w hP HK hb0
  · exact smap_6 hv hd tp hP0 w hb0
  · exact smap_7 hv hd tp hP0 hF htp w hb0
  · exact smap_8 hv hd tp hP0 w hb0
  · exact .of_err hP0 (fun s => mapO_no ho _) (mapg_none ho tp w)
end Go.Proofs.YtecdniimikfbhaaGreatDoor
