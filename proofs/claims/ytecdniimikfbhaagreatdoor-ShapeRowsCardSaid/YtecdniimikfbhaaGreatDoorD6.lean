/- Shape: the reference's Map tells what the plain words say (mapO); Same of what two maps told. -/
import Derived.Test.YtecdniimikfbhaaGreatDoorD3
import Derived.Test.YtecdniimikfbhaaGreatDoorD4
import Derived.Test.YtecdniimikfbhaaGreatDoorD5
namespace Go.Proofs.YtecdniimikfbhaaGreatDoor
open Go Go.RowKit Go.ChangeShapes Go.WideShapes

/-- What a map tells, in memory, wherever its parts lie. -/
def RMV (w : World) (Q : Nat → Prop) (v : Value) : MO → Prop
  | .gave d => GaveP w Q v d
  | .err e pk pn => v = errV e pk pn
theorem RMV.of_mv {w : World} {Q : Nat → Prop} {v : Value} {o : MO} (h : MV w Q v o) : RMV w Q v o := by
  cases o with
  | gave d => exact GaveP.of_resV h
  | err e pk pn => exact h
theorem RMV.later {w w1 : World} {Q : Nat → Prop} {v : Value} {o : MO} (h : RMV w Q v o) (hb : Below w.heap.size w w1) : RMV w1 Q v o := by
  cases o with
  | gave d => exact GaveP.later h hb
  | err e pk pn => exact h
theorem RMV.form {w : World} {Q : Nat → Prop} {v : Value} {o : MO} (h : RMV w Q v o) : ∃ (e c p n : Int) (hs : Bool) (k m b : Int) (t : ByteArray) (a : Option Addr) (l cap : Nat), v = .agg #[.int .i64 e, .int .i64 c, .int .i64 p, .int .i64 n, .bool hs, .int .i64 k, .int .i64 m, .int .u64 b, .string t, .slice a l cap] := by
  cases o with
  | gave d =>
    obtain ⟨k, m, b, t, a, n, cap, rfl, -⟩ := h
    exact ⟨_, _, _, _, _, _, _, _, _, _, _, _, rfl⟩
  | err e pk pn =>
    obtain rfl : v = _ := h
    exact ⟨_, _, _, _, _, _, _, _, _, _, _, _, rfl⟩
theorem zeroD (w : World) : Rep w (.agg #[.int .i64 0, .int .i64 0, .int .u64 0, .string ⟨#[]⟩, .slice none 0 0]) (.mk 0 0 0 ⟨#[]⟩ []) := rep_plain w 0 0 (by decide) (by decide)
theorem zeroFits : FitsIn 0 1 (.mk 0 0 0 ⟨#[]⟩ []) := fits_leaf ⟨by omega, by omega, by omega, by omega, by omega, by decide, by omega, by omega, Or.inr noText, by omega, by omega⟩
/-- Same of results: of what two maps told in the same words. -/
theorem rsame_mo {w0 : World} {Q Q' : Nat → Prop} {o : MO} {v v' : Value} (h : RMV w0 Q v o) (h' : RMV w0 Q' v' o) (w : World) (hb0 : Below w0.heap.size w0 w) :
    Calls Tryz.prog 9 #[v, v'] w fun x w' => x = .returned (.bool true) ∧ Below w.heap.size w w' := by
  cases o with
  | gave d =>
    obtain ⟨k, m, b, t, a, n, cap, rfl, h2⟩ := h
    obtain ⟨k', m', b', t', a', n', cap', rfl, h2'⟩ := h'
    exact rsame_lit h2.rep h2'.rep w hb0
  | err e pk pn =>
    obtain rfl : v = _ := h
    obtain rfl : v' = _ := h'
    exact rsame_lit (zeroD w0) (zeroD w0) w hb0

/-- The reference's Map tells what the plain words say. -/
def RMapSays (P : ByteArray → Prop) (F : D → Bool) (op : Int) (tp : ByteArray) (v : Value) (d : D) (w : World) : Prop :=
  Calls Tryz.prog 10 #[.int .i64 op, .string tp, v] w fun x w' => ∃ v' s, P s ∧ x = .returned v' ∧ RMV w' (fun b => w.heap.size ≤ b) v' (mapO F s tp op d) ∧ Below w.heap.size w w'
theorem RMapSays.of_gave {P : ByteArray → Prop} {F : D → Bool} {op : Int} {tp : ByteArray} {v : Value} {d x : D} {w : World} (hP0 : ∃ s, P s) (hm : ∀ s, mapO F s tp op d = .gave x) (h : Calls Tryz.prog 10 #[.int .i64 op, .string tp, v] w fun x' w' => ∃ v', x' = .returned v' ∧ GaveP w' (fun b => w.heap.size ≤ b) v' x ∧ Below w.heap.size w w') : RMapSays P F op tp v d w := by
  obtain ⟨s, hs⟩ := hP0
  exact h.mono fun _ _ ⟨v', h1, h2, h3⟩ => ⟨v', s, hs, h1, by rw [hm s]; exact h2, h3⟩
theorem RMapSays.of_err {P : ByteArray → Prop} {F : D → Bool} {op e pk pn : Int} {tp : ByteArray} {v : Value} {d : D} {w : World} (hP0 : ∃ s, P s) (hm : ∀ s, mapO F s tp op d = .err e pk pn) (h : Calls Tryz.prog 10 #[.int .i64 op, .string tp, v] w fun x' w' => x' = .returned (errV e pk pn) ∧ Below w.heap.size w w') : RMapSays P F op tp v d w := by
  obtain ⟨s, hs⟩ := hP0
  exact h.mono fun _ _ ⟨h1, h3⟩ => ⟨_, s, hs, h1, by rw [hm s]; exact rfl, h3⟩

set_option maxHeartbeats 800000 in
theorem rmap_1 {w0 : World} {P : ByteArray → Prop} {F : D → Bool} {j : Nat} {m b : Int} {t : ByteArray} {a : Option Addr} {cap : Nat} {kids : List D} (hv : Rep w0 (.agg #[.int .i64 j, .int .i64 m, .int .u64 b, .string t, .slice a kids.length cap]) (.mk j m b t kids)) (hd : FitsIn 0 1 (.mk j m b t kids)) (tp : ByteArray) (hP0 : ∃ s, P s) (w : World) (hb0 : Below w0.heap.size w0 w) : RMapSays P F 1 tp (.agg #[.int .i64 j, .int .i64 m, .int .u64 b, .string t, .slice a kids.length cap]) (.mk j m b t kids) w := by
  have h13 : j ≤ 13 := by have := hd.top.2.1; omega
  by_cases h1 : (j : Int) = 1
  · obtain rfl : j = 1 := by omega
    exact .of_gave hP0 (fun s => mapO_1) (rmap_1_int hv hd tp w hb0)
  · by_cases h3 : (j : Int) = 3
    · obtain rfl : j = 3 := by omega
      exact .of_gave hP0 (fun s => mapO_1) (rmap_1_flt hv hd tp w hb0)
    · exact .of_err hP0 (fun s => by rw [mapO_1, if_neg h1, if_neg h3]; rfl) (rmap_1_no hv hd tp (face5_no ⟨j, by omega⟩ (by simp only; omega) (by simp only; omega)) w hb0)
set_option maxHeartbeats 800000 in
theorem rmap_2 {w0 : World} {P : ByteArray → Prop} {F : D → Bool} {j : Nat} {m b : Int} {t : ByteArray} {a : Option Addr} {cap : Nat} {kids : List D} (hv : Rep w0 (.agg #[.int .i64 j, .int .i64 m, .int .u64 b, .string t, .slice a kids.length cap]) (.mk j m b t kids)) (hd : FitsIn 0 1 (.mk j m b t kids)) (tp : ByteArray) (hP0 : ∃ s, P s) (hF : ∀ x, F x = true ↔ FitsIn 0 1 x) (w : World) (hb0 : Below w0.heap.size w0 w) : RMapSays P F 2 tp (.agg #[.int .i64 j, .int .i64 m, .int .u64 b, .string t, .slice a kids.length cap]) (.mk j m b t kids) w := by
  by_cases hf : F (.mk 8 0 0 ⟨#[]⟩ [.mk j m b t kids]) = true
  · exact .of_gave hP0 (fun s => by rw [mapO_2]; exact if_pos hf) (rmap_2_yes hv hd tp ((hF _).1 hf) w hb0)
  · exact .of_err hP0 (fun s => by rw [mapO_2]; exact if_neg hf) (rmap_2_no hv hd tp (fun h => hf ((hF _).2 h)) w hb0)
set_option maxHeartbeats 800000 in
theorem rmap_7 {w0 : World} {P : ByteArray → Prop} {F : D → Bool} {j : Nat} {m b : Int} {t : ByteArray} {a : Option Addr} {cap : Nat} {kids : List D} (hv : Rep w0 (.agg #[.int .i64 j, .int .i64 m, .int .u64 b, .string t, .slice a kids.length cap]) (.mk j m b t kids)) (hd : FitsIn 0 1 (.mk j m b t kids)) (tp : ByteArray) (hP0 : ∃ s, P s) (hF : ∀ x, F x = true ↔ FitsIn 0 1 x) (htp : tp.size ≤ maxLen) (w : World) (hb0 : Below w0.heap.size w0 w) : RMapSays P F 7 tp (.agg #[.int .i64 j, .int .i64 m, .int .u64 b, .string t, .slice a kids.length cap]) (.mk j m b t kids) w := by
  by_cases hf : F (.mk 9 0 0 ⟨#[]⟩ [txtD tp, .mk j m b t kids]) = true
  · exact .of_gave hP0 (fun s => by rw [mapO_7]; exact if_pos hf) (rmap_7_yes hv hd tp htp ((hF _).1 hf) w hb0)
  · exact .of_err hP0 (fun s => by rw [mapO_7]; exact if_neg hf) (rmap_7_no hv hd tp htp (fun h => hf ((hF _).2 h)) w hb0)
set_option maxHeartbeats 800000 in
theorem rmap_3 {w0 : World} {P : ByteArray → Prop} {F : D → Bool} {j : Nat} {m b : Int} {t : ByteArray} {a : Option Addr} {cap : Nat} {kids : List D} (hv : Rep w0 (.agg #[.int .i64 j, .int .i64 m, .int .u64 b, .string t, .slice a kids.length cap]) (.mk j m b t kids)) (hd : FitsIn 0 1 (.mk j m b t kids)) (tp : ByteArray) (hP0 : ∃ s, P s) (w : World) (hb0 : Below w0.heap.size w0 w) : RMapSays P F 3 tp (.agg #[.int .i64 j, .int .i64 m, .int .u64 b, .string t, .slice a kids.length cap]) (.mk j m b t kids) w := by
  have h13 : j ≤ 13 := by have := hd.top.2.1; omega
  cases h : hasFi j 3
  · obtain ⟨n11, n12⟩ := face3_no ⟨j, by omega⟩ h
    simp only at n11 n12
    exact .of_err hP0 (fun s => by rw [mapO_3, if_neg (by omega), if_neg (by omega), Int.toNat_natCast]) (rmap_3_no hv hd tp h w hb0)
  · rcases face3_yes ⟨j, by omega⟩ h with h11 | h12
    · obtain rfl : j = 11 := h11
      have hlen : kids.length = 1 := hd.top.2.2.2.1 (by omega)
      obtain ⟨x, rfl⟩ : ∃ x, kids = [x] := List.length_eq_one_iff.1 hlen
      exact .of_gave hP0 (fun s => mapO_3) (rmap_3_box hv hd tp h rfl (y := x) rfl w hb0)
    · obtain rfl : j = 12 := h12
      exact .of_err hP0 (fun s => mapO_3) (rmap_3_nil hv hd tp h rfl w hb0)
set_option maxHeartbeats 800000 in
theorem rmap_4 {w0 : World} {P : ByteArray → Prop} {F : D → Bool} {j : Nat} {m b : Int} {t : ByteArray} {a : Option Addr} {cap : Nat} {kids : List D} (hv : Rep w0 (.agg #[.int .i64 j, .int .i64 m, .int .u64 b, .string t, .slice a kids.length cap]) (.mk j m b t kids)) (hd : FitsIn 0 1 (.mk j m b t kids)) (tp : ByteArray) (hP0 : ∃ s, P s) (w : World) (hb0 : Below w0.heap.size w0 w) : RMapSays P F 4 tp (.agg #[.int .i64 j, .int .i64 m, .int .u64 b, .string t, .slice a kids.length cap]) (.mk j m b t kids) w := by
  cases hn : lenD (.mk j m b t kids) with
  | some n => exact .of_gave hP0 (fun s => by rw [mapO_4, hn]) (rmap_4_yes hv hd tp n hn w hb0)
  | none => exact .of_err hP0 (fun s => by rw [mapO_4, hn]) (rmap_4_no hv hd tp hn w hb0)
set_option maxHeartbeats 800000 in
theorem rmap_5 {P : ByteArray → Prop} {F : D → Bool} {j : Nat} {m b : Int} {t : ByteArray} {a : Option Addr} {cap : Nat} {kids : List D} (hd : FitsIn 0 1 (.mk j m b t kids)) (tp : ByteArray) (hP0 : ∃ s, P s) (hP : ∀ s, P s → s.size ≤ 65531) (w : World) (HK : ∀ W, Below w.heap.size w W → Calls Tryz.prog 55 #[.int .i64 m, .int .i64 10] W fun x w' => ∃ s, x = .returned (.string s) ∧ P s ∧ Below W.heap.size W w') : RMapSays P F 5 tp (.agg #[.int .i64 j, .int .i64 m, .int .u64 b, .string t, .slice a kids.length cap]) (.mk j m b t kids) w := by
  by_cases h2 : (j : Int) = 2
  · obtain rfl : j = 2 := by omega
    refine (rmap_5_yes tp w (fun W hW => rlabel_key hP m b t a kids.length cap W (fun W3 hW3 => HK W3 (hW.trans (hW3.mono hW.size))))).mono ?_
    rintro x W' ⟨s, hx, ⟨r, rfl, hr⟩, hb⟩
    refine ⟨_, r, hr, hx, ?_, hb⟩
    rw [mapO_5, if_pos (by decide)]
    refine gaveP_leaf ⟨by decide, by decide, by decide, size_le_max ?_⟩
    rw [bytes_append_size]
    have h4 : (ByteArray.mk #[107, 101, 121, 32]).size = 4 := rfl
    have := hP r hr
    omega
  · by_cases h5 : (j : Int) = 5 ∨ (j : Int) = 10
    · refine .of_gave (x := txtD t) hP0 (fun s => by rw [mapO_5, if_neg h2, if_pos h5]) ((rmap_5_yes tp (P := fun s => s = t) w (fun W _ => (rlabel_text h5 m b t a kids.length cap W).mono fun x W' ⟨hx, hb⟩ => ⟨t, hx, rfl, hb⟩)).mono ?_)
      rintro x W' ⟨s, hx, rfl, hb⟩
      exact ⟨_, hx, gaveP_leaf ⟨by decide, by decide, by decide, size_le_max hd.top.2.2.2.2.2.1⟩, hb⟩
    · exact .of_err hP0 (fun s => by rw [mapO_5, if_neg h2, if_neg h5]) (rmap_5_no tp w (fun W _ => rlabel_no h2 (fun h => h5 (Or.inl h)) (fun h => h5 (Or.inr h)) m b t a kids.length cap W))
set_option maxHeartbeats 800000 in
theorem rmap_6 {w0 : World} {P : ByteArray → Prop} {F : D → Bool} {j : Nat} {m b : Int} {t : ByteArray} {a : Option Addr} {cap : Nat} {kids : List D} (hv : Rep w0 (.agg #[.int .i64 j, .int .i64 m, .int .u64 b, .string t, .slice a kids.length cap]) (.mk j m b t kids)) (hd : FitsIn 0 1 (.mk j m b t kids)) (tp : ByteArray) (hP0 : ∃ s, P s) (w : World) (hb0 : Below w0.heap.size w0 w) : RMapSays P F 6 tp (.agg #[.int .i64 j, .int .i64 m, .int .u64 b, .string t, .slice a kids.length cap]) (.mk j m b t kids) w := by
  have h13 : j ≤ 13 := by have := hd.top.2.1; omega
  have hj := kind6_is ⟨j, by omega⟩
  simp only at hj
  by_cases h6 : j = 6
  · obtain rfl := h6
    exact .of_gave hP0 (fun s => mapO_6) (rmap_6_yes hv hd tp w hb0)
  · have hB : isB j 6 = false := by rw [hj]; exact decide_eq_false h6
    exact .of_err hP0 (fun s => by rw [mapO_6, if_neg (by omega)]) (rmap_6_no hv hd tp hB w hb0)
set_option maxHeartbeats 800000 in
theorem rmap_8 {w0 : World} {P : ByteArray → Prop} {F : D → Bool} {j : Nat} {m b : Int} {t : ByteArray} {a : Option Addr} {cap : Nat} {kids : List D} (hv : Rep w0 (.agg #[.int .i64 j, .int .i64 m, .int .u64 b, .string t, .slice a kids.length cap]) (.mk j m b t kids)) (hd : FitsIn 0 1 (.mk j m b t kids)) (tp : ByteArray) (hP0 : ∃ s, P s) (w : World) (hb0 : Below w0.heap.size w0 w) : RMapSays P F 8 tp (.agg #[.int .i64 j, .int .i64 m, .int .u64 b, .string t, .slice a kids.length cap]) (.mk j m b t kids) w := by
  by_cases h1 : j = 1
  · obtain rfl := h1
    exact .of_gave hP0 (fun s => mapO_8) (rmap_8_int hv hd tp w hb0)
  · by_cases h4 : j = 4
    · obtain rfl := h4
      exact .of_gave hP0 (fun s => mapO_8) (rmap_8_text hv hd tp w hb0)
    · exact .of_gave hP0 (fun s => by rw [mapO_8]; unfold keyK; rw [if_neg (by omega), if_neg (by omega)]) (rmap_8_else hv hd tp h1 h4 w hb0)
theorem rmap_any {w0 : World} {v : Value} {d : D} (hv : Rep w0 v d) (hd : FitsIn 0 1 d) {P : ByteArray → Prop} (hP0 : ∃ s, P s) (hP : ∀ s, P s → s.size ≤ 65531) {F : D → Bool} (hF : ∀ x, F x = true ↔ FitsIn 0 1 x) (op : Int) (tp : ByteArray) (htp : tp.size ≤ maxLen) (w : World) (hb0 : Below w0.heap.size w0 w) (HK : ∀ W, Below w.heap.size w W → Calls Tryz.prog 55 #[.int .i64 d.num, .int .i64 10] W fun x w' => ∃ s, x = .returned (.string s) ∧ P s ∧ Below W.heap.size W w') : RMapSays P F op tp v d w := by
  obtain ⟨k, m, b, t, a, cap, g, o, c, kids, rfl, rfl, -⟩ := hv.inv
  obtain ⟨j, rfl⟩ : ∃ j : Nat, k = j := ⟨k.toNat, by have := hd.top.1; omega⟩
  rcases op_cases op with rfl | rfl | rfl | rfl | rfl | rfl | rfl | rfl | ho
  · exact rmap_1 hv hd tp hP0 w hb0
  · exact rmap_2 hv hd tp hP0 hF w hb0
  · exact rmap_3 hv hd tp hP0 w hb0
  · exact rmap_4 hv hd tp hP0 w hb0
  · exact rmap_5 hd tp hP0 hP w HK
  · exact rmap_6 hv hd tp hP0 w hb0
  · exact rmap_7 hv hd tp hP0 hF htp w hb0
  · exact rmap_8 hv hd tp hP0 w hb0
  · exact .of_err hP0 (fun s => mapO_no ho _) (rmap_none ho tp w)
end Go.Proofs.YtecdniimikfbhaaGreatDoor
