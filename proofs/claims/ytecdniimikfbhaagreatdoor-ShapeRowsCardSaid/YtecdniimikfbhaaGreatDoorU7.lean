/- Shape: what a map tells, in plain words; what it gives is a value. -/
import Derived.Test.YtecdniimikfbhaaGreatDoorU5
import Derived.Test.YtecdniimikfbhaaGreatDoorV4
import Derived.Test.YtecdniimikfbhaaGreatDoorU3
namespace Go.Proofs.YtecdniimikfbhaaGreatDoor
open Go Go.RowKit Go.ChangeShapes Go.WideShapes

/-- What a map tells. -/
inductive MO where
  | gave (d : D)
  | err (e pk pn : Int)
/-- A text's Datum. -/
def txtD (t : ByteArray) : D := .mk 4 0 0 t []
/-- A value, if it is one. -/
def madeO (F : D → Bool) (d : D) : MO := if F d = true then .gave d else .err 14 0 0
/-- What a map tells of a value: F tells what is a value, s is the number's text. -/
def mapO (F : D → Bool) (s : ByteArray) (tp : ByteArray) (op : Int) : D → MO
  | .mk k m b t kids =>
  if op = 1 then (if k = 1 then .gave (numD (wrap64 (m + m))) else if k = 3 then .gave (fltD (fsum b.toNat b.toNat)) else .err 110 2 (faceMiss k.toNat 5))
  else if op = 2 then madeO F (.mk 8 0 0 ⟨#[]⟩ [.mk k m b t kids])
  else if op = 3 then (if k = 11 then (match kids with | x :: _ => .gave x | [] => .err 12 0 0) else if k = 12 then .err 110 3 0 else .err 110 2 (faceMiss k.toNat 3))
  else if op = 4 then (match lenD (.mk k m b t kids) with | some n => .gave (numD n) | none => .err 12 0 0)
  else if op = 5 then (if k = 2 then .gave (txtD (⟨#[107, 101, 121, 32]⟩ ++ s)) else if k = 5 ∨ k = 10 then .gave (txtD t) else .err 12 0 0)
  else if op = 6 then (if k = 6 then .gave (.mk 6 (1 - m) 0 ⟨#[]⟩ []) else .err 110 2 k)
  else if op = 7 then madeO F (.mk 9 0 0 ⟨#[]⟩ [txtD tp, .mk k m b t kids])
  else if op = 8 then .gave (.mk (keyK k) m b t kids)
  else .err 12 0 0
theorem noText : (⟨#[]⟩ : ByteArray).toList = [] := by
  unfold ByteArray.toList
  unfold ByteArray.toList.loop
  rfl
theorem mapO_1 {F : D → Bool} {s tp t : ByteArray} {k m b : Int} {kids : List D} : mapO F s tp 1 (.mk k m b t kids) = if k = 1 then .gave (numD (wrap64 (m + m))) else if k = 3 then .gave (fltD (fsum b.toNat b.toNat)) else .err 110 2 (faceMiss k.toNat 5) := rfl
theorem mapO_2 {F : D → Bool} {s tp : ByteArray} : ∀ d, mapO F s tp 2 d = madeO F (.mk 8 0 0 ⟨#[]⟩ [d])
  | .mk _ _ _ _ _ => rfl
theorem mapO_3 {F : D → Bool} {s tp t : ByteArray} {k m b : Int} {kids : List D} : mapO F s tp 3 (.mk k m b t kids) = if k = 11 then (match kids with | x :: _ => .gave x | [] => .err 12 0 0) else if k = 12 then .err 110 3 0 else .err 110 2 (faceMiss k.toNat 3) := rfl
theorem mapO_4 {F : D → Bool} {s tp : ByteArray} : ∀ d, mapO F s tp 4 d = match lenD d with | some n => .gave (numD n) | none => .err 12 0 0
  | .mk _ _ _ _ _ => rfl
theorem mapO_5 {F : D → Bool} {s tp t : ByteArray} {k m b : Int} {kids : List D} : mapO F s tp 5 (.mk k m b t kids) = if k = 2 then .gave (txtD (⟨#[107, 101, 121, 32]⟩ ++ s)) else if k = 5 ∨ k = 10 then .gave (txtD t) else .err 12 0 0 := rfl
theorem mapO_6 {F : D → Bool} {s tp t : ByteArray} {k m b : Int} {kids : List D} : mapO F s tp 6 (.mk k m b t kids) = if k = 6 then .gave (.mk 6 (1 - m) 0 ⟨#[]⟩ []) else .err 110 2 k := rfl
theorem mapO_7 {F : D → Bool} {s tp : ByteArray} : ∀ d, mapO F s tp 7 d = madeO F (.mk 9 0 0 ⟨#[]⟩ [txtD tp, d])
  | .mk _ _ _ _ _ => rfl
theorem mapO_8 {F : D → Bool} {s tp t : ByteArray} {k m b : Int} {kids : List D} : mapO F s tp 8 (.mk k m b t kids) = .gave (.mk (keyK k) m b t kids) := rfl
theorem mapO_no {F : D → Bool} {s tp : ByteArray} {op : Int} (h : op ≤ 0 ∨ 9 ≤ op) : ∀ d, mapO F s tp op d = .err 12 0 0
  | .mk k m b t kids => by
    unfold mapO
    dsimp only
    rw [if_neg (by omega), if_neg (by omega), if_neg (by omega), if_neg (by omega), if_neg (by omega), if_neg (by omega), if_neg (by omega), if_neg (by omega)]
theorem op_cases (op : Int) : op = 1 ∨ op = 2 ∨ op = 3 ∨ op = 4 ∨ op = 5 ∨ op = 6 ∨ op = 7 ∨ op = 8 ∨ (op ≤ 0 ∨ 9 ≤ op) := by omega
theorem fits_leaf {k m b : Int} {t : ByteArray} (h : okTop k m b t 0) : FitsIn 0 1 (.mk k m b t []) := ⟨by simp [D.parts, D.partsL], by simp [D.tall, D.tallL], .mk _ _ _ _ _ h (fun x hx => by cases hx)⟩
theorem fits_num (n : Int) : FitsIn 0 1 (numD n) := fits_leaf ⟨by omega, by omega, by omega, by omega, by omega, by decide, by omega, by omega, Or.inr noText, by omega, by omega⟩
theorem fits_flt (n : Nat) : FitsIn 0 1 (fltD n) := fits_leaf ⟨by omega, by omega, by omega, by omega, by omega, by decide, by omega, by omega, Or.inr noText, by omega, by omega⟩
theorem fits_txt {t : ByteArray} (h : t.size ≤ 65535) : FitsIn 0 1 (txtD t) := fits_leaf ⟨by omega, by omega, by omega, by omega, by omega, h, by omega, by omega, by omega, by omega, by omega⟩
theorem fits_bool {n : Int} (h : n = 0 ∨ n = 1) : FitsIn 0 1 (.mk 6 n 0 ⟨#[]⟩ []) := fits_leaf ⟨by omega, by omega, by omega, by omega, by omega, by decide, by omega, by omega, Or.inr noText, by omega, by omega⟩
theorem FitsIn.top {k m b : Int} {t : ByteArray} {kids : List D} (h : FitsIn 0 1 (.mk k m b t kids)) : okTop k m b t kids.length := h.2.2.inv.1
theorem FitsIn.kid {k m b : Int} {t : ByteArray} {kids : List D} (h : FitsIn 0 1 (.mk k m b t kids)) {x : D} (hx : x ∈ kids) : FitsIn 0 1 x := by
  obtain ⟨i, hi, e⟩ := List.getElem_of_mem hx
  have hx' : kids[i]? = some x := by rw [← e]; exact List.getElem?_eq_getElem hi
  have h1 := h.1
  have h2 := h.2.1
  have h3 := D.parts_mem hx'
  have h4 := D.tall_mem hx'
  simp only [D.parts, D.tall] at h1 h2
  exact ⟨by omega, by omega, h.2.2.inv.2 x hx⟩
theorem fits_key {k m b : Int} {t : ByteArray} {kids : List D} (h : FitsIn 0 1 (.mk k m b t kids)) : FitsIn 0 1 (.mk (keyK k) m b t kids) := by
  have h1 := h.1
  have h2 := h.2.1
  simp only [D.parts, D.tall] at h1 h2
  refine ⟨by simp only [D.parts]; omega, by simp only [D.tall]; omega, .mk _ _ _ _ _ ?_ h.2.2.inv.2⟩
  have ht := h.top
  unfold keyK
  by_cases hk : k = 1
  · subst hk
    obtain ⟨g1, g2, g3, g4, g5, g6, g7, g8, g9, g10, g11⟩ := ht
    rw [if_pos rfl]
    exact ⟨by omega, by omega, by omega, by omega, by omega, g6, by omega, by omega, Or.inr (g9.resolve_left (by omega)), by omega, by omega⟩
  · rw [if_neg hk]
    by_cases hk4 : k = 4
    · subst hk4
      obtain ⟨g1, g2, g3, g4, g5, g6, g7, g8, g9, g10, g11⟩ := ht
      rw [if_pos rfl]
      exact ⟨by omega, by omega, by omega, by omega, by omega, g6, by omega, by omega, by omega, by omega, by omega⟩
    · rw [if_neg hk4]; exact ht
theorem bytes_append_size (a b : ByteArray) : (a ++ b).size = a.size + b.size := by simp
/-- What a map gives is a value. -/
theorem mapO_fits {F : D → Bool} (hF : ∀ x, F x = true ↔ FitsIn 0 1 x) {s tp : ByteArray} (hs : s.size ≤ 65531) {op : Int} {d x : D} (hd : FitsIn 0 1 d) (h : mapO F s tp op d = .gave x) : FitsIn 0 1 x := by
  obtain ⟨k, m, b, t, kids⟩ := d
  have hmade : ∀ y, madeO F y = .gave x → FitsIn 0 1 x := fun y hy => by
    unfold madeO at hy
    split at hy
    · rename_i hf; cases hy; exact (hF _).1 hf
    · cases hy
  rcases op_cases op with rfl | rfl | rfl | rfl | rfl | rfl | rfl | rfl | ho
  · rw [mapO_1] at h
    by_cases h1 : k = 1
    · rw [if_pos h1] at h; cases h; exact fits_num _
    · rw [if_neg h1] at h
      by_cases h3 : k = 3
      · rw [if_pos h3] at h; cases h; exact fits_flt _
      · rw [if_neg h3] at h; cases h
  · rw [mapO_2] at h; exact hmade _ h
  · rw [mapO_3] at h
    by_cases h1 : k = 11
    · rw [if_pos h1] at h
      cases kids with
      | nil => cases h
      | cons y l => cases h; exact hd.kid (by simp)
    · rw [if_neg h1] at h
      by_cases h3 : k = 12
      · rw [if_pos h3] at h; cases h
      · rw [if_neg h3] at h; cases h
  · rw [mapO_4] at h
    cases hl : lenD (.mk k m b t kids) with
    | none => rw [hl] at h; cases h
    | some n => rw [hl] at h; cases h; exact fits_num _
  · rw [mapO_5] at h
    by_cases h1 : k = 2
    · rw [if_pos h1] at h
      cases h
      refine fits_txt ?_
      rw [bytes_append_size]
      have : (ByteArray.mk #[107, 101, 121, 32]).size = 4 := rfl
      omega
    · rw [if_neg h1] at h
      by_cases h3 : k = 5 ∨ k = 10
      · rw [if_pos h3] at h; cases h; exact fits_txt hd.top.2.2.2.2.2.1
      · rw [if_neg h3] at h; cases h
  · rw [mapO_6] at h
    by_cases h1 : k = 6
    · rw [if_pos h1] at h
      cases h
      have := hd.top.2.2.2.2.2.2.2.2.2.1 h1
      exact fits_bool (by omega)
    · rw [if_neg h1] at h; cases h
  · rw [mapO_7] at h; exact hmade _ h
  · rw [mapO_8] at h; cases h; exact fits_key hd
  · rw [mapO_no ho] at h; cases h

theorem mapO_err {F : D → Bool} {s tp : ByteArray} {op : Int} {d : D} {e pk pn : Int} (h : mapO F s tp op d = .err e pk pn) : e ≠ 0 := by
  obtain ⟨k, m, b, t, kids⟩ := d
  have hmade : ∀ y, madeO F y = .err e pk pn → e ≠ 0 := fun y hy => by
    unfold madeO at hy
    split at hy <;> cases hy
    decide
  rcases op_cases op with rfl | rfl | rfl | rfl | rfl | rfl | rfl | rfl | ho
  · rw [mapO_1] at h
    by_cases h1 : k = 1
    · rw [if_pos h1] at h; cases h
    · rw [if_neg h1] at h
      by_cases h3 : k = 3
      · rw [if_pos h3] at h; cases h
      · rw [if_neg h3] at h; cases h; decide
  · rw [mapO_2] at h; exact hmade _ h
  · rw [mapO_3] at h
    by_cases h1 : k = 11
    · rw [if_pos h1] at h
      cases kids <;> cases h
      decide
    · rw [if_neg h1] at h
      by_cases h3 : k = 12
      · rw [if_pos h3] at h; cases h; decide
      · rw [if_neg h3] at h; cases h; decide
  · rw [mapO_4] at h
    cases hl : lenD (.mk k m b t kids) with
    | none => rw [hl] at h; cases h; decide
    | some n => rw [hl] at h; cases h
  · rw [mapO_5] at h
    by_cases h1 : k = 2
    · rw [if_pos h1] at h; cases h
    · rw [if_neg h1] at h
      by_cases h3 : k = 5 ∨ k = 10
      · rw [if_pos h3] at h; cases h
      · rw [if_neg h3] at h; cases h; decide
  · rw [mapO_6] at h
    by_cases h1 : k = 6
    · rw [if_pos h1] at h; cases h
    · rw [if_neg h1] at h; cases h; decide
  · rw [mapO_7] at h; exact hmade _ h
  · rw [mapO_8] at h; cases h
  · rw [mapO_no ho] at h; cases h; decide
end Go.Proofs.YtecdniimikfbhaaGreatDoor
