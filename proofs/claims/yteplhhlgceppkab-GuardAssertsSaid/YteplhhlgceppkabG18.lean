/- Contracts of want's Missing, Implements, Face and of the reference's Lacks. -/
import Derived.Test.YteplhhlgceppkabG17
namespace Go.Proofs.Yteplhhlgceppkab
open Go Go.RowKit Go.ChangeShapes Go.WideShapes

/-- The first method that a kind lacks; -1: none. -/
def missN (k : Nat) : List Nat → Int
  | [] => -1
  | m :: l => if hasM k m = true then missN k l else m
theorem missN_yes {k : Nat} {ms : List Nat} {i m : Nat} (hi : ms[i]? = some m) (h : hasM k m = true) : missN k (ms.drop i) = missN k (ms.drop (i + 1)) := by
  obtain ⟨hl, rfl⟩ := List.getElem?_eq_some_iff.1 hi
  rw [List.drop_eq_getElem_cons hl]
  simp [missN, h]
theorem missN_no {k : Nat} {ms : List Nat} {i m : Nat} (hi : ms[i]? = some m) (h : hasM k m = false) : missN k (ms.drop i) = m := by
  obtain ⟨hl, rfl⟩ := List.getElem?_eq_some_iff.1 hi
  rw [List.drop_eq_getElem_cons hl]
  simp [missN, h]

set_option maxHeartbeats 800000 in
theorem missing_any (k : Nat) (hk : k ≤ 13) (f : Int) (w : World) : Calls Try.prog 57 #[.int .i64 k, .int .i64 f] w fun x w' => x = .returned (.int .i64 (missN k (methsI f))) ∧ Below w.heap.size w w' := by
  have HM := Lib.hid (fun w => wmeths_any f w)
  have HL := Lib.hid (meths_lt f)
  have h3 := meths_len f
  generalize methsI f = ms at *
  have HS := Lib.hid (fun w => sample_v k hk w)
  have HT := Lib.hid (fun (v : Value) (hv : SampV k v) (m : Nat) (hm : m < 6) w => method_any k hk v hv m hm w)
  have k1 : decide ((k : Int) < 0) = false := by simp
  have k2 : decide ((14 : Int) ≤ k) = false := by simp; omega
  go_enter Try.func57, Try.ntmps57
  go_wp2_with (go_at_call 66; refine (HM.out _).mono ?_; rintro e w1 ⟨v, rfl, ⟨a, b, rfl, hab, hcl⟩, hb1⟩; have HA := Lib.hid hab; have HC := Lib.hid hcl; clear hab hcl)
  go_loopw [16] (fun i wr => ∃ j : Nat, j ≤ ms.length ∧ i = .int .i64 j ∧ Below w1.heap.size w1 wr ∧ Hid (missN k ms = missN k (ms.drop j))) (fun i _ => ms.length - (intOf i).toNat)
  case atStart => exact ⟨0, by omega, rfl, Below.refl _ _, rfl⟩
  case round =>
    obtain ⟨j, hj, rfl, hbr, HD⟩ := hrel
    by_cases hlt : j < ms.length
    · obtain ⟨rfl, hbl⟩ := HA.out (by omega)
      have hm : ms[j]? = some ms[j] := List.getElem?_eq_getElem hlt
      have hc := HC.out j _ hm
      have hm6 := HL.out j _ hm
      have hc' : wr.cell? ⟨b, j, none⟩ = some (.int .i64 ms[j]) := (hbr.cell (p := ⟨b, j, none⟩) hbl).trans hc
      have HM1 := Lib.hid hm
      clear hc hm
      generalize ms[j] = m at *
      cases hh : hasM k m
      · have HN := Lib.hid (missN_no HM1.out hh)
        have HT2 := Lib.hid (fun (v : Value) (hv : SampV k v) w => HT.out v hv m hm6 w)
        rw [hh] at HT2
        clear hh
        go_wp2_with (first | (go_at_call 55; refine (HS.out _).mono ?_; rintro e w2 ⟨v, rfl, hv, hb2⟩) | (go_at_call 67; refine (HT2.out _ hv _).mono ?_; rintro e w3 ⟨rfl, hb3⟩))
        refine bodyPost_ret (results_tmp rfl _ _ _) rfl ⟨?_, ?_⟩
        · rw [HD.out, HN.out]; rfl
        · exact hb1.trans ((hbr.trans ((hb2.trans (hb3.mono hb2.size)).mono hbr.size)).mono hb1.size)
      · have HN := Lib.hid (missN_yes HM1.out hh)
        have HT2 := Lib.hid (fun (v : Value) (hv : SampV k v) w => HT.out v hv m hm6 w)
        rw [hh] at HT2
        clear hh
        go_wp2_with (first | (go_at_call 55; refine (HS.out _).mono ?_; rintro e w2 ⟨v, rfl, hv, hb2⟩) | (go_at_call 67; refine (HT2.out _ hv _).mono ?_; rintro e w3 ⟨rfl, hb3⟩))
        go_roundw
        case rel => exact ⟨j + 1, by omega, by go_num, hbr.trans ((hb2.trans (hb3.mono hb2.size)).mono hbr.size), HD.out.trans HN.out⟩
        case measure => simp [intOf]; omega
    · obtain rfl : j = ms.length := by omega
      go_wp2_with fail
      refine bodyPost_ret (results_tmp rfl _ _ _) rfl ⟨?_, hb1.trans (hbr.mono hb1.size)⟩
      rw [HD.out, List.drop_length]
      rfl

set_option maxHeartbeats 800000 in
theorem lacks_any (k : Nat) (hk : k ≤ 13) (f : Int) (w : World) : Calls Try.prog 39 #[.int .i64 k, .int .i64 f] w fun x w' => x = .returned (.int .i64 (missN k (methsI f))) ∧ Below w.heap.size w w' := by
  have HM := Lib.hid (fun w => rmeths_any f w)
  have HL := Lib.hid (meths_lt f)
  have h3 := meths_len f
  generalize methsI f = ms at *
  have HT := Lib.hid (fun (m : Nat) (hm : m < 6) w => has_any k hk m hm w)
  have k1 : decide ((k : Int) < 0) = false := by simp
  have k2 : decide ((14 : Int) ≤ k) = false := by simp; omega
  go_enter Try.func39, Try.ntmps39
  go_wp2_with (go_at_call 51; refine (HM.out _).mono ?_; rintro e w1 ⟨v, rfl, ⟨a, b, rfl, hab, hcl⟩, hb1⟩; have HA := Lib.hid hab; have HC := Lib.hid hcl; clear hab hcl)
  go_loopw [6] (fun i wr => ∃ j : Nat, j ≤ ms.length ∧ i = .int .i64 j ∧ w1 = wr ∧ Hid (missN k ms = missN k (ms.drop j))) (fun i _ => ms.length - (intOf i).toNat)
  case atStart => exact ⟨0, by omega, rfl, rfl, rfl⟩
  case round =>
    obtain ⟨j, hj, rfl, rfl, HD⟩ := hrel
    by_cases hlt : j < ms.length
    · obtain ⟨rfl, hbl⟩ := HA.out (by omega)
      have hm : ms[j]? = some ms[j] := List.getElem?_eq_getElem hlt
      have hc := HC.out j _ hm
      have hm6 := HL.out j _ hm
      have HM1 := Lib.hid hm
      clear hm
      generalize ms[j] = m at *
      cases hh : hasM k m
      · have HN := Lib.hid (missN_no HM1.out hh)
        have HT2 := Lib.hid (fun w => HT.out m hm6 w)
        rw [hh] at HT2
        clear hh
        go_wp2_with (go_at_call 52; refine (HT2.out _).mono ?_; rintro e w3 ⟨rfl, rfl⟩)
        refine bodyPost_ret (results_tmp rfl _ _ _) rfl ⟨?_, hb1⟩
        rw [HD.out, HN.out]; rfl
      · have HN := Lib.hid (missN_yes HM1.out hh)
        have HT2 := Lib.hid (fun w => HT.out m hm6 w)
        rw [hh] at HT2
        clear hh
        go_wp2_with (go_at_call 52; refine (HT2.out _).mono ?_; rintro e w3 ⟨rfl, rfl⟩)
        go_roundw
        case rel => exact ⟨j + 1, by omega, by go_num, by trivial, HD.out.trans HN.out⟩
        case measure => simp [intOf]; omega
    · obtain rfl : j = ms.length := by omega
      go_wp2_with fail
      refine bodyPost_ret (results_tmp rfl _ _ _) rfl ⟨?_, hb1⟩
      rw [HD.out, List.drop_length]
      rfl

theorem implements_any (k : Nat) (hk : k ≤ 13) (f : Int) (w : World) : Calls Try.prog 65 #[.int .i64 k, .int .i64 f] w fun x w' => x = .returned (.bool (hasFi k f)) ∧ Below w.heap.size w w' := by
  have HS := Lib.hid (fun w => sample_v k hk w)
  have HT := Lib.hid (fun (v : Value) (hv : SampV k v) w => face_any k hk v hv f w)
  go_enter Try.func65, Try.ntmps65
  go_wp2_with (first | (go_at_call 55; refine (HS.out _).mono ?_; rintro e w2 ⟨v, rfl, hv, hb2⟩) | (go_at_call 69; refine (HT.out _ hv _).mono ?_; rintro e w3 ⟨rfl, rfl⟩))
  exact bodyPost_ret (results_tmp rfl _ _ _) rfl ⟨rfl, hb2⟩
theorem wface_any (k : Nat) (hk : k ≤ 13) (f : Int) (m b t sl : Value) (w : World) : Calls Try.prog 56 #[.agg #[.int .i64 k, m, b, t, sl], .int .i64 f] w fun x w' => x = .returned (.bool (hasFi k f)) ∧ Below w.heap.size w w' := by
  have HS := Lib.hid (fun w => implements_any k hk f w)
  go_enter Try.func56, Try.ntmps56
  go_wp2_with (go_at_call 65; refine (HS.out _).mono ?_; rintro e w2 ⟨rfl, hb2⟩)
  exact bodyPost_ret (results_tmp rfl _ _ _) rfl ⟨rfl, Below.trans (by go_grown) (hb2.mono (by simp))⟩
end Go.Proofs.Yteplhhlgceppkab
