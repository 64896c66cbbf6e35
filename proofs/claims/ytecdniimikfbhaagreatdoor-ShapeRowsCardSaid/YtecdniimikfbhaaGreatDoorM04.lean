/- Guard: contracts, joined texts (G17, G18, G19, G14, G20). -/
import Derived.Deep.RegionWith
import Derived.Deep.RegionHeld3
import Derived.Test.YtecdniimikfbhaaGreatDoorM03

/- Contracts of both Methods, of want's Missing, Implements, Face and MustFace, and of the reference's Lacks and Implements. -/
namespace Go.Proofs.YtecdniimikfbhaaGreatDoor
open Go Go.RowKit Go.ChangeShapes Go.WideShapes

/-- A row of methods in a world. -/
def MethsAt (w : World) (v : Value) (ms : List Nat) : Prop :=
  ∃ (a : Option Addr) (b : Nat), v = .slice a ms.length ms.length ∧ (0 < ms.length → a = some ⟨b, 0, none⟩ ∧ b < w.heap.size) ∧ ∀ (j m : Nat), ms[j]? = some m → w.cell? ⟨b, j, none⟩ = some (.int .i64 m)
theorem MethsAt.carry {w w1 : World} {v : Value} {ms : List Nat} (h : MethsAt w v ms) (hb : Below w.heap.size w w1) : MethsAt w1 v ms := by
  obtain ⟨a, b, h1, h2, h3⟩ := h
  refine ⟨a, b, h1, fun h0 => ⟨(h2 h0).1, Nat.lt_of_lt_of_le (h2 h0).2 hb.size⟩, fun j m hj => ?_⟩
  have := (List.getElem?_eq_some_iff.1 hj).1
  exact (hb.cell (p := ⟨b, j, none⟩) (h2 (by omega)).2).trans (h3 j m hj)
/-- The methods of what may be an interface's number. -/
def methsI (f : Int) : List Nat := if 0 ≤ f ∧ f < 10 then meths f.toNat else []
theorem methsI_nat (f : Nat) (h : f < 10) : methsI f = meths f := by
  unfold methsI
  rw [if_pos (by omega), Int.toNat_natCast]
theorem methsI_no (f : Int) (h : ¬ (0 ≤ f ∧ f < 10)) : methsI f = [] := if_neg h
theorem meths_lt (f : Int) : ∀ (j m : Nat), (methsI f)[j]? = some m → m < 6 := by
  intro j m h
  by_cases hf : 0 ≤ f ∧ f < 10
  · obtain ⟨n, rfl⟩ : ∃ n : Nat, f = n := ⟨f.toNat, by omega⟩
    have hn : n < 10 := by omega
    rw [methsI_nat n hn] at h
    have hm := List.mem_of_getElem? h
    clear h hf
    match n, hn with
    | 0, _ => simp [meths] at hm; omega
    | 1, _ => simp [meths] at hm; omega
    | 2, _ => simp [meths] at hm; omega
    | 3, _ => simp [meths] at hm; omega
    | 4, _ => simp [meths] at hm; omega
    | 5, _ => simp [meths] at hm; omega
    | 6, _ => simp [meths] at hm; omega
    | 7, _ => simp [meths] at hm; omega
    | 8, _ => simp [meths] at hm; omega
    | 9, _ => simp [meths] at hm; omega
    | n + 10, h => omega
  · rw [methsI_no f hf] at h
    simp at h
theorem meths_len (f : Int) : (methsI f).length ≤ 3 := by
  by_cases hf : 0 ≤ f ∧ f < 10
  · obtain ⟨n, rfl⟩ : ∃ n : Nat, f = n := ⟨f.toNat, by omega⟩
    have hn : n < 10 := by omega
    rw [methsI_nat n hn]
    clear hf
    match n, hn with
    | 0, _ => simp [meths]
    | 1, _ => simp [meths]
    | 2, _ => simp [meths]
    | 3, _ => simp [meths]
    | 4, _ => simp [meths]
    | 5, _ => simp [meths]
    | 6, _ => simp [meths]
    | 7, _ => simp [meths]
    | 8, _ => simp [meths]
    | 9, _ => simp [meths]
    | n + 10, h => omega
  · rw [methsI_no f hf]
    simp

theorem meths_cell (w : World) (ms : List Nat) (T : TypeId) {j m : Nat} (hj : ms[j]? = some m) : (w.alloc (.cells (ms.map fun m : Nat => Value.int .i64 m).toArray T (0, 0))).cell? ⟨w.heap.size, j, none⟩ = some (.int .i64 m) :=
  (Row.new w _ T).cell j (by simp [hj])
theorem wmeths_0 (w : World) : Calls Tryz.prog 112 #[.int .i64 0] w fun x w' => ∃ v, x = .returned v ∧ MethsAt w' v (meths 0) ∧ Below w.heap.size w w' := by
  go_enter Tryz.func112, Tryz.ntmps112
  go_wp2_with fail
  refine bodyPost_ret (results_tmp rfl _ _ _) rfl ⟨_, rfl, ⟨_, w.heap.size, rfl, fun _ => ⟨rfl, by simp⟩, fun j m hj => ?_⟩, by go_grown⟩
  exact meths_cell _ _ _ hj
theorem wmeths_1 (w : World) : Calls Tryz.prog 112 #[.int .i64 1] w fun x w' => ∃ v, x = .returned v ∧ MethsAt w' v (meths 1) ∧ Below w.heap.size w w' := by
  go_enter Tryz.func112, Tryz.ntmps112
  go_wp2_with fail
  refine bodyPost_ret (results_tmp rfl _ _ _) rfl ⟨_, rfl, ⟨_, w.heap.size, rfl, fun _ => ⟨rfl, by simp⟩, fun j m hj => ?_⟩, by go_grown⟩
  exact meths_cell _ _ _ hj
theorem wmeths_2 (w : World) : Calls Tryz.prog 112 #[.int .i64 2] w fun x w' => ∃ v, x = .returned v ∧ MethsAt w' v (meths 2) ∧ Below w.heap.size w w' := by
  go_enter Tryz.func112, Tryz.ntmps112
  go_wp2_with fail
  refine bodyPost_ret (results_tmp rfl _ _ _) rfl ⟨_, rfl, ⟨_, w.heap.size, rfl, fun _ => ⟨rfl, by simp⟩, fun j m hj => ?_⟩, by go_grown⟩
  exact meths_cell _ _ _ hj
theorem wmeths_3 (w : World) : Calls Tryz.prog 112 #[.int .i64 3] w fun x w' => ∃ v, x = .returned v ∧ MethsAt w' v (meths 3) ∧ Below w.heap.size w w' := by
  go_enter Tryz.func112, Tryz.ntmps112
  go_wp2_with fail
  refine bodyPost_ret (results_tmp rfl _ _ _) rfl ⟨_, rfl, ⟨_, w.heap.size, rfl, fun _ => ⟨rfl, by simp⟩, fun j m hj => ?_⟩, by go_grown⟩
  exact meths_cell _ _ _ hj
theorem wmeths_4 (w : World) : Calls Tryz.prog 112 #[.int .i64 4] w fun x w' => ∃ v, x = .returned v ∧ MethsAt w' v (meths 4) ∧ Below w.heap.size w w' := by
  go_enter Tryz.func112, Tryz.ntmps112
  go_wp2_with fail
  refine bodyPost_ret (results_tmp rfl _ _ _) rfl ⟨_, rfl, ⟨_, w.heap.size, rfl, fun _ => ⟨rfl, by simp⟩, fun j m hj => ?_⟩, by go_grown⟩
  exact meths_cell _ _ _ hj
theorem wmeths_5 (w : World) : Calls Tryz.prog 112 #[.int .i64 5] w fun x w' => ∃ v, x = .returned v ∧ MethsAt w' v (meths 5) ∧ Below w.heap.size w w' := by
  go_enter Tryz.func112, Tryz.ntmps112
  go_wp2_with fail
  refine bodyPost_ret (results_tmp rfl _ _ _) rfl ⟨_, rfl, ⟨_, w.heap.size, rfl, fun _ => ⟨rfl, by simp⟩, fun j m hj => ?_⟩, by go_grown⟩
  exact meths_cell _ _ _ hj
theorem wmeths_6 (w : World) : Calls Tryz.prog 112 #[.int .i64 6] w fun x w' => ∃ v, x = .returned v ∧ MethsAt w' v (meths 6) ∧ Below w.heap.size w w' := by
  go_enter Tryz.func112, Tryz.ntmps112
  go_wp2_with fail
  refine bodyPost_ret (results_tmp rfl _ _ _) rfl ⟨_, rfl, ⟨_, w.heap.size, rfl, fun _ => ⟨rfl, by simp⟩, fun j m hj => ?_⟩, by go_grown⟩
  exact meths_cell _ _ _ hj
theorem wmeths_7 (w : World) : Calls Tryz.prog 112 #[.int .i64 7] w fun x w' => ∃ v, x = .returned v ∧ MethsAt w' v (meths 7) ∧ Below w.heap.size w w' := by
  go_enter Tryz.func112, Tryz.ntmps112
  go_wp2_with fail
  refine bodyPost_ret (results_tmp rfl _ _ _) rfl ⟨_, rfl, ⟨_, w.heap.size, rfl, fun _ => ⟨rfl, by simp⟩, fun j m hj => ?_⟩, by go_grown⟩
  exact meths_cell _ _ _ hj
theorem wmeths_8 (w : World) : Calls Tryz.prog 112 #[.int .i64 8] w fun x w' => ∃ v, x = .returned v ∧ MethsAt w' v (meths 8) ∧ Below w.heap.size w w' := by
  go_enter Tryz.func112, Tryz.ntmps112
  go_wp2_with fail
  refine bodyPost_ret (results_tmp rfl _ _ _) rfl ⟨_, rfl, ⟨_, w.heap.size, rfl, fun _ => ⟨rfl, by simp⟩, fun j m hj => ?_⟩, by go_grown⟩
  exact meths_cell _ _ _ hj
theorem wmeths_9 (w : World) : Calls Tryz.prog 112 #[.int .i64 9] w fun x w' => ∃ v, x = .returned v ∧ MethsAt w' v (meths 9) ∧ Below w.heap.size w w' := by
  go_enter Tryz.func112, Tryz.ntmps112
  go_wp2_with fail
  refine bodyPost_ret (results_tmp rfl _ _ _) rfl ⟨_, rfl, ⟨_, w.heap.size, rfl, fun _ => ⟨rfl, by simp⟩, fun j m hj => ?_⟩, by go_grown⟩
  exact meths_cell _ _ _ hj
theorem wmeths_no (f : Int) (h : ¬ (0 ≤ f ∧ f < 10)) (w : World) : Calls Tryz.prog 112 #[.int .i64 f] w fun x w' => ∃ v, x = .returned v ∧ MethsAt w' v [] ∧ Below w.heap.size w w' := by
  have h0 : (f == 0) = false := by simp; omega
  have h1 : (f == 1) = false := by simp; omega
  have h2 : (f == 2) = false := by simp; omega
  have h3 : (f == 3) = false := by simp; omega
  have h4 : (f == 4) = false := by simp; omega
  have h5 : (f == 5) = false := by simp; omega
  have h6 : (f == 6) = false := by simp; omega
  have h7 : (f == 7) = false := by simp; omega
  have h8 : (f == 8) = false := by simp; omega
  have h9 : (f == 9) = false := by simp; omega
  clear h
  go_enter Tryz.func112, Tryz.ntmps112
  go_wp2_with fail
  refine bodyPost_ret (results_tmp rfl _ _ _) rfl ⟨_, rfl, ⟨none, 0, rfl, fun h => absurd h (by simp), fun j m hj => by simp at hj⟩, Below.refl _ _⟩
theorem wmeths_any (f : Int) (w : World) : Calls Tryz.prog 112 #[.int .i64 f] w fun x w' => ∃ v, x = .returned v ∧ MethsAt w' v (methsI f) ∧ Below w.heap.size w w' := by
  by_cases hf : 0 ≤ f ∧ f < 10
  · obtain ⟨n, rfl⟩ : ∃ n : Nat, f = n := ⟨f.toNat, by omega⟩
    have hn : n < 10 := by omega
    rw [methsI_nat n hn]
    clear hf
    match n, hn with
    | 0, _ => exact wmeths_0 w
    | 1, _ => exact wmeths_1 w
    | 2, _ => exact wmeths_2 w
    | 3, _ => exact wmeths_3 w
    | 4, _ => exact wmeths_4 w
    | 5, _ => exact wmeths_5 w
    | 6, _ => exact wmeths_6 w
    | 7, _ => exact wmeths_7 w
    | 8, _ => exact wmeths_8 w
    | 9, _ => exact wmeths_9 w
    | n + 10, h => omega
  · rw [methsI_no f hf]
    exact wmeths_no f hf w
theorem rmeths_0 (w : World) : Calls Tryz.prog 54 #[.int .i64 0] w fun x w' => ∃ v, x = .returned v ∧ MethsAt w' v (meths 0) ∧ Below w.heap.size w w' := by
  go_enter Tryz.func54, Tryz.ntmps54
  go_wp2_with fail
  refine bodyPost_ret (results_tmp rfl _ _ _) rfl ⟨_, rfl, ⟨_, w.heap.size, rfl, fun _ => ⟨rfl, by simp⟩, fun j m hj => ?_⟩, by go_grown⟩
  exact meths_cell _ _ _ hj
theorem rmeths_1 (w : World) : Calls Tryz.prog 54 #[.int .i64 1] w fun x w' => ∃ v, x = .returned v ∧ MethsAt w' v (meths 1) ∧ Below w.heap.size w w' := by
  go_enter Tryz.func54, Tryz.ntmps54
  go_wp2_with fail
  refine bodyPost_ret (results_tmp rfl _ _ _) rfl ⟨_, rfl, ⟨_, w.heap.size, rfl, fun _ => ⟨rfl, by simp⟩, fun j m hj => ?_⟩, by go_grown⟩
  exact meths_cell _ _ _ hj
theorem rmeths_2 (w : World) : Calls Tryz.prog 54 #[.int .i64 2] w fun x w' => ∃ v, x = .returned v ∧ MethsAt w' v (meths 2) ∧ Below w.heap.size w w' := by
  go_enter Tryz.func54, Tryz.ntmps54
  go_wp2_with fail
  refine bodyPost_ret (results_tmp rfl _ _ _) rfl ⟨_, rfl, ⟨_, w.heap.size, rfl, fun _ => ⟨rfl, by simp⟩, fun j m hj => ?_⟩, by go_grown⟩
  exact meths_cell _ _ _ hj
theorem rmeths_3 (w : World) : Calls Tryz.prog 54 #[.int .i64 3] w fun x w' => ∃ v, x = .returned v ∧ MethsAt w' v (meths 3) ∧ Below w.heap.size w w' := by
  go_enter Tryz.func54, Tryz.ntmps54
  go_wp2_with fail
  refine bodyPost_ret (results_tmp rfl _ _ _) rfl ⟨_, rfl, ⟨_, w.heap.size, rfl, fun _ => ⟨rfl, by simp⟩, fun j m hj => ?_⟩, by go_grown⟩
  exact meths_cell _ _ _ hj
theorem rmeths_4 (w : World) : Calls Tryz.prog 54 #[.int .i64 4] w fun x w' => ∃ v, x = .returned v ∧ MethsAt w' v (meths 4) ∧ Below w.heap.size w w' := by
  go_enter Tryz.func54, Tryz.ntmps54
  go_wp2_with fail
  refine bodyPost_ret (results_tmp rfl _ _ _) rfl ⟨_, rfl, ⟨_, w.heap.size, rfl, fun _ => ⟨rfl, by simp⟩, fun j m hj => ?_⟩, by go_grown⟩
  exact meths_cell _ _ _ hj
theorem rmeths_5 (w : World) : Calls Tryz.prog 54 #[.int .i64 5] w fun x w' => ∃ v, x = .returned v ∧ MethsAt w' v (meths 5) ∧ Below w.heap.size w w' := by
  go_enter Tryz.func54, Tryz.ntmps54
  go_wp2_with fail
  refine bodyPost_ret (results_tmp rfl _ _ _) rfl ⟨_, rfl, ⟨_, w.heap.size, rfl, fun _ => ⟨rfl, by simp⟩, fun j m hj => ?_⟩, by go_grown⟩
  exact meths_cell _ _ _ hj
theorem rmeths_6 (w : World) : Calls Tryz.prog 54 #[.int .i64 6] w fun x w' => ∃ v, x = .returned v ∧ MethsAt w' v (meths 6) ∧ Below w.heap.size w w' := by
  go_enter Tryz.func54, Tryz.ntmps54
  go_wp2_with fail
  refine bodyPost_ret (results_tmp rfl _ _ _) rfl ⟨_, rfl, ⟨_, w.heap.size, rfl, fun _ => ⟨rfl, by simp⟩, fun j m hj => ?_⟩, by go_grown⟩
  exact meths_cell _ _ _ hj
theorem rmeths_7 (w : World) : Calls Tryz.prog 54 #[.int .i64 7] w fun x w' => ∃ v, x = .returned v ∧ MethsAt w' v (meths 7) ∧ Below w.heap.size w w' := by
  go_enter Tryz.func54, Tryz.ntmps54
  go_wp2_with fail
  refine bodyPost_ret (results_tmp rfl _ _ _) rfl ⟨_, rfl, ⟨_, w.heap.size, rfl, fun _ => ⟨rfl, by simp⟩, fun j m hj => ?_⟩, by go_grown⟩
  exact meths_cell _ _ _ hj
theorem rmeths_8 (w : World) : Calls Tryz.prog 54 #[.int .i64 8] w fun x w' => ∃ v, x = .returned v ∧ MethsAt w' v (meths 8) ∧ Below w.heap.size w w' := by
  go_enter Tryz.func54, Tryz.ntmps54
  go_wp2_with fail
  refine bodyPost_ret (results_tmp rfl _ _ _) rfl ⟨_, rfl, ⟨_, w.heap.size, rfl, fun _ => ⟨rfl, by simp⟩, fun j m hj => ?_⟩, by go_grown⟩
  exact meths_cell _ _ _ hj
theorem rmeths_9 (w : World) : Calls Tryz.prog 54 #[.int .i64 9] w fun x w' => ∃ v, x = .returned v ∧ MethsAt w' v (meths 9) ∧ Below w.heap.size w w' := by
  go_enter Tryz.func54, Tryz.ntmps54
  go_wp2_with fail
  refine bodyPost_ret (results_tmp rfl _ _ _) rfl ⟨_, rfl, ⟨_, w.heap.size, rfl, fun _ => ⟨rfl, by simp⟩, fun j m hj => ?_⟩, by go_grown⟩
  exact meths_cell _ _ _ hj
theorem rmeths_no (f : Int) (h : ¬ (0 ≤ f ∧ f < 10)) (w : World) : Calls Tryz.prog 54 #[.int .i64 f] w fun x w' => ∃ v, x = .returned v ∧ MethsAt w' v [] ∧ Below w.heap.size w w' := by
  have h0 : (f == 0) = false := by simp; omega
  have h1 : (f == 1) = false := by simp; omega
  have h2 : (f == 2) = false := by simp; omega
  have h3 : (f == 3) = false := by simp; omega
  have h4 : (f == 4) = false := by simp; omega
  have h5 : (f == 5) = false := by simp; omega
  have h6 : (f == 6) = false := by simp; omega
  have h7 : (f == 7) = false := by simp; omega
  have h8 : (f == 8) = false := by simp; omega
  have h9 : (f == 9) = false := by simp; omega
  clear h
  go_enter Tryz.func54, Tryz.ntmps54
  go_wp2_with fail
  refine bodyPost_ret (results_tmp rfl _ _ _) rfl ⟨_, rfl, ⟨none, 0, rfl, fun h => absurd h (by simp), fun j m hj => by simp at hj⟩, Below.refl _ _⟩
theorem rmeths_any (f : Int) (w : World) : Calls Tryz.prog 54 #[.int .i64 f] w fun x w' => ∃ v, x = .returned v ∧ MethsAt w' v (methsI f) ∧ Below w.heap.size w w' := by
  by_cases hf : 0 ≤ f ∧ f < 10
  · obtain ⟨n, rfl⟩ : ∃ n : Nat, f = n := ⟨f.toNat, by omega⟩
    have hn : n < 10 := by omega
    rw [methsI_nat n hn]
    clear hf
    match n, hn with
    | 0, _ => exact rmeths_0 w
    | 1, _ => exact rmeths_1 w
    | 2, _ => exact rmeths_2 w
    | 3, _ => exact rmeths_3 w
    | 4, _ => exact rmeths_4 w
    | 5, _ => exact rmeths_5 w
    | 6, _ => exact rmeths_6 w
    | 7, _ => exact rmeths_7 w
    | 8, _ => exact rmeths_8 w
    | 9, _ => exact rmeths_9 w
    | n + 10, h => omega
  · rw [methsI_no f hf]
    exact rmeths_no f hf w
end Go.Proofs.YtecdniimikfbhaaGreatDoor

/- Contracts of want's Missing, Implements, Face and of the reference's Lacks. -/
namespace Go.Proofs.YtecdniimikfbhaaGreatDoor
open Go Go.RowKit Go.ChangeShapes Go.WideShapes

/-- The first method that a kind lacks; -1: none. -/
def missN (k : Nat) : List Nat → Int
  | [] => -1
  | m :: l => if hasM k m = true then missN k l else m
theorem missN_yes {k : Nat} {ms : List Nat} {i m : Nat} (hi : ms[i]? = some m) (h : hasM k m = true) : missN k (ms.drop i) = missN k (ms.drop (i + 1)) := by
  obtain ⟨hl, rfl⟩ := List.getElem?_eq_some_iff.1 hi
  rw [List.drop_eq_getElem_cons hl]
  simp [missN, h]
theorem missN_no {k : Nat} {ms : List Nat} {i m : Nat} (hi : ms[i]? = some m) (h : hasM k m = false) : missN k (ms.drop i) = m := by
  obtain ⟨hl, rfl⟩ := List.getElem?_eq_some_iff.1 hi
  rw [List.drop_eq_getElem_cons hl]
  simp [missN, h]

set_option maxHeartbeats 800000 in
theorem missing_any (k : Nat) (hk : k ≤ 13) (f : Int) (w : World) : Calls Tryz.prog 105 #[.int .i64 k, .int .i64 f] w fun x w' => x = .returned (.int .i64 (missN k (methsI f))) ∧ Below w.heap.size w w' := by
  have HM := Lib.hid (fun w => wmeths_any f w)
  have HL := Lib.hid (meths_lt f)
  have h3 := meths_len f
  generalize methsI f = ms at *
  have HS := Lib.hid (fun w => sample_v k hk w)
  have HT := Lib.hid (fun (v : Value) (hv : SampV k v) (m : Nat) (hm : m < 6) w => method_any k hk v hv m hm w)
  have k1 : decide ((k : Int) < 0) = false := by simp
  have k2 : decide ((14 : Int) ≤ k) = false := by simp; omega
  go_enter Tryz.func105, Tryz.ntmps105
  go_wp2_with (go_at_call 112; refine (HM.out _).mono ?_; rintro e w1 ⟨v, rfl, ⟨a, b, rfl, hab, hcl⟩, hb1⟩; have HA := Lib.hid hab; have HC := Lib.hid hcl; clear hab hcl)
  go_loopw [16] (fun i wr => ∃ j : Nat, j ≤ ms.length ∧ i = .int .i64 j ∧ Below w1.heap.size w1 wr ∧ Hid (missN k ms = missN k (ms.drop j))) (fun i _ => ms.length - (intOf i).toNat)
  case atStart => exact ⟨0, by omega, rfl, Below.refl _ _, rfl⟩
  case round =>
    obtain ⟨j, hj, rfl, hbr, HD⟩ := hrel
    by_cases hlt : j < ms.length
    · obtain ⟨rfl, hbl⟩ := HA.out (by omega)
      have hm : ms[j]? = some ms[j] := List.getElem?_eq_getElem hlt
      have hc := HC.out j _ hm
      have hm6 := HL.out j _ hm
      have hc' : wr.cell? ⟨b, j, none⟩ = some (.int .i64 ms[j]) := (hbr.cell (p := ⟨b, j, none⟩) hbl).trans hc
      have HM1 := Lib.hid hm
      clear hc hm
      generalize ms[j] = m at *
      cases hh : hasM k m
      · have HN := Lib.hid (missN_no HM1.out hh)
        have HT2 := Lib.hid (fun (v : Value) (hv : SampV k v) w => HT.out v hv m hm6 w)
        rw [hh] at HT2
        clear hh
        go_wp2_with (first | (go_at_call 71; refine (HS.out _).mono ?_; rintro e w2 ⟨v, rfl, hv, hb2⟩) | (go_at_call 113; refine (HT2.out _ hv _).mono ?_; rintro e w3 ⟨rfl, hb3⟩))
        refine bodyPost_ret (results_tmp rfl _ _ _) rfl ⟨?_, ?_⟩
        · rw [HD.out, HN.out]; rfl
        · exact hb1.trans ((hbr.trans ((hb2.trans (hb3.mono hb2.size)).mono hbr.size)).mono hb1.size)
      · have HN := Lib.hid (missN_yes HM1.out hh)
        have HT2 := Lib.hid (fun (v : Value) (hv : SampV k v) w => HT.out v hv m hm6 w)
        rw [hh] at HT2
        clear hh
        go_wp2_with (first | (go_at_call 71; refine (HS.out _).mono ?_; rintro e w2 ⟨v, rfl, hv, hb2⟩) | (go_at_call 113; refine (HT2.out _ hv _).mono ?_; rintro e w3 ⟨rfl, hb3⟩))
        go_roundw
        case rel => exact ⟨j + 1, by omega, by go_num, hbr.trans ((hb2.trans (hb3.mono hb2.size)).mono hbr.size), HD.out.trans HN.out⟩
        case measure => simp [intOf]; omega
    · obtain rfl : j = ms.length := by omega
      go_wp2_with fail
      refine bodyPost_ret (results_tmp rfl _ _ _) rfl ⟨?_, hb1.trans (hbr.mono hb1.size)⟩
      rw [HD.out, List.drop_length]
      rfl

set_option maxHeartbeats 800000 in
theorem lacks_any (k : Nat) (hk : k ≤ 13) (f : Int) (w : World) : Calls Tryz.prog 32 #[.int .i64 k, .int .i64 f] w fun x w' => x = .returned (.int .i64 (missN k (methsI f))) ∧ Below w.heap.size w w' := by
  have HM := Lib.hid (fun w => rmeths_any f w)
  have HL := Lib.hid (meths_lt f)
  have h3 := meths_len f
  generalize methsI f = ms at *
  have HT := Lib.hid (fun (m : Nat) (hm : m < 6) w => has_any k hk m hm w)
  have k1 : decide ((k : Int) < 0) = false := by simp
  have k2 : decide ((14 : Int) ≤ k) = false := by simp; omega
  go_enter Tryz.func32, Tryz.ntmps32
  go_wp2_with (go_at_call 54; refine (HM.out _).mono ?_; rintro e w1 ⟨v, rfl, ⟨a, b, rfl, hab, hcl⟩, hb1⟩; have HA := Lib.hid hab; have HC := Lib.hid hcl; clear hab hcl)
  go_loopw [6] (fun i wr => ∃ j : Nat, j ≤ ms.length ∧ i = .int .i64 j ∧ w1 = wr ∧ Hid (missN k ms = missN k (ms.drop j))) (fun i _ => ms.length - (intOf i).toNat)
  case atStart => exact ⟨0, by omega, rfl, rfl, rfl⟩
  case round =>
    obtain ⟨j, hj, rfl, rfl, HD⟩ := hrel
    by_cases hlt : j < ms.length
    · obtain ⟨rfl, hbl⟩ := HA.out (by omega)
      have hm : ms[j]? = some ms[j] := List.getElem?_eq_getElem hlt
      have hc := HC.out j _ hm
      have hm6 := HL.out j _ hm
      have HM1 := Lib.hid hm
      clear hm
      generalize ms[j] = m at *
      cases hh : hasM k m
      · have HN := Lib.hid (missN_no HM1.out hh)
        have HT2 := Lib.hid (fun w => HT.out m hm6 w)
        rw [hh] at HT2
        clear hh
        go_wp2_with (go_at_call 33; refine (HT2.out _).mono ?_; rintro e w3 ⟨rfl, rfl⟩)
        refine bodyPost_ret (results_tmp rfl _ _ _) rfl ⟨?_, hb1⟩
        rw [HD.out, HN.out]; rfl
      · have HN := Lib.hid (missN_yes HM1.out hh)
        have HT2 := Lib.hid (fun w => HT.out m hm6 w)
        rw [hh] at HT2
        clear hh
        go_wp2_with (go_at_call 33; refine (HT2.out _).mono ?_; rintro e w3 ⟨rfl, rfl⟩)
        go_roundw
        case rel => exact ⟨j + 1, by omega, by go_num, by trivial, HD.out.trans HN.out⟩
        case measure => simp [intOf]; omega
    · obtain rfl : j = ms.length := by omega
      go_wp2_with fail
      refine bodyPost_ret (results_tmp rfl _ _ _) rfl ⟨?_, hb1⟩
      rw [HD.out, List.drop_length]
      rfl

theorem implements_any (k : Nat) (hk : k ≤ 13) (f : Int) (w : World) : Calls Tryz.prog 60 #[.int .i64 k, .int .i64 f] w fun x w' => x = .returned (.bool (hasFi k f)) ∧ Below w.heap.size w w' := by
  have HS := Lib.hid (fun w => sample_v k hk w)
  have HT := Lib.hid (fun (v : Value) (hv : SampV k v) w => face_any k hk v hv f w)
  go_enter Tryz.func60, Tryz.ntmps60
  go_wp2_with (first | (go_at_call 71; refine (HS.out _).mono ?_; rintro e w2 ⟨v, rfl, hv, hb2⟩) | (go_at_call 70; refine (HT.out _ hv _).mono ?_; rintro e w3 ⟨rfl, rfl⟩))
  exact bodyPost_ret (results_tmp rfl _ _ _) rfl ⟨rfl, hb2⟩
theorem wface_any (k : Nat) (hk : k ≤ 13) (f : Int) (m b t sl : Value) (w : World) : Calls Tryz.prog 104 #[.agg #[.int .i64 k, m, b, t, sl], .int .i64 f] w fun x w' => x = .returned (.bool (hasFi k f)) ∧ Below w.heap.size w w' := by
  have HS := Lib.hid (fun w => implements_any k hk f w)
  go_enter Tryz.func104, Tryz.ntmps104
  go_wp2_with (go_at_call 60; refine (HS.out _).mono ?_; rintro e w2 ⟨rfl, hb2⟩)
  exact bodyPost_ret (results_tmp rfl _ _ _) rfl ⟨rfl, Below.trans (by go_grown) (hb2.mono (by simp))⟩
end Go.Proofs.YtecdniimikfbhaaGreatDoor

/- Contract of want's MustFace. -/
namespace Go.Proofs.YtecdniimikfbhaaGreatDoor
open Go Go.RowKit Go.ChangeShapes Go.WideShapes

/-- The method that an assertion to an interface tells. -/
def faceMiss (k : Nat) (f : Int) : Int := if k = 0 then -1 else missN k (methsI f)

theorem mf_worlds (w : World) (c0 c1 c2 c3 c4 : Value) : ∃ W1, W1 = (w.alloc (.cells #[c0, c1, c2, c3, c4] 25)).alloc (.cells #[.int .i64 0, .int .i64 0] 205) ∧ Below w.heap.size w W1 ∧ Hid (W1.heap.size = w.heap.size + 2) ∧ Row W1 w.heap.size #[c0, c1, c2, c3, c4] 25 ∧ Row W1 (w.heap.size + 1) #[.int .i64 0, .int .i64 0] 205 := by
  refine ⟨_, rfl, by go_grown, Lib.hid (by simp), (Row.new w _ _).old _, ?_⟩
  have h := Row.new (w.alloc (.cells #[c0, c1, c2, c3, c4] 25)) #[.int .i64 0, .int .i64 0] 205
  simpa using h

/-- The result: a struct of two in memory, and a number. -/
theorem mf_end {W : World} {g : Nat} {tmps : Array Value} {x y e : Value} (hx : Row W g #[x, y] 205) (h4 : tmps.getD 4 undef = .pointer (some ⟨g, 0, none⟩)) (h5 : tmps.getD 5 undef = e) :
    (results Tryz.f96 tmps).run Tryz.prog W = .ok (.tuple #[.agg #[x, y], e]) W := by
  have a0 : W.cell? ⟨g, 0, none⟩ = some x := hx.cell 0 rfl
  have a1 : W.cell? ⟨g, 1, none⟩ = some y := hx.cell 1 rfl
  have h4' : tmps[4]?.getD undef = .pointer (some ⟨g, 0, none⟩) := by simpa using h4
  have h5' : tmps[5]?.getD undef = e := by simpa using h5
  simp [results, Tryz.results96, asAddr, a0, a1, h4', h5', go_sem]

set_option maxHeartbeats 800000 in
theorem mustface_yes (k : Nat) (hk : k ≤ 13) (f : Int) (h : hasFi k f = true) (m b t sl : Value) (w : World) : Calls Tryz.prog 96 #[.agg #[.int .i64 k, m, b, t, sl], .int .i64 f] w fun x w' =>
    x = .returned (.tuple #[.agg #[.int .i64 0, .int .i64 0], .int .i64 0]) ∧ Below w.heap.size w w' := by
  have HF := Lib.hid (fun w => wface_any k hk f m b t sl w)
  rw [h] at HF
  clear h
  obtain ⟨W1, hW1, hb1, hz1, hx1, hx2⟩ := mf_worlds w (.int .i64 k) m b t sl
  have p0 : W1.cell? ⟨w.heap.size, 0, none⟩ = some (.int .i64 k) := hx1.cell 0 rfl
  have p1 : W1.cell? ⟨w.heap.size, 1, none⟩ = some m := hx1.cell 1 rfl
  have p2 : W1.cell? ⟨w.heap.size, 2, none⟩ = some b := hx1.cell 2 rfl
  have p3 : W1.cell? ⟨w.heap.size, 3, none⟩ = some t := hx1.cell 3 rfl
  have p4 : W1.cell? ⟨w.heap.size, 4, none⟩ = some sl := hx1.cell 4 rfl
  go_enter Tryz.func96, Tryz.ntmps96
  go_upto_region 1 with fail
  rw [← hW1]
  clear hW1
  go_wp2_with (go_at_call 104; refine (HF.out _).mono ?_; rintro e w2 ⟨rfl, hb2⟩; have hy := hx2.later hb2; have q0 : w2.cell? ⟨w.heap.size + 1, 0, none⟩ = some (.int .i64 0) := hy.cell 0 rfl; have q1 : w2.cell? ⟨w.heap.size + 1, 1, none⟩ = some (.int .i64 0) := hy.cell 1 rfl; have f0 := hy.thaw 0; have f1 := hy.thaw 1)
  exact bodyPost_ret (mf_end ((hy.set 0 _).set 1 _) rfl rfl) rfl ⟨rfl, ((hb1.trans (hb2.mono hb1.size)).setCell (p := ⟨w.heap.size + 1, 0, none⟩) (by simp) _).setCell (p := ⟨w.heap.size + 1, 1, none⟩) (by simp) _⟩

set_option maxHeartbeats 800000 in
theorem mustface_nil (f : Int) (m b t sl : Value) (w : World) : Calls Tryz.prog 96 #[.agg #[.int .i64 0, m, b, t, sl], .int .i64 f] w fun x w' =>
    x = .returned (.tuple #[.agg #[.int .i64 0, .int .i64 (-1)], .int .i64 20]) ∧ Below w.heap.size w w' := by
  have h : hasFi 0 f = false := by
    by_cases hf : 0 ≤ f ∧ f < 10
    · obtain ⟨n, rfl⟩ : ∃ n : Nat, f = n := ⟨f.toNat, by omega⟩
      have hn : n < 10 := by omega
      clear hf
      match n, hn with
      | 0, _ => rfl
      | 1, _ => rfl
      | 2, _ => rfl
      | 3, _ => rfl
      | 4, _ => rfl
      | 5, _ => rfl
      | 6, _ => rfl
      | 7, _ => rfl
      | 8, _ => rfl
      | 9, _ => rfl
      | n + 10, h => omega
    · unfold hasFi
      rw [decide_eq_false hf]
      rfl
  have HF := Lib.hid (fun w => wface_any 0 (by omega) f m b t sl w)
  rw [h] at HF
  clear h
  obtain ⟨W1, hW1, hb1, hz1, hx1, hx2⟩ := mf_worlds w (.int .i64 0) m b t sl
  have p0 : W1.cell? ⟨w.heap.size, 0, none⟩ = some (.int .i64 0) := hx1.cell 0 rfl
  have p1 : W1.cell? ⟨w.heap.size, 1, none⟩ = some m := hx1.cell 1 rfl
  have p2 : W1.cell? ⟨w.heap.size, 2, none⟩ = some b := hx1.cell 2 rfl
  have p3 : W1.cell? ⟨w.heap.size, 3, none⟩ = some t := hx1.cell 3 rfl
  have p4 : W1.cell? ⟨w.heap.size, 4, none⟩ = some sl := hx1.cell 4 rfl
  go_enter Tryz.func96, Tryz.ntmps96
  go_upto_region 1 with fail
  rw [← hW1]
  clear hW1
  go_wp2_with (go_at_call 104; refine (HF.out _).mono ?_; rintro e w2 ⟨rfl, hb2⟩; have hy := hx2.later hb2; have r0 : w2.cell? ⟨w.heap.size, 0, none⟩ = some (.int .i64 0) := (hx1.later hb2).cell 0 rfl; have q0 : w2.cell? ⟨w.heap.size + 1, 0, none⟩ = some (.int .i64 0) := hy.cell 0 rfl; have q1 : w2.cell? ⟨w.heap.size + 1, 1, none⟩ = some (.int .i64 0) := hy.cell 1 rfl; have f0 := hy.thaw 0; have f1 := hy.thaw 1)
  exact bodyPost_ret (mf_end ((hy.set 0 _).set 1 _) rfl rfl) rfl ⟨rfl, ((hb1.trans (hb2.mono hb1.size)).setCell (p := ⟨w.heap.size + 1, 0, none⟩) (by simp) _).setCell (p := ⟨w.heap.size + 1, 1, none⟩) (by simp) _⟩

set_option maxHeartbeats 800000 in
theorem mustface_some (k : Nat) (hk : k ≤ 13) (hk0 : (k : Int) ≠ 0) (f : Int) (h : hasFi k f = false) (m b t sl : Value) (w : World) : Calls Tryz.prog 96 #[.agg #[.int .i64 k, m, b, t, sl], .int .i64 f] w fun x w' =>
    x = .returned (.tuple #[.agg #[.int .i64 k, .int .i64 (missN k (methsI f))], .int .i64 20]) ∧ Below w.heap.size w w' := by
  have HF := Lib.hid (fun w => wface_any k hk f m b t sl w)
  have HM := Lib.hid (fun w => missing_any k hk f w)
  have hk1 : ((k : Int) == 0) = false := by simpa using hk0
  generalize missN k (methsI f) = mm at *
  rw [h] at HF
  clear h hk0
  obtain ⟨W1, hW1, hb1, hz1, hx1, hx2⟩ := mf_worlds w (.int .i64 k) m b t sl
  have p0 : W1.cell? ⟨w.heap.size, 0, none⟩ = some (.int .i64 k) := hx1.cell 0 rfl
  have p1 : W1.cell? ⟨w.heap.size, 1, none⟩ = some m := hx1.cell 1 rfl
  have p2 : W1.cell? ⟨w.heap.size, 2, none⟩ = some b := hx1.cell 2 rfl
  have p3 : W1.cell? ⟨w.heap.size, 3, none⟩ = some t := hx1.cell 3 rfl
  have p4 : W1.cell? ⟨w.heap.size, 4, none⟩ = some sl := hx1.cell 4 rfl
  go_enter Tryz.func96, Tryz.ntmps96
  go_upto_region 1 with fail
  rw [← hW1]
  clear hW1
  go_wp2_with (go_at_call 104; refine (HF.out _).mono ?_; rintro e w2 ⟨rfl, hb2⟩; have hy := hx2.later hb2; have hy1 := hx1.later hb2; have r0 : w2.cell? ⟨w.heap.size, 0, none⟩ = some (.int .i64 k) := hy1.cell 0 rfl)
  go_region_with (go_at_call 105; refine (HM.out _).mono ?_; rintro x w3 ⟨rfl, hb3⟩; have hb3' : Below w2.heap.size w2 w3 := Below.trans (by go_grown) hb3; have hz := hy.later hb3'; have s0 : w3.cell? ⟨w.heap.size, 0, none⟩ = some (.int .i64 k) := (hy1.later hb3').cell 0 rfl; have q0 : w3.cell? ⟨w.heap.size + 1, 0, none⟩ = some (.int .i64 0) := hz.cell 0 rfl; have q1 : w3.cell? ⟨w.heap.size + 1, 1, none⟩ = some (.int .i64 0) := hz.cell 1 rfl; have f0 := hz.thaw 0; have f1 := hz.thaw 1; dsimp only)
  all_goals
    go_wp2_with fail
    exact bodyPost_ret (mf_end ((hz.set 0 _).set 1 _) rfl rfl) rfl ⟨rfl, (((hb1.trans (hb2.mono hb1.size)).trans (hb3'.mono (Nat.le_trans hb1.size hb2.size))).setCell (p := ⟨w.heap.size + 1, 0, none⟩) (by simp) _).setCell (p := ⟨w.heap.size + 1, 1, none⟩) (by simp) _⟩

theorem mustface_no (k : Nat) (hk : k ≤ 13) (f : Int) (h : hasFi k f = false) (m b t sl : Value) (w : World) : Calls Tryz.prog 96 #[.agg #[.int .i64 k, m, b, t, sl], .int .i64 f] w fun x w' =>
    x = .returned (.tuple #[.agg #[.int .i64 k, .int .i64 (faceMiss k f)], .int .i64 20]) ∧ Below w.heap.size w w' := by
  by_cases h0 : k = 0
  · subst h0
    exact mustface_nil f m b t sl w
  · unfold faceMiss
    rw [if_neg h0]
    exact mustface_some k hk (by omega) f h m b t sl w
end Go.Proofs.YtecdniimikfbhaaGreatDoor

/- Contract of want's Must where the assertion holds. -/
namespace Go.Proofs.YtecdniimikfbhaaGreatDoor
open Go Go.RowKit Go.ChangeShapes Go.WideShapes

set_option maxHeartbeats 800000 in
theorem bigmust_yes (k : Nat) (hk : k ≤ 13) (n : Int) (h : isB k n = true) {w0 : World} {m b : Int} {t : ByteArray} {a : Option Addr} {l cap : Nat} {d : D} (hv : Rep w0 (.agg #[.int .i64 k, .int .i64 m, .int .u64 b, .string t, .slice a l cap]) d) (hs : Slim d) (w : World) (hb0 : Below w0.heap.size w0 w) :
    Calls Tryz.prog 95 #[.agg #[.int .i64 k, .int .i64 m, .int .u64 b, .string t, .slice a l cap], .int .i64 n] w fun x w' =>
      ∃ v', x = .returned (.tuple #[v', .agg #[.int .i64 0, .int .i64 0], .int .i64 0]) ∧ RepQ w' (fun b => w.heap.size ≤ b) v' d ∧ Below w.heap.size w w' := by
  have HS := Lib.hid (fun w => sample_v k hk w)
  have HM := Lib.hid (fun (u : Value) (hu : SampV k u) w h0 => must_yes k hk n u hu h hv hs w h0)
  have HB := Lib.hid hb0
  have hmf := hmf
  clear h hv hs hb0
  obtain ⟨W1, hW1⟩ : ∃ W1, W1 = (((w.alloc (.cells #[.int .i64 k, .int .i64 m, .int .u64 b, .string t, .slice a l cap] 25)).alloc (.cells #[.int .i64 0, .int .i64 0, .int .u64 0, .string ⟨#[]⟩, .slice none 0 0] 25)).alloc (.cells #[.int .i64 0, .int .i64 0] 205)).alloc (.cells #[.int .i64 0] 29) := ⟨_, rfl⟩
  have hb1 : Below w.heap.size w W1 := by rw [hW1]; go_grown
  have hz1 : Hid (W1.heap.size = w.heap.size + 4) := Lib.hid (by rw [hW1]; simp)
  have hx1 : Row W1 w.heap.size #[.int .i64 k, .int .i64 m, .int .u64 b, .string t, .slice a l cap] 25 := by rw [hW1]; exact (((Row.new _ _ _).old _).old _).old _
  have hx2 : Row W1 (w.heap.size + 1) #[.int .i64 0, .int .i64 0, .int .u64 0, .string ⟨#[]⟩, .slice none 0 0] 25 := by
    rw [hW1]; exact ((show Row _ (w.heap.size + 1) _ _ by have h := Row.new (w.alloc (.cells #[.int .i64 k, .int .i64 m, .int .u64 b, .string t, .slice a l cap] 25)); simp at h; exact h _ _).old _).old _
  have hx3 : Row W1 (w.heap.size + 2) #[.int .i64 0, .int .i64 0] 205 := by
    rw [hW1]; exact (show Row _ (w.heap.size + 2) _ _ by have h := Row.new ((w.alloc (.cells #[.int .i64 k, .int .i64 m, .int .u64 b, .string t, .slice a l cap] 25)).alloc (.cells #[.int .i64 0, .int .i64 0, .int .u64 0, .string ⟨#[]⟩, .slice none 0 0] 25)); simp at h; exact h _ _).old _
  have hx4 : Row W1 (w.heap.size + 3) #[.int .i64 0] 29 := by
    rw [hW1]; have h := Row.new (((w.alloc (.cells #[.int .i64 k, .int .i64 m, .int .u64 b, .string t, .slice a l cap] 25)).alloc (.cells #[.int .i64 0, .int .i64 0, .int .u64 0, .string ⟨#[]⟩, .slice none 0 0] 25)).alloc (.cells #[.int .i64 0, .int .i64 0] 205)); simp at h; exact h _ _
  go_enter_defers Tryz.func95, Tryz.ntmps95
  go_upto_region 2 with fail
  rw [← hW1]
  clear hW1
  have p0 : W1.cell? ⟨w.heap.size, 0, none⟩ = some (.int .i64 k) := hx1.cell 0 rfl
  have p1 : W1.cell? ⟨w.heap.size, 1, none⟩ = some (.int .i64 m) := hx1.cell 1 rfl
  have p2 : W1.cell? ⟨w.heap.size, 2, none⟩ = some (.int .u64 b) := hx1.cell 2 rfl
  have p3 : W1.cell? ⟨w.heap.size, 3, none⟩ = some (.string t) := hx1.cell 3 rfl
  have p4 : W1.cell? ⟨w.heap.size, 4, none⟩ = some (.slice a l cap) := hx1.cell 4 rfl
  refine wp_region_noPanic ?_
  go_region_with (first
    | (go_at_call 71; refine (HS.out _).mono ?_; rintro x w2 ⟨v, rfl, hu, hb2⟩; have hb2' : Below W1.heap.size W1 w2 := Below.trans (by go_grown) hb2; have hy1 := hx1.later hb2'; have q0 : w2.cell? ⟨w.heap.size, 0, none⟩ = some (.int .i64 k) := hy1.cell 0 rfl; have q1 : w2.cell? ⟨w.heap.size, 1, none⟩ = some (.int .i64 m) := hy1.cell 1 rfl; have q2 : w2.cell? ⟨w.heap.size, 2, none⟩ = some (.int .u64 b) := hy1.cell 2 rfl; have q3 : w2.cell? ⟨w.heap.size, 3, none⟩ = some (.string t) := hy1.cell 3 rfl; have q4 : w2.cell? ⟨w.heap.size, 4, none⟩ = some (.slice a l cap) := hy1.cell 4 rfl; clear hy1)
    | (go_at_call 103; refine (HM.out _ hu _ (HB.out.trans ((hb1.trans (Below.mono (Below.trans hb2' (by go_grown)) hb1.size)).mono HB.out.size))).mono ?_; rintro x w3 ⟨v', rfl, hv', hb3⟩; obtain ⟨k5, m5, b5, t5, a5, n5, cap5, rfl⟩ := hv'.form; have hb3' : Below W1.heap.size W1 w3 := Below.trans (Below.trans hb2' (by go_grown)) (hb3.mono (by have := hb2'.size; simp; omega)); have hy2 := hx2.later hb3'; have hy3 := hx3.later hb3'; have hy4 := hx4.later hb3'; have y0 : w3.cell? ⟨w.heap.size + 1, 0, none⟩ = some (.int .i64 0) := hy2.cell 0 rfl; have fy0 := hy2.thaw 0; have y1 : w3.cell? ⟨w.heap.size + 1, 1, none⟩ = some (.int .i64 0) := hy2.cell 1 rfl; have fy1 := hy2.thaw 1; have y2 : w3.cell? ⟨w.heap.size + 1, 2, none⟩ = some (.int .u64 0) := hy2.cell 2 rfl; have fy2 := hy2.thaw 2; have y3 : w3.cell? ⟨w.heap.size + 1, 3, none⟩ = some (.string ⟨#[]⟩) := hy2.cell 3 rfl; have fy3 := hy2.thaw 3; have y4 : w3.cell? ⟨w.heap.size + 1, 4, none⟩ = some (.slice none 0 0) := hy2.cell 4 rfl; have fy4 := hy2.thaw 4; have z0 : w3.cell? ⟨w.heap.size + 2, 0, none⟩ = some (.int .i64 0) := hy3.cell 0 rfl; have fz0 := hy3.thaw 0; have z1 : w3.cell? ⟨w.heap.size + 2, 1, none⟩ = some (.int .i64 0) := hy3.cell 1 rfl; have fz1 := hy3.thaw 1; have x0 : w3.cell? ⟨w.heap.size + 3, 0, none⟩ = some (.int .i64 0) := hy4.cell 0 rfl; have fx0 := hy4.thaw 0; dsimp only))
  all_goals
    refine NoPanic.normal ?_
    have hzo := hz1.out
    have hzl := hb2'.size
    have hbz : Below w.heap.size w w3 := hb1.trans (hb3'.mono (by omega))
    go_wp2_with fail
    refine leaves_cons (f := 102) (args := #[.pointer (some ⟨w.heap.size + 1 + 1, 0, none⟩), .pointer (some ⟨w.heap.size + 1 + 1 + 1, 0, none⟩)]) (by simp) (by simp [go_sem]) ?_
    refine (must1_idle _ _ _).mono ?_
    rintro e u' W' ⟨rfl, rfl, rfl⟩
    have e1 : w.heap.size + 1 ≠ w.heap.size + 1 + 1 := by omega
    have e2 : w.heap.size + 1 ≠ w.heap.size + 1 + 1 + 1 := by omega
    have e3 : w.heap.size + 1 + 1 ≠ w.heap.size + 1 + 1 + 1 := by omega
    have e4 : w.heap.size + 1 + 1 ≠ w.heap.size + 1 := by omega
    have g1 := ((((((((hy2.set 0 (.int .i64 k5)).set 1 (.int .i64 m5)).set 2 (.int .u64 b5)).set 3 (.string t5)).set 4 (.slice a5 n5 cap5)).other 0 (.int .i64 0) e1).other 1 (.int .i64 0) e1).other 0 (.int .i64 0) e2)
    have g2 := ((((((((hy3.other 0 (.int .i64 k5) e4).other 1 (.int .i64 m5) e4).other 2 (.int .u64 b5) e4).other 3 (.string t5) e4).other 4 (.slice a5 n5 cap5) e4).set 0 (.int .i64 0)).set 1 (.int .i64 0)).other 0 (.int .i64 0) e3)
    have g3 := ((((((((hy4.other 0 (.int .i64 k5) e2.symm).other 1 (.int .i64 m5) e2.symm).other 2 (.int .u64 b5) e2.symm).other 3 (.string t5) e2.symm).other 4 (.slice a5 n5 cap5) e2.symm).other 0 (.int .i64 0) e3.symm).other 1 (.int .i64 0) e3.symm).set 0 (.int .i64 0))
    have hQ := hv'.carry (w1 := (((((((w3.setCell ⟨w.heap.size + 1, 0, none⟩ (.int .i64 k5)).setCell ⟨w.heap.size + 1, 1, none⟩ (.int .i64 m5)).setCell ⟨w.heap.size + 1, 2, none⟩ (.int .u64 b5)).setCell ⟨w.heap.size + 1, 3, none⟩ (.string t5)).setCell ⟨w.heap.size + 1, 4, none⟩ (.slice a5 n5 cap5)).setCell ⟨w.heap.size + 1 + 1, 0, none⟩ (.int .i64 0)).setCell ⟨w.heap.size + 1 + 1, 1, none⟩ (.int .i64 0)).setCell ⟨w.heap.size + 1 + 1 + 1, 0, none⟩ (.int .i64 0)) (Q1 := fun b => w.heap.size ≤ b) (fun i hi _ => by
      have hi' : w2.heap.size ≤ i := hi
      have n1 : i ≠ w.heap.size + 1 := by omega
      have n2 : i ≠ w.heap.size + 1 + 1 := by omega
      have n3 : i ≠ w.heap.size + 1 + 1 + 1 := by omega
      exact ⟨by rw [heap_setCell_other _ _ _ _ n3, heap_setCell_other _ _ _ _ n2, heap_setCell_other _ _ _ _ n2, heap_setCell_other _ _ _ _ n1, heap_setCell_other _ _ _ _ n1, heap_setCell_other _ _ _ _ n1, heap_setCell_other _ _ _ _ n1, heap_setCell_other _ _ _ _ n1], by omega⟩) (by simp)
    have hbf := (((((((hbz.setCell (p := ⟨w.heap.size + 1, 0, none⟩) (by simp) (.int .i64 k5)).setCell (p := ⟨w.heap.size + 1, 1, none⟩) (by simp) (.int .i64 m5)).setCell (p := ⟨w.heap.size + 1, 2, none⟩) (by simp) (.int .u64 b5)).setCell (p := ⟨w.heap.size + 1, 3, none⟩) (by simp) (.string t5)).setCell (p := ⟨w.heap.size + 1, 4, none⟩) (by simp) (.slice a5 n5 cap5)).setCell (p := ⟨w.heap.size + 1 + 1, 0, none⟩) (by simp; omega) (.int .i64 0)).setCell (p := ⟨w.heap.size + 1 + 1, 1, none⟩) (by simp; omega) (.int .i64 0)).setCell (p := ⟨w.heap.size + 1 + 1 + 1, 0, none⟩) (by simp; omega) (.int .i64 0)
    generalize (((((((w3.setCell ⟨w.heap.size + 1, 0, none⟩ (.int .i64 k5)).setCell ⟨w.heap.size + 1, 1, none⟩ (.int .i64 m5)).setCell ⟨w.heap.size + 1, 2, none⟩ (.int .u64 b5)).setCell ⟨w.heap.size + 1, 3, none⟩ (.string t5)).setCell ⟨w.heap.size + 1, 4, none⟩ (.slice a5 n5 cap5)).setCell ⟨w.heap.size + 1 + 1, 0, none⟩ (.int .i64 0)).setCell ⟨w.heap.size + 1 + 1, 1, none⟩ (.int .i64 0)).setCell ⟨w.heap.size + 1 + 1 + 1, 0, none⟩ (.int .i64 0) = Wf at *
    refine ⟨_, ?_, _, rfl, hQ, hbf⟩
    have a0 : Wf.cell? ⟨w.heap.size + 1, 0, none⟩ = some (.int .i64 k5) := g1.cell 0 rfl
    have a1 : Wf.cell? ⟨w.heap.size + 1, 1, none⟩ = some (.int .i64 m5) := g1.cell 1 rfl
    have a2 : Wf.cell? ⟨w.heap.size + 1, 2, none⟩ = some (.int .u64 b5) := g1.cell 2 rfl
    have a3 : Wf.cell? ⟨w.heap.size + 1, 3, none⟩ = some (.string t5) := g1.cell 3 rfl
    have a4 : Wf.cell? ⟨w.heap.size + 1, 4, none⟩ = some (.slice a5 n5 cap5) := g1.cell 4 rfl
    have b0 : Wf.cell? ⟨w.heap.size + 1 + 1, 0, none⟩ = some (.int .i64 0) := g2.cell 0 rfl
    have b1 : Wf.cell? ⟨w.heap.size + 1 + 1, 1, none⟩ = some (.int .i64 0) := g2.cell 1 rfl
    have c4 : Wf.cell? ⟨w.heap.size + 1 + 1 + 1, 0, none⟩ = some (.int .i64 0) := g3.cell 0 rfl
    clear g1 g2 g3 hQ hbf
    simp [results, Tryz.results95, asAddr, a0, a1, a2, a3, a4, b0, b1, c4, go_sem]
end Go.Proofs.YtecdniimikfbhaaGreatDoor

/- Contracts of guard's kind, face and gave. -/
namespace Go.Proofs.YtecdniimikfbhaaGreatDoor
open Go Go.RowKit Go.ChangeShapes Go.WideShapes

/-- What was thrown. -/
def thrown (T : TypeId) (v : Value) : List PanicEntry := [{ v := .iface T v, recovered := false }]
theorem Box5.row {w : World} {b : Nat} {c0 c1 c2 c3 c4 : Value} (h : Box5 w b c0 c1 c2 c3 c4) : Row w b #[c0, c1, c2, c3, c4] 25 := h
theorem Row.box {w : World} {b : Nat} {c0 c1 c2 c3 c4 : Value} (h : Row w b #[c0, c1, c2, c3, c4] 25) : Box5 w b c0 c1 c2 c3 c4 := h

theorem old1_cell {w : World} {b j : Nat} {v : Value} (hb : b < w.heap.size) (h : w.cell? ⟨b, j, none⟩ = some v) : ∀ o, (w.alloc o).cell? ⟨b, j, none⟩ = some v := fun o => old_cell o hb h
theorem old1_thaw {w : World} {b j : Nat} (hb : b < w.heap.size) (h : w.frozen? ⟨b, j, none⟩ = false) : ∀ o, (w.alloc o).frozen? ⟨b, j, none⟩ = false := fun o => old_thaw o hb h
theorem RepQ.old {w : World} {Q : Nat → Prop} {v : Value} {d : D} (h : RepQ w Q v d) (o : Obj) : RepQ (w.alloc o) Q v d := h.carry (fun _ hq hl => ⟨heap_alloc_old w o hl, hq⟩) (by simp)
theorem RepQ.later {w w1 : World} {Q : Nat → Prop} {v : Value} {d : D} (h : RepQ w Q v d) (hb : Below w.heap.size w w1) : RepQ w1 Q v d := h.carry (fun b hq hl => ⟨hb.block b hl, hq⟩) hb.size
theorem RepQ.wide {w : World} {N M : Nat} {v : Value} {d : D} (h : RepQ w (fun b => N ≤ b) v d) (hM : M ≤ N) : RepQ w (fun b => M ≤ b) v d := h.carry (fun _ hq _ => ⟨rfl, Nat.le_trans hM hq⟩) (Nat.le_refl _)
theorem old2_cell {w : World} {b j : Nat} {v : Value} (hb : b < w.heap.size) (h : w.cell? ⟨b, j, none⟩ = some v) : ∀ o1 o2, ((w.alloc o1).alloc o2).cell? ⟨b, j, none⟩ = some v := fun o1 o2 =>
  old_cell o2 (by simp; omega) (old_cell o1 hb h)
theorem old2_thaw {w : World} {b j : Nat} (hb : b < w.heap.size) (h : w.frozen? ⟨b, j, none⟩ = false) : ∀ o1 o2, ((w.alloc o1).alloc o2).frozen? ⟨b, j, none⟩ = false := fun o1 o2 =>
  old_thaw o2 (by simp; omega) (old_thaw o1 hb h)

set_option maxHeartbeats 800000 in
theorem kind_no (k : Nat) (hk : k ≤ 13) (n : Int) (h : isB k n = false) (m b t sl : Value) (w : World) : Calls Tryz.prog 81 #[.agg #[.int .i64 k, m, b, t, sl], .int .i64 n] w fun x w' =>
    x = .panicked (thrown 181 (.agg #[.int .i64 k])) ∧ Below w.heap.size w w' := by
  have HM := Lib.hid (fun w => bigmust_no k hk n h m b t sl w)
  clear h
  obtain ⟨W1, hW1, hb1, hz1, hx1, hx2⟩ := boxes2 w (.int .i64 k) m b t sl (.int .i64 0) (.int .i64 0) (.int .u64 0) (.string ⟨#[]⟩) (.slice none 0 0)
  obtain ⟨p0, p1, p2, p3, p4⟩ := hx1.cells
  have hz := Lib.hid hz1
  clear hz1
  go_enter Tryz.func81, Tryz.ntmps81
  go_upto_region 1 with fail
  rw [← hW1]
  clear hW1
  go_wp2_with (go_at_call 95; refine (HM.out _).mono ?_; rintro e w2 ⟨rfl, hb2⟩; have hlt : w.heap.size + 1 < w2.heap.size := (by have := hz.out; have := hb2.size; omega); have q0 := old2_cell (show w.heap.size < w2.heap.size by omega) (hx1.keep (hb2.block _ (by have := hz.out; omega))).cells.1)
  exact ⟨rfl, rfl, (hb1.trans (hb2.mono hb1.size)).trans (by go_grown)⟩

set_option maxHeartbeats 800000 in
theorem kind_yes (k : Nat) (hk : k ≤ 13) (n : Int) (h : isB k n = true) {w0 : World} {m b : Int} {t : ByteArray} {a : Option Addr} {l cap : Nat} {d : D} (hv : Rep w0 (.agg #[.int .i64 k, .int .i64 m, .int .u64 b, .string t, .slice a l cap]) d) (hs : Slim d) (w : World) (hb0 : Below w0.heap.size w0 w) :
    Calls Tryz.prog 81 #[.agg #[.int .i64 k, .int .i64 m, .int .u64 b, .string t, .slice a l cap], .int .i64 n] w fun x w' => ∃ v', x = .returned v' ∧ RepQ w' (fun b => w.heap.size ≤ b) v' d ∧ Below w.heap.size w w' := by
  have HM := Lib.hid (fun w h0 => bigmust_yes k hk n h hv hs w h0)
  have HB := Lib.hid hb0
  clear h hv hs hb0
  obtain ⟨W1, hW1, hb1, hz1, hx1, hx2⟩ := boxes2 w (.int .i64 k) (.int .i64 m) (.int .u64 b) (.string t) (.slice a l cap) (.int .i64 0) (.int .i64 0) (.int .u64 0) (.string ⟨#[]⟩) (.slice none 0 0)
  obtain ⟨p0, p1, p2, p3, p4⟩ := hx1.cells
  have hz := Lib.hid hz1
  clear hz1
  go_enter Tryz.func81, Tryz.ntmps81
  go_upto_region 1 with fail
  rw [← hW1]
  clear hW1
  go_wp2_with (go_at_call 95; refine (HM.out _ (HB.out.trans (hb1.mono HB.out.size))).mono ?_; rintro e w2 ⟨v', rfl, hv', hb2⟩; obtain ⟨k5, m5, b5, t5, a5, n5, cap5, rfl⟩ := hv'.form; have hlt : w.heap.size + 1 < w2.heap.size := (by have := hz.out; have := hb2.size; omega); have hy := hx2.keep (hb2.block _ (by have := hz.out; omega)); have q0 := old2_cell hlt hy.cells.1; have q1 := old2_cell hlt hy.cells.2.1; have q2 := old2_cell hlt hy.cells.2.2.1; have q3 := old2_cell hlt hy.cells.2.2.2.1; have q4 := old2_cell hlt hy.cells.2.2.2.2; have f0 := old2_thaw hlt (hy.thaw 0); have f1 := old2_thaw hlt (hy.thaw 1); have f2 := old2_thaw hlt (hy.thaw 2); have f3 := old2_thaw hlt (hy.thaw 3); have f4 := old2_thaw hlt (hy.thaw 4); dsimp only)
  exact bodyPost_ret (results_cell_row rfl _ _ (w.heap.size + 1) 25 _ (0, 0) _ rfl (((hy.row.old _).old _).box.set5 _ _ _ _ _) Tryz.underlying25 rfl (by kernel_rfl)) rfl
    ⟨_, rfl, ((hv'.old _).old _).set5 (by have := hb1.size; have := hz.out; omega) (by have := hb1.size; omega), set5_below (((hb1.trans (hb2.mono hb1.size)).alloc (by omega) _).alloc (by simp; omega) _) (by omega)⟩

set_option maxHeartbeats 800000 in
theorem gface_no (k : Nat) (hk : k ≤ 13) (f : Int) (h : hasFi k f = false) (m b t sl : Value) (w : World) : Calls Tryz.prog 82 #[.agg #[.int .i64 k, m, b, t, sl], .int .i64 f] w fun x w' =>
    x = .panicked (thrown 181 (.agg #[.int .i64 (faceMiss k f)])) ∧ Below w.heap.size w w' := by
  have HM := Lib.hid (fun w => mustface_no k hk f h m b t sl w)
  clear h
  generalize faceMiss k f = mm at *
  obtain ⟨W1, hW1, hb1, hz1, hx1, hx2⟩ := boxes2 w (.int .i64 k) m b t sl (.int .i64 0) (.int .i64 0) (.int .u64 0) (.string ⟨#[]⟩) (.slice none 0 0)
  obtain ⟨p0, p1, p2, p3, p4⟩ := hx1.cells
  have hz := Lib.hid hz1
  clear hz1
  go_enter Tryz.func82, Tryz.ntmps82
  go_upto_region 1 with fail
  rw [← hW1]
  clear hW1
  go_wp2_with (go_at_call 96; refine (HM.out _).mono ?_; rintro e w2 ⟨rfl, hb2⟩)
  exact ⟨rfl, rfl, (hb1.trans (hb2.mono hb1.size)).alloc (Nat.le_trans hb1.size hb2.size) _⟩

set_option maxHeartbeats 800000 in
theorem gface_yes (k : Nat) (hk : k ≤ 13) (f : Int) (h : hasFi k f = true) (m b : Int) (t : ByteArray) (a : Option Addr) (l cap : Nat) (w : World) : Calls Tryz.prog 82 #[.agg #[.int .i64 k, .int .i64 m, .int .u64 b, .string t, .slice a l cap], .int .i64 f] w fun x w' =>
    x = .returned (.agg #[.int .i64 k, .int .i64 m, .int .u64 b, .string t, .slice a l cap]) ∧ Below w.heap.size w w' := by
  have HM := Lib.hid (fun w => mustface_yes k hk f h (.int .i64 m) (.int .u64 b) (.string t) (.slice a l cap) w)
  clear h
  obtain ⟨W1, hW1, hb1, hz1, hx1, hx2⟩ := boxes2 w (.int .i64 k) (.int .i64 m) (.int .u64 b) (.string t) (.slice a l cap) (.int .i64 0) (.int .i64 0) (.int .u64 0) (.string ⟨#[]⟩) (.slice none 0 0)
  obtain ⟨p0, p1, p2, p3, p4⟩ := hx1.cells
  have hz := Lib.hid hz1
  clear hz1
  go_enter Tryz.func82, Tryz.ntmps82
  go_upto_region 1 with fail
  rw [← hW1]
  clear hW1
  go_wp2_with (go_at_call 96; refine (HM.out _).mono ?_; rintro e w2 ⟨rfl, hb2⟩; have hlt : Hid (w.heap.size + 1 < w2.heap.size) := Lib.hid (by have := hz.out; have := hb2.size; omega); have hlt0 : Hid (w.heap.size < w2.heap.size) := Lib.hid (by have := hlt.out; omega); have hy := hx2.keep (hb2.block _ (by have := hz.out; omega)); have hy1 := hx1.keep (hb2.block _ (by have := hz.out; omega)); have r0 := old1_cell hlt0.out hy1.cells.1; have r1 := old1_cell hlt0.out hy1.cells.2.1; have r2 := old1_cell hlt0.out hy1.cells.2.2.1; have r3 := old1_cell hlt0.out hy1.cells.2.2.2.1; have r4 := old1_cell hlt0.out hy1.cells.2.2.2.2; have q0 := old1_cell hlt.out hy.cells.1; have q1 := old1_cell hlt.out hy.cells.2.1; have q2 := old1_cell hlt.out hy.cells.2.2.1; have q3 := old1_cell hlt.out hy.cells.2.2.2.1; have q4 := old1_cell hlt.out hy.cells.2.2.2.2; have f0 := old1_thaw hlt.out (hy.thaw 0); have f1 := old1_thaw hlt.out (hy.thaw 1); have f2 := old1_thaw hlt.out (hy.thaw 2); have f3 := old1_thaw hlt.out (hy.thaw 3); have f4 := old1_thaw hlt.out (hy.thaw 4))
  exact bodyPost_ret (results_cell_row rfl _ _ (w.heap.size + 1) 25 _ (0, 0) _ rfl ((hy.row.old _).box.set5 _ _ _ _ _) Tryz.underlying25 rfl (by kernel_rfl)) rfl
    ⟨rfl, set5_below ((hb1.trans (hb2.mono hb1.size)).alloc (Nat.le_trans hb1.size hb2.size) _) (by omega)⟩
end Go.Proofs.YtecdniimikfbhaaGreatDoor
