/- Contracts of both Methods, of want's Missing, Implements, Face and MustFace, and of the reference's Lacks and Implements. -/
import Derived.Test.YteplhhlgceppkabG16
import Derived.Test.YteplhhlgceppkabG13
namespace Go.Proofs.Yteplhhlgceppkab
open Go Go.RowKit Go.ChangeShapes Go.WideShapes

/-- A row of methods in a world. -/
def MethsAt (w : World) (v : Value) (ms : List Nat) : Prop :=
  ∃ (a : Option Addr) (b : Nat), v = .slice a ms.length ms.length ∧ (0 < ms.length → a = some ⟨b, 0, none⟩ ∧ b < w.heap.size) ∧ ∀ (j m : Nat), ms[j]? = some m → w.cell? ⟨b, j, none⟩ = some (.int .i64 m)
theorem MethsAt.carry {w w1 : World} {v : Value} {ms : List Nat} (h : MethsAt w v ms) (hb : Below w.heap.size w w1) : MethsAt w1 v ms := by
  obtain ⟨a, b, h1, h2, h3⟩ := h
  refine ⟨a, b, h1, fun h0 => ⟨(h2 h0).1, Nat.lt_of_lt_of_le (h2 h0).2 hb.size⟩, fun j m hj => ?_⟩
  have := (List.getElem?_eq_some_iff.1 hj).1
  exact (hb.cell (p := ⟨b, j, none⟩) (h2 (by omega)).2).trans (h3 j m hj)
/-- The methods of what may be an interface's number. -/
def methsI (f : Int) : List Nat := if 0 ≤ f ∧ f < 10 then meths f.toNat else []
theorem methsI_nat (f : Nat) (h : f < 10) : methsI f = meths f := by
  unfold methsI
  rw [if_pos (by omega), Int.toNat_natCast]
theorem methsI_no (f : Int) (h : ¬ (0 ≤ f ∧ f < 10)) : methsI f = [] := if_neg h
theorem meths_lt (f : Int) : ∀ (j m : Nat), (methsI f)[j]? = some m → m < 6 := by
  intro j m h
  by_cases hf : 0 ≤ f ∧ f < 10
  · obtain ⟨n, rfl⟩ : ∃ n : Nat, f = n := ⟨f.toNat, by omega⟩
    have hn : n < 10 := by omega
    rw [methsI_nat n hn] at h
    have hm := List.mem_of_getElem? h
    clear h hf
    match n, hn with
    | 0, _ => simp [meths] at hm; omega
    | 1, _ => simp [meths] at hm; omega
    | 2, _ => simp [meths] at hm; omega
    | 3, _ => simp [meths] at hm; omega
    | 4, _ => simp [meths] at hm; omega
    | 5, _ => simp [meths] at hm; omega
    | 6, _ => simp [meths] at hm; omega
    | 7, _ => simp [meths] at hm; omega
    | 8, _ => simp [meths] at hm; omega
    | 9, _ => simp [meths] at hm; omega
    | n + 10, h => omega
  · rw [methsI_no f hf] at h
    simp at h
theorem meths_len (f : Int) : (methsI f).length ≤ 3 := by
  by_cases hf : 0 ≤ f ∧ f < 10
  · obtain ⟨n, rfl⟩ : ∃ n : Nat, f = n := ⟨f.toNat, by omega⟩
    have hn : n < 10 := by omega
    rw [methsI_nat n hn]
    clear hf
    match n, hn with
    | 0, _ => simp [meths]
    | 1, _ => simp [meths]
    | 2, _ => simp [meths]
    | 3, _ => simp [meths]
    | 4, _ => simp [meths]
    | 5, _ => simp [meths]
    | 6, _ => simp [meths]
    | 7, _ => simp [meths]
    | 8, _ => simp [meths]
    | 9, _ => simp [meths]
    | n + 10, h => omega
  · rw [methsI_no f hf]
    simp

theorem meths_cell (w : World) (ms : List Nat) (T : TypeId) {j m : Nat} (hj : ms[j]? = some m) : (w.alloc (.cells (ms.map fun m : Nat => Value.int .i64 m).toArray T (0, 0))).cell? ⟨w.heap.size, j, none⟩ = some (.int .i64 m) :=
  (Row.new w _ T).cell j (by simp [hj])
theorem wmeths_0 (w : World) : Calls Try.prog 66 #[.int .i64 0] w fun x w' => ∃ v, x = .returned v ∧ MethsAt w' v (meths 0) ∧ Below w.heap.size w w' := by
  go_enter Try.func66, Try.ntmps66
  go_wp2_with fail
  refine bodyPost_ret (results_tmp rfl _ _ _) rfl ⟨_, rfl, ⟨_, w.heap.size, rfl, fun _ => ⟨rfl, by simp⟩, fun j m hj => ?_⟩, by go_grown⟩
  exact meths_cell _ _ _ hj
theorem wmeths_1 (w : World) : Calls Try.prog 66 #[.int .i64 1] w fun x w' => ∃ v, x = .returned v ∧ MethsAt w' v (meths 1) ∧ Below w.heap.size w w' := by
  go_enter Try.func66, Try.ntmps66
  go_wp2_with fail
  refine bodyPost_ret (results_tmp rfl _ _ _) rfl ⟨_, rfl, ⟨_, w.heap.size, rfl, fun _ => ⟨rfl, by simp⟩, fun j m hj => ?_⟩, by go_grown⟩
  exact meths_cell _ _ _ hj
theorem wmeths_2 (w : World) : Calls Try.prog 66 #[.int .i64 2] w fun x w' => ∃ v, x = .returned v ∧ MethsAt w' v (meths 2) ∧ Below w.heap.size w w' := by
  go_enter Try.func66, Try.ntmps66
  go_wp2_with fail
  refine bodyPost_ret (results_tmp rfl _ _ _) rfl ⟨_, rfl, ⟨_, w.heap.size, rfl, fun _ => ⟨rfl, by simp⟩, fun j m hj => ?_⟩, by go_grown⟩
  exact meths_cell _ _ _ hj
theorem wmeths_3 (w : World) : Calls Try.prog 66 #[.int .i64 3] w fun x w' => ∃ v, x = .returned v ∧ MethsAt w' v (meths 3) ∧ Below w.heap.size w w' := by
  go_enter Try.func66, Try.ntmps66
  go_wp2_with fail
  refine bodyPost_ret (results_tmp rfl _ _ _) rfl ⟨_, rfl, ⟨_, w.heap.size, rfl, fun _ => ⟨rfl, by simp⟩, fun j m hj => ?_⟩, by go_grown⟩
  exact meths_cell _ _ _ hj
theorem wmeths_4 (w : World) : Calls Try.prog 66 #[.int .i64 4] w fun x w' => ∃ v, x = .returned v ∧ MethsAt w' v (meths 4) ∧ Below w.heap.size w w' := by
  go_enter Try.func66, Try.ntmps66
  go_wp2_with fail
  refine bodyPost_ret (results_tmp rfl _ _ _) rfl ⟨_, rfl, ⟨_, w.heap.size, rfl, fun _ => ⟨rfl, by simp⟩, fun j m hj => ?_⟩, by go_grown⟩
  exact meths_cell _ _ _ hj
theorem wmeths_5 (w : World) : Calls Try.prog 66 #[.int .i64 5] w fun x w' => ∃ v, x = .returned v ∧ MethsAt w' v (meths 5) ∧ Below w.heap.size w w' := by
  go_enter Try.func66, Try.ntmps66
  go_wp2_with fail
  refine bodyPost_ret (results_tmp rfl _ _ _) rfl ⟨_, rfl, ⟨_, w.heap.size, rfl, fun _ => ⟨rfl, by simp⟩, fun j m hj => ?_⟩, by go_grown⟩
  exact meths_cell _ _ _ hj
theorem wmeths_6 (w : World) : Calls Try.prog 66 #[.int .i64 6] w fun x w' => ∃ v, x = .returned v ∧ MethsAt w' v (meths 6) ∧ Below w.heap.size w w' := by
  go_enter Try.func66, Try.ntmps66
  go_wp2_with fail
  refine bodyPost_ret (results_tmp rfl _ _ _) rfl ⟨_, rfl, ⟨_, w.heap.size, rfl, fun _ => ⟨rfl, by simp⟩, fun j m hj => ?_⟩, by go_grown⟩
  exact meths_cell _ _ _ hj
theorem wmeths_7 (w : World) : Calls Try.prog 66 #[.int .i64 7] w fun x w' => ∃ v, x = .returned v ∧ MethsAt w' v (meths 7) ∧ Below w.heap.size w w' := by
  go_enter Try.func66, Try.ntmps66
  go_wp2_with fail
  refine bodyPost_ret (results_tmp rfl _ _ _) rfl ⟨_, rfl, ⟨_, w.heap.size, rfl, fun _ => ⟨rfl, by simp⟩, fun j m hj => ?_⟩, by go_grown⟩
  exact meths_cell _ _ _ hj
theorem wmeths_8 (w : World) : Calls Try.prog 66 #[.int .i64 8] w fun x w' => ∃ v, x = .returned v ∧ MethsAt w' v (meths 8) ∧ Below w.heap.size w w' := by
  go_enter Try.func66, Try.ntmps66
  go_wp2_with fail
  refine bodyPost_ret (results_tmp rfl _ _ _) rfl ⟨_, rfl, ⟨_, w.heap.size, rfl, fun _ => ⟨rfl, by simp⟩, fun j m hj => ?_⟩, by go_grown⟩
  exact meths_cell _ _ _ hj
theorem wmeths_9 (w : World) : Calls Try.prog 66 #[.int .i64 9] w fun x w' => ∃ v, x = .returned v ∧ MethsAt w' v (meths 9) ∧ Below w.heap.size w w' := by
  go_enter Try.func66, Try.ntmps66
  go_wp2_with fail
  refine bodyPost_ret (results_tmp rfl _ _ _) rfl ⟨_, rfl, ⟨_, w.heap.size, rfl, fun _ => ⟨rfl, by simp⟩, fun j m hj => ?_⟩, by go_grown⟩
  exact meths_cell _ _ _ hj
theorem wmeths_no (f : Int) (h : ¬ (0 ≤ f ∧ f < 10)) (w : World) : Calls Try.prog 66 #[.int .i64 f] w fun x w' => ∃ v, x = .returned v ∧ MethsAt w' v [] ∧ Below w.heap.size w w' := by
  have h0 : (f == 0) = false := by simp; omega
  have h1 : (f == 1) = false := by simp; omega
  have h2 : (f == 2) = false := by simp; omega
  have h3 : (f == 3) = false := by simp; omega
  have h4 : (f == 4) = false := by simp; omega
  have h5 : (f == 5) = false := by simp; omega
  have h6 : (f == 6) = false := by simp; omega
  have h7 : (f == 7) = false := by simp; omega
  have h8 : (f == 8) = false := by simp; omega
  have h9 : (f == 9) = false := by simp; omega
  clear h
  go_enter Try.func66, Try.ntmps66
  go_wp2_with fail
  refine bodyPost_ret (results_tmp rfl _ _ _) rfl ⟨_, rfl, ⟨none, 0, rfl, fun h => absurd h (by simp), fun j m hj => by simp at hj⟩, Below.refl _ _⟩
theorem wmeths_any (f : Int) (w : World) : Calls Try.prog 66 #[.int .i64 f] w fun x w' => ∃ v, x = .returned v ∧ MethsAt w' v (methsI f) ∧ Below w.heap.size w w' := by
  by_cases hf : 0 ≤ f ∧ f < 10
  · obtain ⟨n, rfl⟩ : ∃ n : Nat, f = n := ⟨f.toNat, by omega⟩
    have hn : n < 10 := by omega
    rw [methsI_nat n hn]
    clear hf
    match n, hn with
    | 0, _ => exact wmeths_0 w
    | 1, _ => exact wmeths_1 w
    | 2, _ => exact wmeths_2 w
    | 3, _ => exact wmeths_3 w
    | 4, _ => exact wmeths_4 w
    | 5, _ => exact wmeths_5 w
    | 6, _ => exact wmeths_6 w
    | 7, _ => exact wmeths_7 w
    | 8, _ => exact wmeths_8 w
    | 9, _ => exact wmeths_9 w
    | n + 10, h => omega
  · rw [methsI_no f hf]
    exact wmeths_no f hf w
theorem rmeths_0 (w : World) : Calls Try.prog 51 #[.int .i64 0] w fun x w' => ∃ v, x = .returned v ∧ MethsAt w' v (meths 0) ∧ Below w.heap.size w w' := by
  go_enter Try.func51, Try.ntmps51
  go_wp2_with fail
  refine bodyPost_ret (results_tmp rfl _ _ _) rfl ⟨_, rfl, ⟨_, w.heap.size, rfl, fun _ => ⟨rfl, by simp⟩, fun j m hj => ?_⟩, by go_grown⟩
  exact meths_cell _ _ _ hj
theorem rmeths_1 (w : World) : Calls Try.prog 51 #[.int .i64 1] w fun x w' => ∃ v, x = .returned v ∧ MethsAt w' v (meths 1) ∧ Below w.heap.size w w' := by
  go_enter Try.func51, Try.ntmps51
  go_wp2_with fail
  refine bodyPost_ret (results_tmp rfl _ _ _) rfl ⟨_, rfl, ⟨_, w.heap.size, rfl, fun _ => ⟨rfl, by simp⟩, fun j m hj => ?_⟩, by go_grown⟩
  exact meths_cell _ _ _ hj
theorem rmeths_2 (w : World) : Calls Try.prog 51 #[.int .i64 2] w fun x w' => ∃ v, x = .returned v ∧ MethsAt w' v (meths 2) ∧ Below w.heap.size w w' := by
  go_enter Try.func51, Try.ntmps51
  go_wp2_with fail
  refine bodyPost_ret (results_tmp rfl _ _ _) rfl ⟨_, rfl, ⟨_, w.heap.size, rfl, fun _ => ⟨rfl, by simp⟩, fun j m hj => ?_⟩, by go_grown⟩
  exact meths_cell _ _ _ hj
theorem rmeths_3 (w : World) : Calls Try.prog 51 #[.int .i64 3] w fun x w' => ∃ v, x = .returned v ∧ MethsAt w' v (meths 3) ∧ Below w.heap.size w w' := by
  go_enter Try.func51, Try.ntmps51
  go_wp2_with fail
  refine bodyPost_ret (results_tmp rfl _ _ _) rfl ⟨_, rfl, ⟨_, w.heap.size, rfl, fun _ => ⟨rfl, by simp⟩, fun j m hj => ?_⟩, by go_grown⟩
  exact meths_cell _ _ _ hj
theorem rmeths_4 (w : World) : Calls Try.prog 51 #[.int .i64 4] w fun x w' => ∃ v, x = .returned v ∧ MethsAt w' v (meths 4) ∧ Below w.heap.size w w' := by
  go_enter Try.func51, Try.ntmps51
  go_wp2_with fail
  refine bodyPost_ret (results_tmp rfl _ _ _) rfl ⟨_, rfl, ⟨_, w.heap.size, rfl, fun _ => ⟨rfl, by simp⟩, fun j m hj => ?_⟩, by go_grown⟩
  exact meths_cell _ _ _ hj
theorem rmeths_5 (w : World) : Calls Try.prog 51 #[.int .i64 5] w fun x w' => ∃ v, x = .returned v ∧ MethsAt w' v (meths 5) ∧ Below w.heap.size w w' := by
  go_enter Try.func51, Try.ntmps51
  go_wp2_with fail
  refine bodyPost_ret (results_tmp rfl _ _ _) rfl ⟨_, rfl, ⟨_, w.heap.size, rfl, fun _ => ⟨rfl, by simp⟩, fun j m hj => ?_⟩, by go_grown⟩
  exact meths_cell _ _ _ hj
theorem rmeths_6 (w : World) : Calls Try.prog 51 #[.int .i64 6] w fun x w' => ∃ v, x = .returned v ∧ MethsAt w' v (meths 6) ∧ Below w.heap.size w w' := by
  go_enter Try.func51, Try.ntmps51
  go_wp2_with fail
  refine bodyPost_ret (results_tmp rfl _ _ _) rfl ⟨_, rfl, ⟨_, w.heap.size, rfl, fun _ => ⟨rfl, by simp⟩, fun j m hj => ?_⟩, by go_grown⟩
  exact meths_cell _ _ _ hj
theorem rmeths_7 (w : World) : Calls Try.prog 51 #[.int .i64 7] w fun x w' => ∃ v, x = .returned v ∧ MethsAt w' v (meths 7) ∧ Below w.heap.size w w' := by
  go_enter Try.func51, Try.ntmps51
  go_wp2_with fail
  refine bodyPost_ret (results_tmp rfl _ _ _) rfl ⟨_, rfl, ⟨_, w.heap.size, rfl, fun _ => ⟨rfl, by simp⟩, fun j m hj => ?_⟩, by go_grown⟩
  exact meths_cell _ _ _ hj
theorem rmeths_8 (w : World) : Calls Try.prog 51 #[.int .i64 8] w fun x w' => ∃ v, x = .returned v ∧ MethsAt w' v (meths 8) ∧ Below w.heap.size w w' := by
  go_enter Try.func51, Try.ntmps51
  go_wp2_with fail
  refine bodyPost_ret (results_tmp rfl _ _ _) rfl ⟨_, rfl, ⟨_, w.heap.size, rfl, fun _ => ⟨rfl, by simp⟩, fun j m hj => ?_⟩, by go_grown⟩
  exact meths_cell _ _ _ hj
theorem rmeths_9 (w : World) : Calls Try.prog 51 #[.int .i64 9] w fun x w' => ∃ v, x = .returned v ∧ MethsAt w' v (meths 9) ∧ Below w.heap.size w w' := by
  go_enter Try.func51, Try.ntmps51
  go_wp2_with fail
  refine bodyPost_ret (results_tmp rfl _ _ _) rfl ⟨_, rfl, ⟨_, w.heap.size, rfl, fun _ => ⟨rfl, by simp⟩, fun j m hj => ?_⟩, by go_grown⟩
  exact meths_cell _ _ _ hj
theorem rmeths_no (f : Int) (h : ¬ (0 ≤ f ∧ f < 10)) (w : World) : Calls Try.prog 51 #[.int .i64 f] w fun x w' => ∃ v, x = .returned v ∧ MethsAt w' v [] ∧ Below w.heap.size w w' := by
  have h0 : (f == 0) = false := by simp; omega
  have h1 : (f == 1) = false := by simp; omega
  have h2 : (f == 2) = false := by simp; omega
  have h3 : (f == 3) = false := by simp; omega
  have h4 : (f == 4) = false := by simp; omega
  have h5 : (f == 5) = false := by simp; omega
  have h6 : (f == 6) = false := by simp; omega
  have h7 : (f == 7) = false := by simp; omega
  have h8 : (f == 8) = false := by simp; omega
  have h9 : (f == 9) = false := by simp; omega
  clear h
  go_enter Try.func51, Try.ntmps51
  go_wp2_with fail
  refine bodyPost_ret (results_tmp rfl _ _ _) rfl ⟨_, rfl, ⟨none, 0, rfl, fun h => absurd h (by simp), fun j m hj => by simp at hj⟩, Below.refl _ _⟩
theorem rmeths_any (f : Int) (w : World) : Calls Try.prog 51 #[.int .i64 f] w fun x w' => ∃ v, x = .returned v ∧ MethsAt w' v (methsI f) ∧ Below w.heap.size w w' := by
  by_cases hf : 0 ≤ f ∧ f < 10
  · obtain ⟨n, rfl⟩ : ∃ n : Nat, f = n := ⟨f.toNat, by omega⟩
    have hn : n < 10 := by omega
    rw [methsI_nat n hn]
    clear hf
    match n, hn with
    | 0, _ => exact rmeths_0 w
    | 1, _ => exact rmeths_1 w
    | 2, _ => exact rmeths_2 w
    | 3, _ => exact rmeths_3 w
    | 4, _ => exact rmeths_4 w
    | 5, _ => exact rmeths_5 w
    | 6, _ => exact rmeths_6 w
    | 7, _ => exact rmeths_7 w
    | 8, _ => exact rmeths_8 w
    | 9, _ => exact rmeths_9 w
    | n + 10, h => omega
  · rw [methsI_no f hf]
    exact rmeths_no f hf w
end Go.Proofs.Yteplhhlgceppkab
