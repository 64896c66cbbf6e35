/- Contracts of caps.Parse and of the laws' awake. -/
import Derived.Test.YthkipihakiopnaaDoorC3
namespace Go.Proofs.YthkipihakiopnaaDoor
open Go.RowKit

theorem numberFrom_cases (s : ByteArray) : ∀ n k, numberFrom s n k = -1 ∨ ∃ j, k ≤ j ∧ j < k + n ∧ numberFrom s n k = (j : Int)
  | 0, _ => Or.inl rfl
  | n + 1, k => by
    unfold numberFrom
    split
    · exact Or.inr ⟨k, by omega, by omega, rfl⟩
    · rcases numberFrom_cases s n (k + 1) with h | ⟨j, h1, h2, h3⟩
      · exact Or.inl h
      · exact Or.inr ⟨j, by omega, by omega, h3⟩
theorem numberL_cases (s : ByteArray) : numberL s = -1 ∨ ∃ k : Nat, k < 11 ∧ numberL s = (k : Int) := by
  rcases numberFrom_cases s 11 0 with h | ⟨j, _, h2, h3⟩
  · exact Or.inl h
  · exact Or.inr ⟨j, by omega, h3⟩

def parseL (c : Int) : List ByteArray → Option Int
  | [] => some c
  | p :: r => if numberL p < 0 then none else if (c / 2 ^ (numberL p).toNat != 0) = true then none else parseL (bits .or .u32 c (2 ^ (numberL p).toNat % 4294967296)) r
def parseOut : Option Int → Value
  | some c => .tuple #[.int .u32 c, .bool true]
  | none => .tuple #[.int .u32 0, .bool false]
def pieces (s : ByteArray) : List ByteArray := Lib.splitB ⟨#[32]⟩ 0 (Lib.countB s ⟨#[32]⟩) s
def parseS (s : ByteArray) : Option Int := if s.toList = [] then some 0 else parseL 0 (pieces s)

theorem u32_or_bd (z : Int) (k : Nat) (h0 : 0 ≤ z) (h1 : z < 4294967296) (hk : k < 11) : 0 ≤ bits .or .u32 z (2 ^ k % 4294967296) ∧ bits .or .u32 z (2 ^ k % 4294967296) < 4294967296 := by
  have hp : (2 : Int) ^ k = ((2 ^ k : Nat) : Int) := by simp
  have hk2 : 2 ^ k < 4294967296 := Nat.lt_of_lt_of_le (Nat.pow_lt_pow_right (by omega) hk) (by decide)
  obtain ⟨m, rfl⟩ := Int.eq_ofNat_of_zero_le h0
  rw [hp]
  generalize (2 : Nat) ^ k = t at hk2
  rw [Int.emod_eq_of_lt (by omega) (by omega), u32_or_nat m t (by omega) hk2]
  have : m ||| t < 2 ^ 32 := Nat.or_lt_two_pow (by omega) (by omega)
  omega

theorem parse_empty (s : ByteArray) (w : World) (h2 : s.toList.isEmpty = true) : Calls Tryd.prog 13 #[.string s] w fun x w' => x = .returned (.tuple #[.int .u32 0, .bool true]) ∧ Below w.heap.size w w' := by
  go_enter Tryd.func13, Tryd.ntmps13
  go_wp2_with fail
  go_ret2
  exact ⟨rfl, by go_grown⟩

set_option maxHeartbeats 800000 in
theorem parse_core (s : ByteArray) (ps : List ByteArray) (R : Value) (w : World) (hps : Lib.splitB ⟨#[32]⟩ 0 (Lib.countB s ⟨#[32]⟩) s = ps) (hR : Hid (parseOut (parseL 0 ps) = R)) (hg : Gl w) (h2 : s.toList.isEmpty = false) (hs : s.size < 4294967281) : Calls Tryd.prog 13 #[.string s] w fun x w' => x = .returned R ∧ Below w.heap.size w w' := by
  have HPS := Lib.hid hps
  clear hps
  obtain ⟨mx, hmx⟩ := hg.maxLen
  go_enter Tryd.func13, Tryd.ntmps13
  go_wp2_with fail
  refine (Tryd.strings_Split s ⟨#[32]⟩ mx w hs hmx (by decide)).mono ?_
  rintro x w1 ⟨rfl, rfl⟩
  have hn : ps.length = Lib.countB s ⟨#[32]⟩ + 1 := by rw [← HPS.out]; exact Lib.splitB_all _ (by decide) 0 _ s rfl
  have hnl : Lib.countB s ⟨#[32]⟩ ≤ s.size := Lib.countB_le _ (by decide) _ s (Nat.le_refl _)
  rw [HPS.out]
  clear HPS
  generalize Lib.countB s ⟨#[32]⟩ = n at *
  obtain ⟨B, hB⟩ : ∃ B, B = w.heap.size := ⟨_, rfl⟩
  obtain ⟨W1, hW1⟩ : ∃ W1, W1 = w.alloc (.cells (ps.map Value.string).toArray 9) := ⟨_, rfl⟩
  have hc : ∀ j p, ps[j]? = some p → W1.cell? ⟨B, j, none⟩ = some (.string p) := fun j p hj => by
    rw [hW1, hB, World.cell?_alloc_new]
    simp [hj]
  have hz : W1.heap.size = B + 1 := by rw [hW1, hB]; simp
  have hBW : Below w.heap.size w W1 := by rw [hW1]; exact (Below.refl _ _).alloc (Nat.le_refl _) _
  have hgW : Gl W1 := hg.below hBW hg.size
  rw [← hW1, ← hB]
  have hwB : w.heap.size ≤ B := by omega
  have HC := Lib.hid hc
  have HZ := Lib.hid hz
  have HN := Lib.hid hn
  clear hW1 hB hc hmx hz hn
  go_wp2_with fail
  go_loopw [4, 13] (fun c i wr => ∃ (j : Nat) (z : Int), j ≤ n + 1 ∧ i = .int .i64 j ∧ c = .int .u32 z ∧ 0 ≤ z ∧ z < 4294967296 ∧ Hid (parseL 0 ps = parseL z (ps.drop j)) ∧ Below W1.heap.size W1 wr) (fun _ i _ => n + 1 - (intOf i).toNat)
  case atStart => exact ⟨0, 0, by omega, rfl, rfl, by omega, by omega, rfl, Below.refl _ _⟩
  case round =>
    obtain ⟨j, z, hj, rfl, rfl, hz0, hz1, hp, hb⟩ := hrel
    by_cases hlt : j < n + 1
    · have hj' : j < ps.length := by have := HN.out; omega
      have hpj : ps[j]? = some ps[j] := List.getElem?_eq_getElem hj'
      have hcell : wr.cell? ⟨B, j, none⟩ = some (.string ps[j]) := (hb.cell (p := ⟨B, j, none⟩) (by have := HZ.out; simp; omega)).trans (HC.out j _ hpj)
      have HD := Lib.hid (show ps.drop j = ps[j] :: ps.drop (j + 1) from List.drop_eq_getElem_cons hj')
      have hgr : Gl wr := hgW.below hb hgW.size
      generalize ps[j] = p at *
      clear hpj
      go_wp2_with fail
      refine (number_any p _ hgr).mono ?_
      rintro x w2 ⟨rfl, hb2⟩
      have hb3 : Below W1.heap.size W1 w2 := hb.trans (hb2.mono hb.size)
      clear hb hb2 hgr hcell
      rcases numberL_cases p with hm | ⟨k, hk, hm⟩
      · have HE := Lib.hid (show parseL 0 ps = none by rw [hp.out, HD.out, parseL, if_pos (by omega)])
        rw [hm]
        clear hm hp HD
        go_wp2_with fail
        go_ret2
        exact ⟨by rw [← hR.out, HE.out]; rfl, hBW.trans (hb3.mono hBW.size)⟩
      · rw [hm]
        by_cases hs : (z / 2 ^ k != 0) = true
        · have HE := Lib.hid (show parseL 0 ps = none by rw [hp.out, HD.out, parseL, hm, if_neg (by omega), Int.toNat_natCast, if_pos hs])
          clear hm hp HD
          go_wp2_with fail
          go_ret2
          exact ⟨by rw [← hR.out, HE.out]; rfl, hBW.trans (hb3.mono hBW.size)⟩
        · have HE := Lib.hid (show parseL 0 ps = parseL (bits .or .u32 z (2 ^ k % 4294967296)) (ps.drop (j + 1)) by rw [hp.out, HD.out, parseL, hm, if_neg (by omega), Int.toNat_natCast, if_neg hs])
          have hs' : (z / 2 ^ k != 0) = false := by simpa using hs
          clear hm hp HD hs
          go_wp2_with fail
          go_roundw
          case rel => exact ⟨j + 1, _, by omega, by go_num, rfl, (u32_or_bd _ _ hz0 hz1 hk).1, (u32_or_bd _ _ hz0 hz1 hk).2, HE, hb3⟩
          case measure => simp [intOf]; omega
    · obtain rfl : j = n + 1 := by omega
      have HE := Lib.hid (show parseL 0 ps = some z by rw [hp.out, List.drop_of_length_le (by have := HN.out; omega)]; rfl)
      clear hp
      go_wp2_with fail
      go_ret2
      exact ⟨by rw [← hR.out, HE.out]; rfl, hBW.trans (hb.mono hBW.size)⟩

def parseV (s : ByteArray) : Value := if s.toList.isEmpty = true then .tuple #[.int .u32 0, .bool true] else parseOut (parseL 0 (pieces s))
theorem parse_any (s : ByteArray) (w : World) (hg : Gl w) (hs : s.size < 4294967281) : Calls Tryd.prog 13 #[.string s] w fun x w' => x = .returned (parseV s) ∧ Below w.heap.size w w' := by
  unfold parseV
  cases h : s.toList.isEmpty with
  | true => rw [if_pos rfl]; exact parse_empty s w h
  | false => rw [if_neg (by decide)]; exact parse_core s _ _ w rfl rfl hg h hs

def fc : ByteArray := ⟨#[102, 108, 117, 115, 104, 32, 99, 108, 111, 115, 101]⟩
theorem parse_fc : parseV fc = .tuple #[.int .u32 3, .bool true] := by kernel_rfl
theorem text_3 : textS 3 = fc.data.toList := by decide +kernel
theorem groups_3 : (groupsL 3 5).length = 1 := by decide +kernel
theorem Made.len {w : World} {B : Nat} {v : Value} {l : List Int} (h : Made w B v l) : ∃ a c, v = .slice a l.length c := by
  rcases h.2 with ⟨h1, h2⟩ | ⟨g, cap, cur, hv, _⟩
  · exact ⟨none, 0, by rw [h1, h2]⟩
  · exact ⟨_, _, hv⟩
theorem fc_list : (fc.toList == [102, 108, 117, 115, 104, 32, 99, 108, 111, 115, 101]) = true := by kernel_rfl
theorem text_fc : Value.string ⟨(textS 3).toArray⟩ = .string fc := by rw [text_3]
theorem parse_at (w : World) (hg : Gl w) : Calls Tryd.prog 13 #[.string fc] w fun x w' => x = .returned (.tuple #[.int .u32 3, .bool true]) ∧ Below w.heap.size w w' := by
  rw [← parse_fc]
  exact parse_any fc w hg (by decide)
theorem text_at (w : World) (hg : Gl w) : Calls Tryd.prog 15 #[.int .u32 3] w fun x w' => x = .returned (.string fc) ∧ Below w.heap.size w w' := by
  rw [← text_fc]
  exact text_any 3 w hg
theorem groups_at (w : World) : Calls Tryd.prog 8 #[.int .u32 3] w fun x w' => (∃ a c, x = .returned (.slice a 1 c)) ∧ Below w.heap.size w w' := by
  refine (groups_any 3 w).mono fun x w' ⟨v, hx, hM, hb⟩ => ⟨?_, hb⟩
  obtain ⟨a, c, hv⟩ := hM.len
  rw [groups_3] at hv
  exact ⟨a, c, by rw [hx, hv]⟩

set_option maxHeartbeats 800000 in
theorem awake_any (w : World) (hg : Gl w) : Calls Tryd.prog 12 #[] w fun x w' => x = .returned (.bool true) ∧ Below w.heap.size w w' := by
  have hs := hg.size
  go_enter Tryd.func12, Tryd.ntmps12
  go_wp2_with fail
  refine (parse_at _ hg).mono ?_
  rintro x w1 ⟨rfl, hb1⟩
  have hg1 := hg.below hb1 hg.size
  clear hg
  go_wp2_with fail
  refine (text_at _ hg1).mono ?_
  rintro x w2 ⟨rfl, hb2⟩
  have hb3 : Below w.heap.size w w2 := hb1.trans (hb2.mono hb1.size)
  clear hb1 hb2 hg1
  have hfc : (fc.toList == [102, 108, 117, 115, 104, 32, 99, 108, 111, 115, 101]) = true := fc_list
  go_wp2_with fail
  refine (groups_at _).mono ?_
  rintro x w3 ⟨⟨a, c, rfl⟩, hb4⟩
  have hb5 : Below w.heap.size w w3 := hb3.trans (hb4.mono hb3.size)
  clear hb3 hb4
  go_wp2_with fail
  go_ret
  exact ⟨rfl, hb5⟩
end Go.Proofs.YthkipihakiopnaaDoor
