/- The walk of the law CapsTexts: it returns true, at a text of at most a million letters. -/
import Derived.Test.YthkipihakiopnaaDoorC12
namespace Go.Proofs.YthkipihakiopnaaDoor
open Go.RowKit Plain

theorem parseV_pair (s : ByteArray) : ∃ x b, parseV s = .tuple #[.int .u32 x, .bool b] := by
  unfold parseV
  split
  · exact ⟨_, _, rfl⟩
  · cases parseL 0 (pieces s) with
    | none => exact ⟨_, _, rfl⟩
    | some c => exact ⟨_, _, rfl⟩

set_option maxHeartbeats 3200000 in
theorem law_texts_core (c k m px nl : Int) (pb vb : Bool) (s T U : ByteArray) (w : World) (hg : Gl w) (hs : s.size < 4294967281) (hT : T.size < 4294967281)
    (hp : Hid (parseV s = .tuple #[.int .u32 px, .bool pb])) (ht : Hid (textK c 11 = T)) (ht2 : Hid ((⟨(textS c).toArray⟩ : ByteArray) = T)) (hq : Hid (parseV T = .tuple #[.int .u32 m, .bool true]))
    (hm : bits .and .u32 c 2047 = m) (hv : Hid (decide (c ≤ 2047) = vb)) (hw : Hid (wordP k = U)) (hn : Hid (numberL s = nl)) :
    Calls Tryd.prog 5 #[.int .u32 c, .int .i64 k, .string s] w fun x w' => x = .returned (.bool true) ∧ Below w.heap.size w w' := by
  have hz := hg.size
  have hb0 := Below.refl w.heap.size w
  go_enter Tryd.func5, Tryd.ntmps5
  have hg1 := hg.below hb0 hz
  go_wp2_with fail
  refine (parse_any _ _ hg1 hs).mono ?_
  rintro x w1 ⟨rfl, hx⟩
  rw [hp.out]
  have hb1 : Below w.heap.size w w1 := hb0.trans (hx.mono hb0.size)
  clear hb0 hx hg1
  have hg2 := hg.below hb1 hz
  go_wp2_with fail
  refine (rparse_any _ _).mono ?_
  rintro x w2 ⟨rfl, hx⟩
  rw [hp.out]
  have hb2 : Below w.heap.size w w2 := hb1.trans (hx.mono hb1.size)
  clear hb1 hx hg2
  have hg3 := hg.below hb2 hz
  go_wp2_with fail
  refine (text_any _ _ hg3).mono ?_
  rintro x w3 ⟨rfl, hx⟩
  rw [ht2.out]
  have hb3 : Below w.heap.size w w3 := hb2.trans (hx.mono hb2.size)
  clear hb2 hx hg3
  have hg4 := hg.below hb3 hz
  go_wp2_with fail
  refine (parse_any _ _ hg4 hT).mono ?_
  rintro x w4 ⟨rfl, hx⟩
  rw [hq.out]
  have hb4 : Below w.heap.size w w4 := hb3.trans (hx.mono hb3.size)
  clear hb3 hx hg4
  have hg5 := hg.below hb4 hz
  go_wp2_with fail
  refine (valid_any _ _).mono ?_
  rintro x w5 ⟨rfl, hx⟩
  rw [hv.out]
  have hb5 : Below w.heap.size w w5 := hb4.trans (hx.mono hb4.size)
  clear hb4 hx hg5
  have hg6 := hg.below hb5 hz
  go_wp2_with fail
  refine (rvalid_any _ _).mono ?_
  rintro x w6 ⟨rfl, hx⟩
  rw [hv.out]
  have hb6 : Below w.heap.size w w6 := hb5.trans (hx.mono hb5.size)
  clear hb5 hx hg6
  have hg7 := hg.below hb6 hz
  go_wp2_with fail
  refine (word_any _ _ hg7).mono ?_
  rintro x w7 ⟨rfl, hx⟩
  rw [hw.out]
  have hb7 : Below w.heap.size w w7 := hb6.trans (hx.mono hb6.size)
  clear hb6 hx hg7
  have hg8 := hg.below hb7 hz
  go_wp2_with fail
  refine (rword_any _ _).mono ?_
  rintro x w8 ⟨rfl, hx⟩
  rw [hw.out]
  have hb8 : Below w.heap.size w w8 := hb7.trans (hx.mono hb7.size)
  clear hb7 hx hg8
  have hg9 := hg.below hb8 hz
  go_wp2_with fail
  refine (number_any _ _ hg9).mono ?_
  rintro x w9 ⟨rfl, hx⟩
  rw [hn.out]
  have hb9 : Below w.heap.size w w9 := hb8.trans (hx.mono hb8.size)
  clear hb8 hx hg9
  have hg10 := hg.below hb9 hz
  go_wp2_with fail
  refine (rnumber_any _ _).mono ?_
  rintro x w10 ⟨rfl, hx⟩
  rw [hn.out]
  have hb10 : Below w.heap.size w w10 := hb9.trans (hx.mono hb9.size)
  clear hb9 hx hg10
  have hg11 := hg.below hb10 hz
  go_wp2_with fail
  refine (text_any _ _ hg11).mono ?_
  rintro x w11 ⟨rfl, hx⟩
  rw [ht2.out]
  have hb11 : Below w.heap.size w w11 := hb10.trans (hx.mono hb10.size)
  clear hb10 hx hg11
  have hg12 := hg.below hb11 hz
  go_wp2_with fail
  refine (rtext_any _ _).mono ?_
  rintro x w12 ⟨rfl, hx⟩
  rw [ht.out]
  have hb12 : Below w.heap.size w w12 := hb11.trans (hx.mono hb11.size)
  clear hb11 hx hg12
  have hga := hg.below hb12 hz
  go_wp2_with fail
  refine (awake_any _ hga).mono ?_
  rintro x wz ⟨rfl, hx⟩
  have hbz : Below w.heap.size w wz := hb12.trans (hx.mono hb12.size)
  go_wp2_with fail
  go_ret
  exact ⟨rfl, hbz⟩

theorem law_texts (c k : Int) (s : ByteArray) (w : World) (hc0 : 0 ≤ c) (hc1 : c < 4294967296) (hs : s.size < 4294967281) (hg : Gl w) : Calls Tryd.prog 5 #[.int .u32 c, .int .i64 k, .string s] w fun x w' => x = .returned (.bool true) ∧ Below w.heap.size w w' := by
  obtain ⟨n, rfl⟩ := Int.eq_ofNat_of_zero_le hc0
  have hn : n < 4294967296 := by omega
  obtain ⟨px, pb, hp⟩ := parseV_pair s
  have em : bits .and .u32 (n : Int) 2047 = ((n &&& 2047 : Nat) : Int) := u32_and_nat n 2047 hn (by omega)
  have hT : (textK (n : Int) 11).size < 4294967281 := by have := textK_le (n : Int) 11 (by omega); omega
  refine law_texts_core n k _ px _ pb _ s _ _ w hg hs hT hp rfl rfl ?_ em rfl rfl rfl
  refine parse_text (n &&& 2047) (low_lt n) _ ?_
  rw [textS_low n hn]
  rfl
end Go.Proofs.YthkipihakiopnaaDoor
