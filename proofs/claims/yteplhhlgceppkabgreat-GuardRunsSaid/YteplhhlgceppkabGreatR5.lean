/- The reference's Run. -/
import Derived.Test.YteplhhlgceppkabGreatR4
namespace Go.Proofs.YteplhhlgceppkabGreat
open Go Go.RowKit Go.ChangeShapes Go.WideShapes

theorem downs_zero (j : Nat) : downs 0 (j + 1) = (j : Int) :: downs 0 j := by rw [downs, Nat.zero_add]
/-- Behind both appends. -/
theorem OwnR.both {w1 w4 w6 : World} {B g5 cap6 g6 n6 cap7 : Nat} {vo vp : Value} {os : List Out} {x : Out} {c : Nat → Nat → Value} {ob : Obj} {r0 r1 r2 r3 : Int} {r4 : Bool} {k5 m5 b5 : Int} {t5 : ByteArray} {a5 : Option Addr} {n5 cap5 : Nat}
    (hk : ∀ i x, os[i]? = some x → ResV w1 (fun b => (B ≤ b ∧ some b ≠ vp.ownBlock) ∧ some b ≠ vo.ownBlock) (ten c i) x)
    (he : ResV w1 (fun b => (B ≤ b ∧ some b ≠ vp.ownBlock) ∧ some b ≠ vo.ownBlock) (.agg #[.int .i64 r0, .int .i64 r1, .int .i64 r2, .int .i64 r3, .bool r4, .int .i64 k5, .int .i64 m5, .int .u64 b5, .string t5, .slice a5 n5 cap5]) x)
    (ho : w4.ownsRow B 42 10 (.slice (some ⟨g5, 0, none⟩) (os.length + 1) cap6) (os.length + 1) (tenCells c os.length ++ [.int .i64 r0, .int .i64 r1, .int .i64 r2, .int .i64 r3, .bool r4, .int .i64 k5, .int .i64 m5, .int .u64 b5, .string t5, .slice a5 n5 cap5])) (hgr : w1.grownBy w4 vo.ownBlock) (hat : vo.ownBlock = some g5 ∨ g5 = w1.heap.size)
    (hB : B ≤ g5) (hp : some g5 ≠ vp.ownBlock) (hgr6 : (w4.alloc ob).grownBy w6 (some w4.heap.size)) (hat6 : g6 = w4.heap.size ∨ g6 = (w4.alloc ob).heap.size) :
    OwnR w6 B (fun b => B ≤ b ∧ some b ≠ Value.ownBlock (.slice (some ⟨g6, 0, none⟩) n6 cap7)) (.slice (some ⟨g5, 0, none⟩) (os.length + 1) cap6) (os ++ [x]) := by
  have hS := OwnR.snoc (P := fun b => B ≤ b ∧ some b ≠ vp.ownBlock) hk he ho hgr hat ⟨hB, hp⟩
  refine hS.carry (fun b hq hl => ⟨?_, hq.1, fun e => ?_⟩) ?_
  · rw [hgr6.block b (by simp; omega) (fun e => by have := Option.some.inj e; omega)]
    exact heap_alloc_old _ _ hl
  · have e' : b = g6 := Option.some.inj e
    rcases hat6 with h | h
    · omega
    · simp at h; omega
  · have := hgr6.size
    simp at this; omega

set_option maxRecDepth 100000 in
set_option maxHeartbeats 3200000 in
theorem rrun_any {w : World} {lv : Value} {xs : List Ac} (hA0 : Acts w lv xs) (hg : ∀ x ∈ xs, Good x.A ∧ Good x.B) (hlen : xs.length ≤ 65536) (W : World) (hW : Below w.heap.size w W) :
    Calls Tryz.prog 8 #[lv] W fun x w' => ∃ rv ov, x = .returned (.tuple #[rv, ov]) ∧ OwnR w' W.heap.size (fun b => W.heap.size ≤ b) rv (runO (xs.map outA)) ∧ Made w' W.heap.size ov (downs 0 (runO (xs.map outA)).length) ∧ Below W.heap.size W w' := by
  have hA := hA0.later hW
  clear hA0 hW
  obtain ⟨p, cp, rfl, hmx, hX⟩ := hA
  have HX := Lib.hid hX
  have hO0 : runO (xs.map outA) = (xs.map outA).take 0 ++ runO ((xs.map outA).drop 0) := rfl
  have hml : (xs.map outA).length = xs.length := by simp
  obtain ⟨i0, hi, hz0, hzs, hzb⟩ := info_parts info42
  obtain ⟨i3, hi3, hz3, hzs3, hzb3⟩ := info_parts info3
  clear hX
  go_enter Tryz.func8, Tryz.ntmps8
  go_wp2_with fail
  go_loopw [4, 5, 10] (fun vo vp i wr => ∃ j : Nat, j ≤ xs.length ∧ i = .int .i64 j ∧ OwnR wr W.heap.size (fun b => W.heap.size ≤ b ∧ some b ≠ vp.ownBlock) vo ((xs.map outA).take j) ∧ Made wr W.heap.size vp (downs 0 j) ∧ (j = 0 → vp = .slice none 0 0) ∧ runO (xs.map outA) = (xs.map outA).take j ++ runO ((xs.map outA).drop j) ∧ Below W.heap.size W wr) (fun _ _ i _ => xs.length - (intOf i).toNat)
  case atStart => exact ⟨0, Nat.zero_le _, rfl, OwnR.nil _ _ _, Made.nil _ _, (fun _ => rfl), hO0, Below.refl _ _⟩
  case round =>
    obtain ⟨j, hj, rfl, hR, hM, hM0, HRO0, hbr⟩ := hrel
    have HRO := Lib.hid HRO0
    clear HRO0 hO0
    obtain ⟨av, cv, rfl⟩ := hR.form
    obtain ⟨ap, cp2, rfl⟩ := hM.form
    have htl : ((xs.map outA).take j).length = j := by simp; omega
    rw [htl] at hR ⊢
    rw [downs_len] at hR hM hM0 ⊢
    by_cases hlt : j < xs.length
    · obtain ⟨x, hx⟩ : ∃ x, xs[j]? = some x := ⟨_, List.getElem?_eq_getElem hlt⟩
      obtain ⟨hgA, hgB⟩ := hg x (List.mem_of_getElem? hx)
      have HT := Lib.hid (outA_both hgA hgB).2
      have hox : (xs.map outA)[j]? = some (outA x) := by rw [List.getElem?_map, hx]; rfl
      have HTK := Lib.hid (show (xs.map outA).take (j + 1) = (xs.map outA).take j ++ [outA x] by rw [List.take_add_one, hox]; rfl)
      have HDR := Lib.hid (runO_drop hox)
      obtain ⟨g, o, ka, m, b, t, a1, l1, cap1, k', m', b', t', a2, l2, cap2, rfl, hgw, hcp, hcm, c0, c1, c2, c3, c4, c5, c6, c7, c8, c9, c10, c11, hrA, hrB⟩ := HX.out j x hx
      clear hgA hgB hox hx
      obtain ⟨c, hown, hPr, hkk⟩ := hR
      rw [htl] at hown
      have hltr := World.ownsRow.lt hown
      have HKK := Lib.hid hkk
      have HPr := Lib.hid hPr
      clear hkk hPr
      have hzr := hbr.size
      have d0 : wr.cell? ⟨g, o + j * 12, none⟩ = some (.int .i64 x.op) := (hbr.cell (p := ⟨g, _, none⟩) hgw).trans c0
      have d1 : wr.cell? ⟨g, o + j * 12 + 1, none⟩ = some (.int .i64 ka) := (hbr.cell (p := ⟨g, _, none⟩) hgw).trans c1
      have d2 : wr.cell? ⟨g, o + j * 12 + 2, none⟩ = some (.int .i64 m) := (hbr.cell (p := ⟨g, _, none⟩) hgw).trans c2
      have d3 : wr.cell? ⟨g, o + j * 12 + 3, none⟩ = some (.int .u64 b) := (hbr.cell (p := ⟨g, _, none⟩) hgw).trans c3
      have d4 : wr.cell? ⟨g, o + j * 12 + 4, none⟩ = some (.string t) := (hbr.cell (p := ⟨g, _, none⟩) hgw).trans c4
      have d5 : wr.cell? ⟨g, o + j * 12 + 5, none⟩ = some (.slice a1 l1 cap1) := (hbr.cell (p := ⟨g, _, none⟩) hgw).trans c5
      have d6 : wr.cell? ⟨g, o + j * 12 + 6, none⟩ = some (.int .i64 k') := (hbr.cell (p := ⟨g, _, none⟩) hgw).trans c6
      have d7 : wr.cell? ⟨g, o + j * 12 + 7, none⟩ = some (.int .i64 m') := (hbr.cell (p := ⟨g, _, none⟩) hgw).trans c7
      have d8 : wr.cell? ⟨g, o + j * 12 + 8, none⟩ = some (.int .u64 b') := (hbr.cell (p := ⟨g, _, none⟩) hgw).trans c8
      have d9 : wr.cell? ⟨g, o + j * 12 + 9, none⟩ = some (.string t') := (hbr.cell (p := ⟨g, _, none⟩) hgw).trans c9
      have d10 : wr.cell? ⟨g, o + j * 12 + 10, none⟩ = some (.slice a2 l2 cap2) := (hbr.cell (p := ⟨g, _, none⟩) hgw).trans c10
      have d11 : wr.cell? ⟨g, o + j * 12 + 11, none⟩ = some (.int .i64 x.n) := (hbr.cell (p := ⟨g, _, none⟩) hgw).trans c11
      clear c0 c1 c2 c3 c4 c5 c6 c7 c8 c9 c10 c11
      have HW := Lib.hid (HT.out W _ _ _ _ _ _ _ _ _ _ _ _ _ _ hrA hrB)
      clear HT hrA hrB
      generalize outA x = ox at *
      go_wp2_with fail
      refine (HW.out _ hbr).2.mono ?_
      rintro e w2 ⟨v2, rfl, hg2, hb2⟩
      obtain ⟨r0, r1, r2, r3, r4, k5, m5, b5, t5, a5, n5, cap5, rfl⟩ := hg2.form
      clear d0 d1 d2 d3 d4 d5 d6 d7 d8 d9 d10 d11
      obtain ⟨Wa, hWa⟩ : ∃ Wa, Wa = w2.alloc (.cells #[.int .i64 r0, .int .i64 r1, .int .i64 r2, .int .i64 r3, .bool r4, .int .i64 k5, .int .i64 m5, .int .u64 b5, .string t5, .slice a5 n5 cap5] 42) := ⟨_, rfl⟩
      have hba : Below w2.heap.size w2 Wa := by rw [hWa]; exact (Below.refl _ _).alloc (Nat.le_refl _) _
      have hra : Row Wa w2.heap.size #[.int .i64 r0, .int .i64 r1, .int .i64 r2, .int .i64 r3, .bool r4, .int .i64 k5, .int .i64 m5, .int .u64 b5, .string t5, .slice a5 n5 cap5] 42 := by rw [hWa]; exact Row.new _ _ _
      have hb2a := hb2.trans (hba.mono hb2.size)
      have hga := hg2.later hba
      have hz2 := hb2.size
      have hza := hra.lt
      have hownA : Wa.ownsRow W.heap.size 42 10 (.slice av j cv) j (tenCells c j) := by
        obtain ⟨h1, h2⟩ := hown
        refine ⟨h1, ?_⟩
        rcases h2 with h2 | ⟨g, cap, cur, hv, hg, hh, r⟩
        · exact Or.inl h2
        · exact Or.inr ⟨g, cap, cur, hv, hg, by rw [hb2a.block g (Array.getElem?_eq_some_iff.1 hh).1]; exact hh, r⟩
      dsimp only
      go_upto_region 7 with fail
      rw [← hWa]
      clear hWa
      have q0 : Wa.cell? ⟨w2.heap.size, 0, none⟩ = some (.int .i64 r0) := hra.cell 0 rfl
      have q1 : Wa.cell? ⟨w2.heap.size, 1, none⟩ = some (.int .i64 r1) := hra.cell 1 rfl
      have q2 : Wa.cell? ⟨w2.heap.size, 2, none⟩ = some (.int .i64 r2) := hra.cell 2 rfl
      have q3 : Wa.cell? ⟨w2.heap.size, 3, none⟩ = some (.int .i64 r3) := hra.cell 3 rfl
      have q4 : Wa.cell? ⟨w2.heap.size, 4, none⟩ = some (.bool r4) := hra.cell 4 rfl
      have q5 : Wa.cell? ⟨w2.heap.size, 5, none⟩ = some (.int .i64 k5) := hra.cell 5 rfl
      have q6 : Wa.cell? ⟨w2.heap.size, 6, none⟩ = some (.int .i64 m5) := hra.cell 6 rfl
      have q7 : Wa.cell? ⟨w2.heap.size, 7, none⟩ = some (.int .u64 b5) := hra.cell 7 rfl
      have q8 : Wa.cell? ⟨w2.heap.size, 8, none⟩ = some (.string t5) := hra.cell 8 rfl
      have q9 : Wa.cell? ⟨w2.heap.size, 9, none⟩ = some (.slice a5 n5 cap5) := hra.cell 9 rfl
      go_wp2_with (at_builtin; refine wpList_append_lies _ rfl (.tmp 18) (.tmp 20) 33 rfl W.heap.size 42 i0 (.agg #[.int .i64 0, .int .i64 0, .int .i64 0, .int .i64 0, .bool false, .int .i64 0, .int .i64 0, .int .u64 0, .string ⟨#[]⟩, .slice none 0 0]) 10 104 Tryz.underlying33 hi hz0 hzs hzb rfl (by decide) _ _ _ rfl (World.ownsRow.alloc hownA _) ⟨Wa.heap.size, 0, none⟩ 1 1 [.int .i64 r0, .int .i64 r1, .int .i64 r2, .int .i64 r3, .bool r4, .int .i64 k5, .int .i64 m5, .int .u64 b5, .string t5, .slice a5 n5 cap5] rfl rfl (World.news_of_block (heap_alloc_new Wa _)) ?c2 (by decide) ?c3 ?c4 ?c5 _ rfl ?_)
      case c2 =>
        intro u hu
        simp at hu
        rcases hu with rfl | rfl | rfl | rfl | rfl | rfl | rfl | rfl | rfl | rfl <;> rfl
      case c3 => unfold maxLen; omega
      case c4 => omega
      case c5 => simp; omega
      intro g5 cap6 w4 hown4 hgr hat hlt4
      have hwa : Below Wa.heap.size Wa (Wa.alloc (.cells #[.int .i64 r0, .int .i64 r1, .int .i64 r2, .int .i64 r3, .bool r4, .int .i64 k5, .int .i64 m5, .int .u64 b5, .string t5, .slice a5 n5 cap5] 42)) := (Below.refl _ _).alloc (Nat.le_refl _) _
      have hb2w := hb2a.trans (hwa.mono hb2a.size)
      have hat' : Value.ownBlock (.slice av j cv) = some g5 ∨ g5 = (Wa.alloc (.cells #[.int .i64 r0, .int .i64 r1, .int .i64 r2, .int .i64 r3, .bool r4, .int .i64 k5, .int .i64 m5, .int .u64 b5, .string t5, .slice a5 n5 cap5] 42)).heap.size := by simpa using hat
      have hsz4 : Wa.heap.size + 1 ≤ w4.heap.size := by have := hgr.size; simpa using this
      have hra4 : Row w4 w2.heap.size #[.int .i64 r0, .int .i64 r1, .int .i64 r2, .int .i64 r3, .bool r4, .int .i64 k5, .int .i64 m5, .int .u64 b5, .string t5, .slice a5 n5 cap5] 42 := (hra.later hwa).keep (hgr.block _ (hra.later hwa).lt (fun e => by have := hltr _ e.symm; omega))
      have hMlt := World.ownsRow.lt hM
      have hM4 : Made w4 W.heap.size (.slice ap j cp2) (downs 0 j) := (hM.below hb2w).carry (fun g' hg' => hgr.block g' (by have := hMlt g' hg'; have := hb2w.size; omega) (fun e => (HPr.out g' e.symm).2 (by rw [hg'])))
      have hM5 := hM4.below ((Below.refl w4.heap.size w4).alloc (Nat.le_refl _) (.cells #[.int .i64 j] 3))
      have hbw4 : Below W.heap.size W w4 := Below.grown (hbr.trans (hb2w.mono hzr)) hgr (by simp; omega) (fun r hr => (hltr r hr).1)
      clear q0 q1 q2 q3 q4 q5 q6 q7 q8 q9 hM
      go_wp2_with (at_builtin; refine wpList_append_made rfl (.tmp 23) (.tmp 24) 34 rfl W.heap.size 3 i3 Tryz.underlying34 hi3 hz3 hzs3 hzb3 w4.heap.size j rfl (World.ownsRow_lit w4 #[.int .i64 j] 1 (by omega) (by unfold maxLen; omega) rfl) W.heap.size (.slice ap j cp2) (downs 0 j) rfl hM5 (fun e => hM0 (by rw [downs_len] at e; exact e)) (by rw [downs_len]; omega) (by simp; omega) ?_)
      intro g6 cap7 w6 hown6 hgr6 hat6 hlt6
      rw [downs_len] at *
      have hsz6 : w4.heap.size + 1 ≤ w6.heap.size := by have := hgr6.size; simpa using this
      have hra6 : Row w6 w2.heap.size #[.int .i64 r0, .int .i64 r1, .int .i64 r2, .int .i64 r3, .bool r4, .int .i64 k5, .int .i64 m5, .int .u64 b5, .string t5, .slice a5 n5 cap5] 42 := (hra4.old (.cells #[.int .i64 j] 3)).keep (hgr6.block _ (hra4.old _).lt (fun e => by have := Option.some.inj e; have := hra4.lt; omega))
      have hbw6 : Below W.heap.size W w6 := Below.grown (hbw4.alloc hbw4.size _) hgr6 (by simp; omega) (fun r hr => by have := Option.some.inj hr; omega)
      have q0 : w6.cell? ⟨w2.heap.size, 0, none⟩ = some (.int .i64 r0) := hra6.cell 0 rfl
      have hgB : W.heap.size ≤ g5 := by
        rcases hat' with e | e
        · exact (hltr _ e).1
        · simp at e; omega
      have hgP : some g5 ≠ Value.ownBlock (.slice ap j cp2) := by
        rcases hat' with e | e
        · exact (HPr.out _ e).2
        · intro e2
          have := hMlt g5 e2.symm
          simp at e; omega
      have hR6 : OwnR w6 W.heap.size (fun b => W.heap.size ≤ b ∧ some b ≠ Value.ownBlock (.slice (some ⟨g6, 0, none⟩) (j + 1) cap7)) (.slice (some ⟨g5, 0, none⟩) (j + 1) cap6) ((xs.map outA).take (j + 1)) := by
        rw [HTK.out]
        have hat6' : g6 = w4.heap.size ∨ g6 = (w4.alloc (.cells #[.int .i64 j] 3)).heap.size := by simpa using hat6
        have := OwnR.both (g6 := g6) (vp := .slice ap j cp2) (n6 := j + 1) (cap7 := cap7) (fun i x hx => (HKK.out i x hx).later hb2w) ((hga.later hwa).carry (fun b hq hl => ⟨rfl, ⟨by omega, fun e => by have := hMlt b e.symm; omega⟩, fun e => by have := hltr _ e.symm; omega⟩) (Nat.le_refl _)) (by rw [htl]; exact hown4) hgr hat' hgB hgP hgr6 hat6'
        rw [htl] at this
        exact this
      have hM6 : Made w6 W.heap.size (.slice (some ⟨g6, 0, none⟩) (j + 1) cap7) (downs 0 (j + 1)) := by
        rw [downs_zero]
        unfold Made
        rw [List.length_cons, downs_len]
        exact hown6
      clear hown4 hown6 hgr hgr6 hat hat6 HKK hown hownA
      rcases hga.errno with ⟨hp, rfl⟩ | ⟨hp, hr0⟩
      · go_wp2_with fail
        go_ret2
        have hfin : runO (xs.map outA) = (xs.map outA).take (j + 1) := by rw [HRO.out, HDR.out, if_pos hp, HTK.out]
        rw [hfin, show ((xs.map outA).take (j + 1)).length = j + 1 by simp; omega]
        exact ⟨_, _, rfl, hR6.carry (fun b hq hl => ⟨rfl, hq.1⟩) (Nat.le_refl _), hM6, hbw6⟩
      · have hne : (r0 == 110) = false := by rcases hr0 with rfl | rfl <;> rfl
        have hfin : runO (xs.map outA) = (xs.map outA).take (j + 1) ++ runO ((xs.map outA).drop (j + 1)) := by rw [HRO.out, HDR.out, if_neg (by rw [hp]; decide), HTK.out, List.append_assoc]; rfl
        go_wp2_with fail
        go_roundw
        case rel => exact ⟨j + 1, by omega, by go_num, hR6, hM6, (fun h => absurd h (by omega)), hfin, hbw6⟩
        case measure => simp [intOf]; omega
    · obtain rfl : j = xs.length := by omega
      have hfin : runO (xs.map outA) = (xs.map outA).take xs.length := by
        rw [HRO.out, show (xs.map outA).drop xs.length = [] by rw [List.drop_eq_nil_iff]; omega]
        exact List.append_nil _
      go_wp2_with fail
      go_ret2
      rw [hfin, htl]
      exact ⟨_, _, rfl, hR.carry (fun b hq hl => ⟨rfl, hq.1⟩) (Nat.le_refl _), hM, hbr⟩
end Go.Proofs.YteplhhlgceppkabGreat
