/- Shape: sums of floats; a value added to itself; double. -/
import Derived.Test.YtecdniimikfbhaaGreatDoorU1
import Derived.Laws.FloatArith
namespace Go.Proofs.YtecdniimikfbhaaGreatDoor
open Go Go.RowKit Go.ChangeShapes Go.WideShapes

/-- Is it a number, by its bits? -/
def isNum (r : Nat) : Bool := FloatKind.f64.format.order r r == some Ordering.eq
/-- The sum of two floats, by their bits: of none, one and the same pattern. -/
def fsum (x y : Nat) : Nat := match FloatKind.f64.format.add x y with
  | some r => if isNum r = true then r else 9221120237041090561
  | none => 9221120237041090561
theorem isNum_none {c : Nat} (h1 : 9218868437227405312 < c % 9223372036854775808) : isNum c = false := by
  have h : FloatKind.f64.format.read c = .nan (c / FloatKind.f64.format.signWeight % 2 == 1) (c % FloatKind.f64.format.signWeight - FloatKind.f64.format.infRung) := by
    unfold Ieee.Format.read
    have e1 : FloatKind.f64.format.signWeight = 9223372036854775808 := by decide
    have e2 : FloatKind.f64.format.binade = 4503599627370496 := by decide
    have e3 : FloatKind.f64.format.infRung = 9218868437227405312 := by decide
    simp only [e1, e2, e3]
    rw [if_neg (by omega), if_neg (by omega), if_neg (by omega)]
  unfold isNum Ieee.Format.order
  rw [h]
  rfl
theorem isNum_const : isNum 9221120237041090561 = false := isNum_none (by decide)
theorem fsum_lt (x y : Nat) : fsum x y < 18446744073709551616 := by
  unfold fsum
  cases h : FloatKind.f64.format.add x y with
  | none => decide
  | some r =>
    have hr : r < 2 ^ FloatKind.f64.format.width := FloatKind.f64.format.add_lt h
    have e : (2 : Nat) ^ FloatKind.f64.format.width = 18446744073709551616 := by decide
    rw [e] at hr
    simp only
    split
    · exact hr
    · decide
theorem fsum_wf (x y : Nat) : (Lit.int .u64 (fsum x y : Nat)).wf = true := by
  have h := fsum_lt x y
  have h1 : IntKind.u64.min = 0 := by decide
  have h2 : IntKind.u64.max = 18446744073709551615 := by decide
  simp [Lit.wf, h1, h2]
  omega
theorem fsum_const {x y : Nat} (h : isNum (fsum x y) = false) : fsum x y = 9221120237041090561 := by
  unfold fsum at h ⊢
  cases hr : FloatKind.f64.format.add x y with
  | none => rfl
  | some r =>
    rw [hr] at h
    simp only at h ⊢
    split
    · rename_i h1; rw [if_pos h1, h1] at h; cases h
    · rfl
/-- What a sum is, in any world: a number's bits, or bits of none. -/
theorem fadd_run (P : Program) (x y : Nat) : ∃ (F : World → Nat) (G : World → World), (∀ (t : TypeId) (w : World), (binOp .add t (.float .f64 x) (.float .f64 y)).run P w = .ok (.float .f64 (F w)) (G w)) ∧ (∀ w, (if isNum (F w) = true then F w else 9221120237041090561) = fsum x y) ∧ ∀ w, Below w.heap.size w (G w) := by
  cases h : FloatKind.f64.format.add x y with
  | some r =>
    refine ⟨fun _ => r, fun w => w, fun t w => run_float_arith w .add t .f64 x y r h, fun w => ?_, fun w => Below.refl _ _⟩
    unfold fsum
    rw [h]
  | none =>
    refine ⟨fun w => (Question.nanBits .f64 x y).cut (w.tape w.drawn (Question.nanBits .f64 x y)), fun w => w.drew, fun t w => ?_, fun w => ?_, fun w => by go_grown⟩
    · simp [binOp, Op.floatArith, h, Question.forced]
    · unfold fsum
      rw [h]
      simp only
      rw [if_neg]
      rw [Bool.not_eq_true]
      generalize w.tape w.drawn (Question.nanBits .f64 x y) = z
      refine isNum_none ?_
      show 9218868437227405312 < ((z % 2) * 2 ^ 63 + 9218868437227405312 + 1 + (z / 2) % (2 ^ 52 - 1)) % 9223372036854775808
      have h1 : z % 2 = 0 ∨ z % 2 = 1 := by omega
      have h2 : z / 2 % (2 ^ 52 - 1) < 2 ^ 52 - 1 := Nat.mod_lt _ (by decide)
      generalize z / 2 % (2 ^ 52 - 1) = y at h2
      rcases h1 with h1 | h1 <;> rw [h1] <;> omega

theorem fa_3 (v : Value) (w : World) : (Instr.typeAssert (.iface 98 v) 20 98 true).run Tryz.prog w = .ok (.tuple #[v, .bool true]) w := by kernel_rfl
theorem fn_3 (v : Value) (w : World) : (Instr.typeAssert (.iface 98 v) 20 116 true).run Tryz.prog w = .ok (.tuple #[.int .i64 0, .bool false]) w := by kernel_rfl
theorem ma_3 (v : Value) (w : World) : (method 350 98 v "conduit/datum.add").run Tryz.prog w = .ok (131, v) w := by kernel_rfl
theorem ca_3 (v u : Value) (w : World) : (callFunc 131 #[v, u]).run Tryz.prog w = .ok (.enter 131 #[v, u]) w := by kernel_rfl
theorem na_3 (m : Nat) (w : World) : (nilAhead 350 98 (.float .f64 m) "conduit/datum.add").run Tryz.prog w = .ok (some false) w := by kernel_rfl
theorem fb_3 (x : Nat) (w : World) : (callFunc 35 #[.float .f64 x]).run Tryz.prog w = .ok (.value (.int .u64 x)) w := by kernel_rfl
theorem ff_3 (w : World) : (callFunc 34 #[.int .u64 9221120237041090561]).run Tryz.prog w = .ok (.value (.float .f64 9221120237041090561)) w := by kernel_rfl
attribute [local go_sem] fa_3 fn_3 ma_3 ca_3 na_3 fb_3 ff_3 ta_1 ta_3 tn_1 tfl_1 ma_1 ca_1 na_1

set_option maxRecDepth 100000 in
set_option maxHeartbeats 800000 in
theorem fladd_any (x y : Nat) (w : World) : Calls Tryz.prog 131 #[.float .f64 x, .iface 98 (.float .f64 y)] w fun e w' => e = .returned (.tuple #[.iface 98 (.float .f64 (fsum x y)), .bool true]) ∧ Below w.heap.size w w' := by
  obtain ⟨F, G, hrun, hF, hG⟩ := fadd_run Tryz.prog x y
  obtain ⟨z, hz⟩ : ∃ z, z = fsum x y := ⟨_, rfl⟩
  have hFw := hF w
  rw [← hz] at hFw ⊢
  have HG := Lib.hid (hG w)
  clear hF hG hz
  go_enter Tryz.func131, Tryz.ntmps131
  cases hn : isNum (F w)
  · rw [hn] at hFw
    simp at hFw
    unfold isNum at hn
    subst hFw
    go_wp2_with fail
    go_ret2
    exact ⟨rfl, HG.out⟩
  · rw [hn] at hFw
    simp at hFw
    unfold isNum at hn
    subst hFw
    go_wp2_with fail
    go_ret2
    exact ⟨rfl, HG.out⟩

/-- A float's Datum. -/
def fltD (n : Nat) : D := .mk 3 0 n ⟨#[]⟩ []
def fltV (n : Nat) : Value := .agg #[.int .i64 3, .int .i64 0, .int .u64 n, .string ⟨#[]⟩, .slice none 0 0]
set_option maxRecDepth 100000 in
set_option maxHeartbeats 800000 in
theorem plain_3 (a : Nat) (w : World) : Calls Tryz.prog 69 #[.iface 98 (.float .f64 a)] w fun x w' => x = .returned (fltV a) ∧ Below w.heap.size w w' := by
  obtain ⟨W1, hW1, hb1, hx1⟩ := boxes1r w (.int .i64 0) (.int .i64 0) (.int .u64 0) (.string ⟨#[]⟩) (.slice none 0 0)
  have q0 : W1.cell? ⟨w.heap.size, 0, none⟩ = some (.int .i64 0) := hx1.cell 0 rfl
  have fq0 := hx1.thaw 0
  have q1 : W1.cell? ⟨w.heap.size, 1, none⟩ = some (.int .i64 0) := hx1.cell 1 rfl
  have fq1 := hx1.thaw 1
  have q2 : W1.cell? ⟨w.heap.size, 2, none⟩ = some (.int .u64 0) := hx1.cell 2 rfl
  have fq2 := hx1.thaw 2
  have q3 : W1.cell? ⟨w.heap.size, 3, none⟩ = some (.string ⟨#[]⟩) := hx1.cell 3 rfl
  have fq3 := hx1.thaw 3
  have q4 : W1.cell? ⟨w.heap.size, 4, none⟩ = some (.slice none 0 0) := hx1.cell 4 rfl
  have fq4 := hx1.thaw 4
  go_enter Tryz.func69, Tryz.ntmps69
  go_upto_region 1 with fail
  rw [← hW1]
  clear hW1
  go_wp2_with fail
  exact bodyPost_ret (results_cell_row rfl _ _ w.heap.size 25 _ (0, 0) _ rfl (hx1.box.set5 _ _ _ _ _) Tryz.underlying25 rfl (by kernel_rfl)) rfl ⟨rfl, set5_below hb1 (Nat.le_refl _)⟩

set_option maxRecDepth 100000 in
set_option maxHeartbeats 3200000 in
theorem dadd_int (m b : Int) (t : ByteArray) (a : Option Addr) (l cap : Nat) (w : World) : Calls Tryz.prog 58 #[(.agg #[.int .i64 1, .int .i64 m, .int .u64 b, .string t, .slice a l cap]), (.agg #[.int .i64 1, .int .i64 m, .int .u64 b, .string t, .slice a l cap])] w fun x w' => x = .returned (.tuple #[numV (wrap64 (m + m)), .int .i64 0]) ∧ Below w.heap.size w w' := by
  obtain ⟨W1, hW1, hb1, hz, hx1, hx2, hx3⟩ := add_worlds w (.int .i64 1) (.int .i64 m) (.int .u64 b) (.string t) (.slice a l cap) (.int .i64 1) (.int .i64 m) (.int .u64 b) (.string t) (.slice a l cap)
  have hmm := @run_makeMap Tryz.prog
  have p0 : W1.cell? ⟨w.heap.size, 0, none⟩ = some (.int .i64 1) := hx1.cell 0 rfl
  have p1 : W1.cell? ⟨w.heap.size, 1, none⟩ = some (.int .i64 m) := hx1.cell 1 rfl
  have p2 : W1.cell? ⟨w.heap.size, 2, none⟩ = some (.int .u64 b) := hx1.cell 2 rfl
  have p3 : W1.cell? ⟨w.heap.size, 3, none⟩ = some (.string t) := hx1.cell 3 rfl
  have p4 : W1.cell? ⟨w.heap.size, 4, none⟩ = some (.slice a l cap) := hx1.cell 4 rfl
  go_enter Tryz.func58, Tryz.ntmps58
  go_upto_region 2 with fail
  rw [← hW1]
  clear hW1
  go_wp2_with fail
  refine (val_1 _ _ _ _ _ _).mono ?_
  rintro e w2 ⟨rfl, hb2⟩
  have hy2 := hx2.later hb2
  have hy3 := hx3.later hb2
  have hbw2 := hb1.trans (hb2.mono hb1.size)
  have hzz := hz.out
  have hz2 := hb2.size
  clear p0 p1 p2 p3 p4
  have q0 : w2.cell? ⟨w.heap.size + 1, 0, none⟩ = some (.int .i64 1) := hy2.cell 0 rfl
  have q1 : w2.cell? ⟨w.heap.size + 1, 1, none⟩ = some (.int .i64 m) := hy2.cell 1 rfl
  have q2 : w2.cell? ⟨w.heap.size + 1, 2, none⟩ = some (.int .u64 b) := hy2.cell 2 rfl
  have q3 : w2.cell? ⟨w.heap.size + 1, 3, none⟩ = some (.string t) := hy2.cell 3 rfl
  have q4 : w2.cell? ⟨w.heap.size + 1, 4, none⟩ = some (.slice a l cap) := hy2.cell 4 rfl
  dsimp only
  go_upto_region 5 with fail
  go_cut [9, 10] (fun s9 s10 wc => s9 = .iface 116 (.int .i64 (wrap64 (m + m))) ∧ s10 = .bool true ∧ Below w2.heap.size w2 wc)
  case first =>
    have hdr : Below w2.heap.size w2 w2.drew := by go_grown
    go_region_with (first | (go_at_call 68; refine (val_1 _ _ _ _ _ _).mono ?_; rintro e w3 ⟨rfl, hb3'⟩; have hb3 := hdr.trans (hb3'.mono hdr.size); dsimp only) | ((refine (nadd_any _ _ _).mono ?_); rintro e w4 ⟨rfl, rfl⟩; dsimp only))
    all_goals (go_wp2_with fail; go_meet; exact ⟨rfl, rfl, hb3⟩)
  case rest =>
    obtain ⟨rfl, rfl, hbc⟩ := hcut
    have hu3 := hy3.later hbc
    have hbwc := hbw2.trans (hbc.mono hbw2.size)
    clear q0 q1 q2 q3 q4
    go_wp2_with fail
    refine (plain_1 _ _).mono ?_
    rintro e w5 ⟨rfl, hb5⟩
    have hu5 := hu3.later hb5
    have hbw5 := hbwc.trans (hb5.mono hbwc.size)
    have u0 : w5.cell? ⟨w.heap.size + 2, 0, none⟩ = some (.int .i64 0) := hu5.cell 0 rfl
    have fu0 := hu5.thaw 0
    have u1 : w5.cell? ⟨w.heap.size + 2, 1, none⟩ = some (.int .i64 0) := hu5.cell 1 rfl
    have fu1 := hu5.thaw 1
    have u2 : w5.cell? ⟨w.heap.size + 2, 2, none⟩ = some (.int .u64 0) := hu5.cell 2 rfl
    have fu2 := hu5.thaw 2
    have u3 : w5.cell? ⟨w.heap.size + 2, 3, none⟩ = some (.string ⟨#[]⟩) := hu5.cell 3 rfl
    have fu3 := hu5.thaw 3
    have u4 : w5.cell? ⟨w.heap.size + 2, 4, none⟩ = some (.slice none 0 0) := hu5.cell 4 rfl
    have fu4 := hu5.thaw 4
    unfold numV
    dsimp only
    go_wp2_with fail
    exact bodyPost_ret (add_end (hu5.box.set5 _ _ _ _ _) rfl rfl) rfl ⟨rfl, set5_below hbw5 (by omega)⟩
set_option maxRecDepth 100000 in
set_option maxHeartbeats 3200000 in
theorem dadd_flt (m b : Int) (t : ByteArray) (a : Option Addr) (l cap : Nat) (w : World) : Calls Tryz.prog 58 #[(.agg #[.int .i64 3, .int .i64 m, .int .u64 b, .string t, .slice a l cap]), (.agg #[.int .i64 3, .int .i64 m, .int .u64 b, .string t, .slice a l cap])] w fun x w' => x = .returned (.tuple #[fltV (fsum b.toNat b.toNat), .int .i64 0]) ∧ Below w.heap.size w w' := by
  obtain ⟨s, hs⟩ : ∃ s, s = fsum b.toNat b.toNat := ⟨_, rfl⟩
  have hcs : isNum s = false → s = 9221120237041090561 := by rw [hs]; exact fsum_const
  have HA := Lib.hid (fun W => fladd_any b.toNat b.toNat W)
  rw [← hs] at HA ⊢
  clear hs
  obtain ⟨W1, hW1, hb1, hz, hx1, hx2, hx3⟩ := add_worlds w (.int .i64 3) (.int .i64 m) (.int .u64 b) (.string t) (.slice a l cap) (.int .i64 3) (.int .i64 m) (.int .u64 b) (.string t) (.slice a l cap)
  have hmm := @run_makeMap Tryz.prog
  have p0 : W1.cell? ⟨w.heap.size, 0, none⟩ = some (.int .i64 3) := hx1.cell 0 rfl
  have p1 : W1.cell? ⟨w.heap.size, 1, none⟩ = some (.int .i64 m) := hx1.cell 1 rfl
  have p2 : W1.cell? ⟨w.heap.size, 2, none⟩ = some (.int .u64 b) := hx1.cell 2 rfl
  have p3 : W1.cell? ⟨w.heap.size, 3, none⟩ = some (.string t) := hx1.cell 3 rfl
  have p4 : W1.cell? ⟨w.heap.size, 4, none⟩ = some (.slice a l cap) := hx1.cell 4 rfl
  go_enter Tryz.func58, Tryz.ntmps58
  go_upto_region 2 with fail
  rw [← hW1]
  clear hW1
  go_wp2_with fail
  refine (val_3 _ _ _ _ _ _).mono ?_
  rintro e w2 ⟨rfl, hb2⟩
  have hy2 := hx2.later hb2
  have hy3 := hx3.later hb2
  have hbw2 := hb1.trans (hb2.mono hb1.size)
  have hzz := hz.out
  have hz2 := hb2.size
  clear p0 p1 p2 p3 p4
  have q0 : w2.cell? ⟨w.heap.size + 1, 0, none⟩ = some (.int .i64 3) := hy2.cell 0 rfl
  have q1 : w2.cell? ⟨w.heap.size + 1, 1, none⟩ = some (.int .i64 m) := hy2.cell 1 rfl
  have q2 : w2.cell? ⟨w.heap.size + 1, 2, none⟩ = some (.int .u64 b) := hy2.cell 2 rfl
  have q3 : w2.cell? ⟨w.heap.size + 1, 3, none⟩ = some (.string t) := hy2.cell 3 rfl
  have q4 : w2.cell? ⟨w.heap.size + 1, 4, none⟩ = some (.slice a l cap) := hy2.cell 4 rfl
  dsimp only
  go_upto_region 5 with fail
  go_cut [9, 10] (fun s9 s10 wc => s9 = .iface 98 (.float .f64 s) ∧ s10 = .bool true ∧ Below w2.heap.size w2 wc)
  case first =>
    have hdr : Below w2.heap.size w2 w2.drew := by go_grown
    go_region_with (first | (go_at_call 68; refine (val_3 _ _ _ _ _ _).mono ?_; rintro e w3 ⟨rfl, hb3'⟩; have hb3 := hdr.trans (hb3'.mono hdr.size); dsimp only) | ((refine (HA.out _).mono ?_); rintro e w4 ⟨rfl, hb4⟩; dsimp only))
    all_goals (go_wp2_with fail; go_meet; exact ⟨rfl, rfl, hb3.trans (hb4.mono hb3.size)⟩)
  case rest =>
    obtain ⟨rfl, rfl, hbc⟩ := hcut
    have hu3 := hy3.later hbc
    have hbwc := hbw2.trans (hbc.mono hbw2.size)
    clear q0 q1 q2 q3 q4
    clear HA
    cases hn : isNum s
    · have hc := hcs hn
      clear hcs
      subst hc
      unfold isNum at hn
      have u0 : wc.cell? ⟨w.heap.size + 2, 0, none⟩ = some (.int .i64 0) := hu3.cell 0 rfl
      have fu0 := hu3.thaw 0
      have u1 : wc.cell? ⟨w.heap.size + 2, 1, none⟩ = some (.int .i64 0) := hu3.cell 1 rfl
      have fu1 := hu3.thaw 1
      have u2 : wc.cell? ⟨w.heap.size + 2, 2, none⟩ = some (.int .u64 0) := hu3.cell 2 rfl
      have fu2 := hu3.thaw 2
      have u3 : wc.cell? ⟨w.heap.size + 2, 3, none⟩ = some (.string ⟨#[]⟩) := hu3.cell 3 rfl
      have fu3 := hu3.thaw 3
      have u4 : wc.cell? ⟨w.heap.size + 2, 4, none⟩ = some (.slice none 0 0) := hu3.cell 4 rfl
      have fu4 := hu3.thaw 4
      go_wp2_with fail
      exact bodyPost_ret (add_end (hu3.box.set5 _ _ _ _ _) rfl rfl) rfl ⟨rfl, set5_below hbwc (by omega)⟩
    · clear hcs
      unfold isNum at hn
      have hn2 : (FloatKind.f64.format.order s s != some Ordering.eq) = false := by rw [bne, hn]; rfl
      clear hn
      go_wp2_with fail
      refine (plain_3 _ _).mono ?_
      rintro e w5 ⟨rfl, hb5⟩
      have hu5 := hu3.later hb5
      have hbw5 := hbwc.trans (hb5.mono hbwc.size)
      have u0 : w5.cell? ⟨w.heap.size + 2, 0, none⟩ = some (.int .i64 0) := hu5.cell 0 rfl
      have fu0 := hu5.thaw 0
      have u1 : w5.cell? ⟨w.heap.size + 2, 1, none⟩ = some (.int .i64 0) := hu5.cell 1 rfl
      have fu1 := hu5.thaw 1
      have u2 : w5.cell? ⟨w.heap.size + 2, 2, none⟩ = some (.int .u64 0) := hu5.cell 2 rfl
      have fu2 := hu5.thaw 2
      have u3 : w5.cell? ⟨w.heap.size + 2, 3, none⟩ = some (.string ⟨#[]⟩) := hu5.cell 3 rfl
      have fu3 := hu5.thaw 3
      have u4 : w5.cell? ⟨w.heap.size + 2, 4, none⟩ = some (.slice none 0 0) := hu5.cell 4 rfl
      have fu4 := hu5.thaw 4
      unfold fltV
      dsimp only
      go_wp2_with fail
      exact bodyPost_ret (add_end (hu5.box.set5 _ _ _ _ _) rfl rfl) rfl ⟨rfl, set5_below hbw5 (by omega)⟩
end Go.Proofs.YtecdniimikfbhaaGreatDoor
