/- Shape: contract of datum's Label. -/
import Derived.Test.YtecdniimikfbhaaGreatDoorT1
import Derived.Test.YtecdniimikfbhaaGreatDoorM10
import Derived.Stop.Asserts
namespace Go.Proofs.YtecdniimikfbhaaGreatDoor
open Go Go.RowKit Go.ChangeShapes Go.WideShapes

theorem tl_1 (v : Value) (w : World) : (Instr.typeAssert (.iface 116 v) 20 106 true).run Tryz.prog w = .ok (.tuple #[.nilIface, .bool false]) w := run_typeAssert_lacksB Tryz.underlying106 (by kernel_rfl) (by kernel_rfl) v _ w
theorem tl_2 (v : Value) (w : World) : (Instr.typeAssert (.iface 117 v) 20 106 true).run Tryz.prog w = .ok (.tuple #[.iface 117 v, .bool true]) w := by kernel_rfl
theorem tl_3 (v : Value) (w : World) : (Instr.typeAssert (.iface 98 v) 20 106 true).run Tryz.prog w = .ok (.tuple #[.nilIface, .bool false]) w := run_typeAssert_lacksB Tryz.underlying106 (by kernel_rfl) (by kernel_rfl) v _ w
theorem tl_4 (v : Value) (w : World) : (Instr.typeAssert (.iface 118 v) 20 106 true).run Tryz.prog w = .ok (.tuple #[.nilIface, .bool false]) w := run_typeAssert_lacksB Tryz.underlying106 (by kernel_rfl) (by kernel_rfl) v _ w
theorem tl_5 (v : Value) (w : World) : (Instr.typeAssert (.iface 119 v) 20 106 true).run Tryz.prog w = .ok (.tuple #[.iface 119 v, .bool true]) w := by kernel_rfl
theorem tl_6 (v : Value) (w : World) : (Instr.typeAssert (.iface 120 v) 20 106 true).run Tryz.prog w = .ok (.tuple #[.nilIface, .bool false]) w := run_typeAssert_lacksB Tryz.underlying106 (by kernel_rfl) (by kernel_rfl) v _ w
theorem tl_7 (v : Value) (w : World) : (Instr.typeAssert (.iface 121 v) 20 106 true).run Tryz.prog w = .ok (.tuple #[.nilIface, .bool false]) w := run_typeAssert_lacksB Tryz.underlying106 (by kernel_rfl) (by kernel_rfl) v _ w
theorem tl_8 (v : Value) (w : World) : (Instr.typeAssert (.iface 123 v) 20 106 true).run Tryz.prog w = .ok (.tuple #[.nilIface, .bool false]) w := run_typeAssert_lacksB Tryz.underlying106 (by kernel_rfl) (by kernel_rfl) v _ w
theorem tl_9 (v : Value) (w : World) : (Instr.typeAssert (.iface 126 v) 20 106 true).run Tryz.prog w = .ok (.tuple #[.nilIface, .bool false]) w := run_typeAssert_lacksB Tryz.underlying106 (by kernel_rfl) (by kernel_rfl) v _ w
theorem tl_10 (v : Value) (w : World) : (Instr.typeAssert (.iface 128 v) 20 106 true).run Tryz.prog w = .ok (.tuple #[.iface 128 v, .bool true]) w := by kernel_rfl
theorem tl_11 (v : Value) (w : World) : (Instr.typeAssert (.iface 129 v) 20 106 true).run Tryz.prog w = .ok (.tuple #[.nilIface, .bool false]) w := run_typeAssert_lacksB Tryz.underlying106 (by kernel_rfl) (by kernel_rfl) v _ w
theorem tl_13 (v : Value) (w : World) : (Instr.typeAssert (.iface 133 v) 20 106 true).run Tryz.prog w = .ok (.tuple #[.nilIface, .bool false]) w := run_typeAssert_lacksB Tryz.underlying106 (by kernel_rfl) (by kernel_rfl) v _ w
theorem tl_0 (w : World) : (Instr.typeAssert .nilIface 20 106 true).run Tryz.prog w = .ok (.tuple #[.nilIface, .bool false]) w := by kernel_rfl

/-- A value that has no name. -/
def NoName (u : Value) : Prop := ∀ w, (Instr.typeAssert u 20 106 true).run Tryz.prog w = .ok (.tuple #[.nilIface, .bool false]) w
set_option maxRecDepth 100000 in
set_option maxHeartbeats 800000 in
theorem label_no {w0 : World} {k m b : Int} {t : ByteArray} {a : Option Addr} {l cap : Nat} {d : D} (hv : Rep w0 (.agg #[.int .i64 k, .int .i64 m, .int .u64 b, .string t, .slice a l cap]) d) (hR : Right d) (hp : d.parts ≤ 4096) (hu : ∀ F u, IV F d u → NoName u) (w : World) (hb0 : Below w0.heap.size w0 w) :
    Calls Tryz.prog 63 #[.agg #[.int .i64 k, .int .i64 m, .int .u64 b, .string t, .slice a l cap]] w fun x w' => x = .returned (.tuple #[.string ⟨#[]⟩, .int .i64 12]) ∧ Below w.heap.size w w' := by
  have HV := Lib.hid (fun w M n F hb hw0 hbx hn => value_any hv hR w M n F hb hw0 hbx hn)
  have HB := Lib.hid hb0
  have HP := Lib.hid hp
  have HU := Lib.hid hu
  clear hv hR hp hb0 hu
  obtain ⟨W1, hW1, hb1, hz, hx1, hbx⟩ := len_worlds w (.int .i64 k) (.int .i64 m) (.int .u64 b) (.string t) (.slice a l cap)
  have hmm := @run_makeMap Tryz.prog
  go_enter Tryz.func63, Tryz.ntmps63
  go_wp2_with fail
  rw [← hW1]
  clear hW1
  refine (HV.out W1 (w.heap.size + 1) 0 _ (HB.out.trans (hb1.mono HB.out.size)) (by have := HB.out.size; omega) hbx (by have := HP.out; omega)).mono ?_
  rintro e w2 ⟨u, F1, n1, rfl, hiv, hbx2, hn2, hst⟩
  have hts := HU.out _ _ hiv
  unfold NoName at hts
  clear hiv
  dsimp only
  go_wp2_with fail
  go_ret2
  exact ⟨rfl, hb1.trans (hst.below.mono (by omega))⟩

/-- A value of a type with a name. -/
structure HasName (T : TypeId) (f : FuncId) (z : Value) (P : ByteArray → Prop) (w0 : World) : Prop where
  asserts : ∀ w, (Instr.typeAssert (.iface T z) 20 106 true).run Tryz.prog w = .ok (.tuple #[.iface T z, .bool true]) w
  meth : ∀ w, (method 350 T z "conduit/datum.name").run Tryz.prog w = .ok (f, z) w
  enter : ∀ w, (callFunc f #[z]).run Tryz.prog w = .ok (.enter f #[z]) w
  name : ∀ w, Below w0.heap.size w0 w → Calls Tryz.prog f #[z] w fun x w' => ∃ t, x = .returned (.string t) ∧ P t ∧ Below w.heap.size w w'
/-- What stands behind a call of Label. -/
def LabelPost (P : ByteArray → Prop) (w : World) (x : Ending) (w' : World) : Prop := ∃ s, x = .returned (.tuple #[.string s, .int .i64 0]) ∧ P s ∧ Below w.heap.size w w'
set_option maxRecDepth 100000 in
set_option maxHeartbeats 800000 in
theorem label_yes {w0 : World} {k m b : Int} {t : ByteArray} {a : Option Addr} {l cap : Nat} {d : D} (hv : Rep w0 (.agg #[.int .i64 k, .int .i64 m, .int .u64 b, .string t, .slice a l cap]) d) (hR : Right d) (hp : d.parts ≤ 4096) (T : TypeId) (f : FuncId) (P : ByteArray → Prop) (w : World) (hb0 : Below w0.heap.size w0 w) (hu : ∀ F u, IV F d u → ∃ z, u = .iface T z ∧ HasName T f z P w) :
    Calls Tryz.prog 63 #[.agg #[.int .i64 k, .int .i64 m, .int .u64 b, .string t, .slice a l cap]] w fun x w' => LabelPost P w x w' := by
  have HV := Lib.hid (fun w M n F hb hw0 hbx hn => value_any hv hR w M n F hb hw0 hbx hn)
  have HB := Lib.hid hb0
  have HP := Lib.hid hp
  have HU := Lib.hid hu
  clear hv hR hp hb0 hu
  obtain ⟨W1, hW1, hb1, hz, hx1, hbx⟩ := len_worlds w (.int .i64 k) (.int .i64 m) (.int .u64 b) (.string t) (.slice a l cap)
  have hmm := @run_makeMap Tryz.prog
  go_enter Tryz.func63, Tryz.ntmps63
  go_wp2_with fail
  rw [← hW1]
  clear hW1
  refine (HV.out W1 (w.heap.size + 1) 0 _ (HB.out.trans (hb1.mono HB.out.size)) (by have := HB.out.size; omega) hbx (by have := HP.out; omega)).mono ?_
  rintro e w2 ⟨u, F1, n1, rfl, hiv, hbx2, hn2, hst⟩
  obtain ⟨z, rfl, hS⟩ := HU.out _ _ hiv
  have hts := hS.asserts
  have hme := hS.meth
  have hen := hS.enter
  have hbw2 : Below w.heap.size w w2 := hb1.trans (hst.below.mono (by omega))
  have HS := Lib.hid (fun W hW => hS.name W hW)
  clear hiv hS
  dsimp only
  go_wp2_with ((refine (HS.out _ (by assumption)).mono ?_); rintro e w3 ⟨s, rfl, hPs, hb3⟩)
  go_ret2
  exact ⟨s, rfl, hPs, hbw2.trans (hb3.mono hbw2.size)⟩

set_option maxRecDepth 100000 in
theorem name_name (t : ByteArray) (w : World) : Calls Tryz.prog 137 #[.string t] w fun x w' => x = .returned (.string t) ∧ w = w' := by
  go_enter Tryz.func137, Tryz.ntmps137
  go_wp2_with fail
  go_ret
  exact ⟨rfl, rfl⟩
set_option maxRecDepth 100000 in
theorem failure_name (m : Int) (t : ByteArray) (w : World) : Calls Tryz.prog 143 #[.agg #[.int .i64 m, .string t]] w fun x w' => x = .returned (.string t) ∧ Below w.heap.size w w' := by
  go_enter Tryz.func143, Tryz.ntmps143
  go_wp2_with fail
  go_ret
  exact ⟨rfl, by go_grown⟩
set_option maxRecDepth 100000 in
theorem key_name {P : ByteArray → Prop} (hP : ∀ s, P s → s.size ≤ 65531) (m : Int) (w : World) (HF : ∀ W, Below w.heap.size w W → Calls Tryz.prog 55 #[.int .i64 m, .int .i64 10] W fun x w' => ∃ s, x = .returned (.string s) ∧ P s ∧ Below W.heap.size W w') : Calls Tryz.prog 135 #[.int .i64 m] w fun x w' => ∃ s, x = .returned (.string (⟨#[107, 101, 121, 32]⟩ ++ s)) ∧ P s ∧ Below w.heap.size w w' := by
  have HH := Lib.hid HF
  have HPP := Lib.hid hP
  clear HF hP
  go_enter Tryz.func135, Tryz.ntmps135
  go_wp2_with (go_at_call 55; refine (HH.out _ (Below.refl _ _)).mono ?_; rintro e w2 ⟨s, rfl, hPs, hb2⟩; have hsz : ¬ 9223372036854775807 < 4 + s.size := (by have := HPP.out s hPs; omega))
  go_ret
  exact ⟨s, rfl, hPs, hb2⟩

/-- Who has a name. -/
def namedK (d : D) : Bool := decide (d.kind = 2) || decide (d.kind = 5) || decide (d.kind = 10)
theorem label_none {w0 : World} {k m b : Int} {t : ByteArray} {a : Option Addr} {l cap : Nat} {d : D} (hv : Rep w0 (.agg #[.int .i64 k, .int .i64 m, .int .u64 b, .string t, .slice a l cap]) d) (hR : Right d) (hp : d.parts ≤ 4096) (hn : namedK d = false) (w : World) (hb0 : Below w0.heap.size w0 w) :
    Calls Tryz.prog 63 #[.agg #[.int .i64 k, .int .i64 m, .int .u64 b, .string t, .slice a l cap]] w fun x w' => x = .returned (.tuple #[.string ⟨#[]⟩, .int .i64 12]) ∧ Below w.heap.size w w' := by
  refine label_no hv hR hp (fun F u hu w => ?_) w hb0
  cases hu with
  | nil m b t l => exact tl_0 w
  | int m b t l => exact tl_1 _ w
  | key m b t l => cases hn
  | float m b t l => exact tl_3 _ w
  | text m b t l => exact tl_4 _ w
  | name m b t l => cases hn
  | bool m b t l => exact tl_6 _ w
  | bytes m b t l a c => exact tl_7 _ w
  | list m b t l a c => exact tl_8 _ w
  | pair m b t x y u v hx hy => exact tl_9 _ w
  | err m b t l => cases hn
  | ptr m b t l g hg => exact tl_11 _ w
  | noptr m b t l => exact tl_11 _ w
  | unit m b t l => exact tl_13 _ w
theorem label_text {w0 : World} {k m b : Int} {t : ByteArray} {a : Option Addr} {l cap : Nat} {d : D} (hv : Rep w0 (.agg #[.int .i64 k, .int .i64 m, .int .u64 b, .string t, .slice a l cap]) d) (hR : Right d) (hp : d.parts ≤ 4096) (hn : d.kind = 5 ∨ d.kind = 10) (w : World) (hb0 : Below w0.heap.size w0 w) :
    Calls Tryz.prog 63 #[.agg #[.int .i64 k, .int .i64 m, .int .u64 b, .string t, .slice a l cap]] w fun x w' => LabelPost (fun s => s = d.text) w x w' := by
  rcases hn with h | h
  · refine label_yes hv hR hp 119 137 _ w hb0 (fun F u hu => ?_)
    cases hu <;> first | (simp [D.kind] at h; done) | skip
    case name m b t l => exact ⟨_, rfl, ⟨fun w => tl_5 _ w, fun w => by kernel_rfl, fun w => by kernel_rfl, fun w _ => (name_name t w).mono fun _ _ h => ⟨_, h.1, rfl, h.2 ▸ Below.refl _ _⟩⟩⟩
  · refine label_yes hv hR hp 128 143 _ w hb0 (fun F u hu => ?_)
    cases hu <;> first | (simp [D.kind] at h; done) | skip
    case err m b t l => exact ⟨_, rfl, ⟨fun w => tl_10 _ w, fun w => by kernel_rfl, fun w => by kernel_rfl, fun w _ => (failure_name m t w).mono fun _ _ h => ⟨_, h.1, rfl, h.2⟩⟩⟩
theorem label_key {w0 : World} {k m b : Int} {t : ByteArray} {a : Option Addr} {l cap : Nat} {d : D} (hv : Rep w0 (.agg #[.int .i64 k, .int .i64 m, .int .u64 b, .string t, .slice a l cap]) d) (hR : Right d) (hp : d.parts ≤ 4096) (hn : d.kind = 2) {P : ByteArray → Prop} (hP : ∀ s, P s → s.size ≤ 65531) (w : World) (hb0 : Below w0.heap.size w0 w) (HF : ∀ W, Below w.heap.size w W → Calls Tryz.prog 55 #[.int .i64 d.num, .int .i64 10] W fun x w' => ∃ s, x = .returned (.string s) ∧ P s ∧ Below W.heap.size W w') :
    Calls Tryz.prog 63 #[.agg #[.int .i64 k, .int .i64 m, .int .u64 b, .string t, .slice a l cap]] w fun x w' => LabelPost (fun s => ∃ r, s = ⟨#[107, 101, 121, 32]⟩ ++ r ∧ P r) w x w' := by
  refine label_yes hv hR hp 117 135 _ w hb0 (fun F u hu => ?_)
  cases hu <;> first | (simp [D.kind] at hn; done) | skip
  case key m b t l => exact ⟨_, rfl, ⟨fun w => tl_2 _ w, fun w => by kernel_rfl, fun w => by kernel_rfl, fun W hW => (key_name hP m W (fun W2 hW2 => HF W2 (hW.trans (hW2.mono hW.size)))).mono fun _ _ ⟨s, h1, h2, h3⟩ => ⟨_, h1, ⟨s, rfl, h2⟩, h3⟩⟩⟩
end Go.Proofs.YtecdniimikfbhaaGreatDoor
