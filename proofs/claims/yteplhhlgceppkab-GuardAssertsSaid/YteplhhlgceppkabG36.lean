/- Contract of datum's Length. -/
import Derived.Test.YteplhhlgceppkabG35
import Derived.Stop.Asserts
namespace Go.Proofs.Yteplhhlgceppkab
open Go Go.RowKit Go.ChangeShapes Go.WideShapes

theorem ts_1 (v : Value) (w : World) : (Instr.typeAssert (.iface 114 v) 20 95 true).run Try.prog w = .ok (.tuple #[.nilIface, .bool false]) w := run_typeAssert_lacksB Try.underlying95 (by kernel_rfl) (by kernel_rfl) v _ w
theorem ts_2 (v : Value) (w : World) : (Instr.typeAssert (.iface 115 v) 20 95 true).run Try.prog w = .ok (.tuple #[.nilIface, .bool false]) w := run_typeAssert_lacksB Try.underlying95 (by kernel_rfl) (by kernel_rfl) v _ w
theorem ts_3 (v : Value) (w : World) : (Instr.typeAssert (.iface 116 v) 20 95 true).run Try.prog w = .ok (.tuple #[.nilIface, .bool false]) w := run_typeAssert_lacksB Try.underlying95 (by kernel_rfl) (by kernel_rfl) v _ w
theorem ts_4 (v : Value) (w : World) : (Instr.typeAssert (.iface 117 v) 20 95 true).run Try.prog w = .ok (.tuple #[.iface 117 v, .bool true]) w := by kernel_rfl
theorem ts_5 (v : Value) (w : World) : (Instr.typeAssert (.iface 118 v) 20 95 true).run Try.prog w = .ok (.tuple #[.iface 118 v, .bool true]) w := by kernel_rfl
theorem ts_6 (v : Value) (w : World) : (Instr.typeAssert (.iface 119 v) 20 95 true).run Try.prog w = .ok (.tuple #[.nilIface, .bool false]) w := run_typeAssert_lacksB Try.underlying95 (by kernel_rfl) (by kernel_rfl) v _ w
theorem ts_7 (v : Value) (w : World) : (Instr.typeAssert (.iface 121 v) 20 95 true).run Try.prog w = .ok (.tuple #[.iface 121 v, .bool true]) w := by kernel_rfl
theorem ts_8 (v : Value) (w : World) : (Instr.typeAssert (.iface 123 v) 20 95 true).run Try.prog w = .ok (.tuple #[.iface 123 v, .bool true]) w := by kernel_rfl
theorem ts_9 (v : Value) (w : World) : (Instr.typeAssert (.iface 126 v) 20 95 true).run Try.prog w = .ok (.tuple #[.iface 126 v, .bool true]) w := by kernel_rfl
theorem ts_10 (v : Value) (w : World) : (Instr.typeAssert (.iface 128 v) 20 95 true).run Try.prog w = .ok (.tuple #[.nilIface, .bool false]) w := run_typeAssert_lacksB Try.underlying95 (by kernel_rfl) (by kernel_rfl) v _ w
theorem ts_11 (v : Value) (w : World) : (Instr.typeAssert (.iface 129 v) 20 95 true).run Try.prog w = .ok (.tuple #[.iface 129 v, .bool true]) w := by kernel_rfl
theorem ts_13 (v : Value) (w : World) : (Instr.typeAssert (.iface 132 v) 20 95 true).run Try.prog w = .ok (.tuple #[.nilIface, .bool false]) w := run_typeAssert_lacksB Try.underlying95 (by kernel_rfl) (by kernel_rfl) v _ w
theorem ts_0 (w : World) : (Instr.typeAssert .nilIface 20 95 true).run Try.prog w = .ok (.tuple #[.nilIface, .bool false]) w := by kernel_rfl

theorem len_worlds (w : World) (c0 c1 c2 c3 c4 : Value) : ∃ W1, W1 = (w.alloc (.cells #[c0, c1, c2, c3, c4] 25)).alloc (.map #[] 0) ∧ Below w.heap.size w W1 ∧ Hid (W1.heap.size = w.heap.size + 2) ∧ Row W1 w.heap.size #[c0, c1, c2, c3, c4] 25 ∧ BoxesAt W1 (w.heap.size + 1) 0 (.map []) := by
  refine ⟨_, rfl, ((Below.refl _ _).alloc (Nat.le_refl _) _).alloc (by simp) _, Lib.hid (by simp), (Row.new w _ _).old _, ?_⟩
  have h := BoxesAt.made (w.alloc (.cells #[c0, c1, c2, c3, c4] 25))
  simpa using h

/-- A value that has no size. -/
def NoSize (u : Value) : Prop := ∀ w, (Instr.typeAssert u 20 95 true).run Try.prog w = .ok (.tuple #[.nilIface, .bool false]) w
set_option maxRecDepth 100000 in
set_option maxHeartbeats 800000 in
theorem length_no {w0 : World} {k m b : Int} {t : ByteArray} {a : Option Addr} {l cap : Nat} {d : D} (hv : Rep w0 (.agg #[.int .i64 k, .int .i64 m, .int .u64 b, .string t, .slice a l cap]) d) (hR : Right d) (hp : d.parts ≤ 4096) (hu : ∀ F u, IV F d u → NoSize u) (w : World) (hb0 : Below w0.heap.size w0 w) :
    Calls Try.prog 37 #[.agg #[.int .i64 k, .int .i64 m, .int .u64 b, .string t, .slice a l cap]] w fun x w' => x = .returned (.tuple #[.int .i64 0, .int .i64 12]) ∧ Below w.heap.size w w' := by
  have HV := Lib.hid (fun w M n F hb hw0 hbx hn => value_any hv hR w M n F hb hw0 hbx hn)
  have HB := Lib.hid hb0
  have HP := Lib.hid hp
  have HU := Lib.hid hu
  clear hv hR hp hb0 hu
  obtain ⟨W1, hW1, hb1, hz, hx1, hbx⟩ := len_worlds w (.int .i64 k) (.int .i64 m) (.int .u64 b) (.string t) (.slice a l cap)
  have hmm := @run_makeMap Try.prog
  go_enter Try.func37, Try.ntmps37
  go_wp2_with fail
  rw [← hW1]
  clear hW1
  refine (HV.out W1 (w.heap.size + 1) 0 _ (HB.out.trans (hb1.mono HB.out.size)) (by have := HB.out.size; omega) hbx (by have := HP.out; omega)).mono ?_
  rintro e w2 ⟨u, F1, n1, rfl, hiv, hbx2, hn2, hst⟩
  have hts := HU.out _ _ hiv
  unfold NoSize at hts
  clear hiv
  dsimp only
  go_wp2_with fail
  go_ret2
  exact ⟨rfl, hb1.trans (hst.below.mono (by omega))⟩

/-- A value of a type with a size. -/
structure HasSize (T : TypeId) (f : FuncId) (z : Value) (n : Int) : Prop where
  asserts : ∀ w, (Instr.typeAssert (.iface T z) 20 95 true).run Try.prog w = .ok (.tuple #[.iface T z, .bool true]) w
  meth : ∀ w, (method 299 T z "conduit/datum.size").run Try.prog w = .ok (f, z) w
  enter : ∀ w, (callFunc f #[z]).run Try.prog w = .ok (.enter f #[z]) w
  size : ∀ w, Calls Try.prog f #[z] w fun x w' => x = .returned (.int .i64 n) ∧ Below w.heap.size w w'
set_option maxRecDepth 100000 in
set_option maxHeartbeats 800000 in
theorem length_yes {w0 : World} {k m b : Int} {t : ByteArray} {a : Option Addr} {l cap : Nat} {d : D} (hv : Rep w0 (.agg #[.int .i64 k, .int .i64 m, .int .u64 b, .string t, .slice a l cap]) d) (hR : Right d) (hp : d.parts ≤ 4096) (T : TypeId) (f : FuncId) (n : Int) (hu : ∀ F u, IV F d u → ∃ z, u = .iface T z ∧ HasSize T f z n) (w : World) (hb0 : Below w0.heap.size w0 w) :
    Calls Try.prog 37 #[.agg #[.int .i64 k, .int .i64 m, .int .u64 b, .string t, .slice a l cap]] w fun x w' => x = .returned (.tuple #[.int .i64 n, .int .i64 0]) ∧ Below w.heap.size w w' := by
  have HV := Lib.hid (fun w M n F hb hw0 hbx hn => value_any hv hR w M n F hb hw0 hbx hn)
  have HB := Lib.hid hb0
  have HP := Lib.hid hp
  have HU := Lib.hid hu
  clear hv hR hp hb0 hu
  obtain ⟨W1, hW1, hb1, hz, hx1, hbx⟩ := len_worlds w (.int .i64 k) (.int .i64 m) (.int .u64 b) (.string t) (.slice a l cap)
  have hmm := @run_makeMap Try.prog
  go_enter Try.func37, Try.ntmps37
  go_wp2_with fail
  rw [← hW1]
  clear hW1
  refine (HV.out W1 (w.heap.size + 1) 0 _ (HB.out.trans (hb1.mono HB.out.size)) (by have := HB.out.size; omega) hbx (by have := HP.out; omega)).mono ?_
  rintro e w2 ⟨u, F1, n1, rfl, hiv, hbx2, hn2, hst⟩
  obtain ⟨z, rfl, hS⟩ := HU.out _ _ hiv
  have hts := hS.asserts
  have hme := hS.meth
  have hen := hS.enter
  have HS := Lib.hid hS.size
  clear hiv hS
  dsimp only
  go_wp2_with ((refine (HS.out _).mono ?_); rintro e w3 ⟨rfl, hb3⟩)
  go_ret2
  exact ⟨rfl, (hb1.trans (hst.below.mono (by omega))).trans (hb3.mono (Nat.le_trans hb1.size hst.below.size))⟩

set_option maxRecDepth 100000 in
theorem size_box (z : Value) (w : World) (o : Option Addr) (hz : z = .pointer o) (n : Int) (hn : n = match o with | none => 0 | some _ => 1) : Calls Try.prog 99 #[z] w fun x w' => x = .returned (.int .i64 n) ∧ w = w' := by
  subst hz hn
  cases o with
  | none =>
    go_enter Try.func99, Try.ntmps99
    go_wp2_with fail
    go_ret
    exact ⟨rfl, rfl⟩
  | some a =>
    go_enter Try.func99, Try.ntmps99
    go_wp2_with fail
    go_ret
    exact ⟨rfl, rfl⟩
theorem size_text (t : ByteArray) (w : World) : Calls Try.prog 90 #[.string t] w fun x w' => x = .returned (.int .i64 t.size) ∧ w = w' := by
  go_enter Try.func90, Try.ntmps90
  go_wp2_with fail
  go_ret
  exact ⟨rfl, rfl⟩
theorem size_name (t : ByteArray) (w : World) : Calls Try.prog 92 #[.string t] w fun x w' => x = .returned (.int .i64 t.size) ∧ w = w' := by
  go_enter Try.func92, Try.ntmps92
  go_wp2_with fail
  go_ret
  exact ⟨rfl, rfl⟩
theorem size_octets (a : Option Addr) (l c : Nat) (w : World) : Calls Try.prog 93 #[.slice a l c] w fun x w' => x = .returned (.int .i64 l) ∧ w = w' := by
  go_enter Try.func93, Try.ntmps93
  go_wp2_with fail
  go_ret
  exact ⟨rfl, rfl⟩
theorem size_list (a : Option Addr) (l c : Nat) (w : World) : Calls Try.prog 94 #[.slice a l c] w fun x w' => x = .returned (.int .i64 l) ∧ w = w' := by
  go_enter Try.func94, Try.ntmps94
  go_wp2_with fail
  go_ret
  exact ⟨rfl, rfl⟩
theorem size_pair (u v : Value) (w : World) : Calls Try.prog 95 #[.agg #[u, v]] w fun x w' => x = .returned (.int .i64 2) ∧ Below w.heap.size w w' := by
  go_enter Try.func95, Try.ntmps95
  go_wp2_with fail
  go_ret
  exact ⟨rfl, by go_grown⟩

/-- A Datum's size. -/
def lenD (d : D) : Option Int :=
  if d.kind = 4 ∨ d.kind = 5 ∨ d.kind = 7 then some d.text.size
  else if d.kind = 8 then some d.kids.length
  else if d.kind = 9 then some 2
  else if d.kind = 11 then some 1
  else if d.kind = 12 then some 0
  else none
theorem length_some {w0 : World} {k m b : Int} {t : ByteArray} {a : Option Addr} {l cap : Nat} {d : D} (hv : Rep w0 (.agg #[.int .i64 k, .int .i64 m, .int .u64 b, .string t, .slice a l cap]) d) (hR : Right d) (hp : d.parts ≤ 4096) (n : Int) (hn : lenD d = some n) (w : World) (hb0 : Below w0.heap.size w0 w) :
    Calls Try.prog 37 #[.agg #[.int .i64 k, .int .i64 m, .int .u64 b, .string t, .slice a l cap]] w fun x w' => x = .returned (.tuple #[.int .i64 n, .int .i64 0]) ∧ Below w.heap.size w w' := by
  have hk : d.kind = 4 ∨ d.kind = 5 ∨ d.kind = 7 ∨ d.kind = 8 ∨ d.kind = 9 ∨ d.kind = 11 ∨ d.kind = 12 := by
    unfold lenD at hn
    by_cases h1 : d.kind = 4 ∨ d.kind = 5 ∨ d.kind = 7
    · omega
    · rw [if_neg h1] at hn
      by_cases h2 : d.kind = 8
      · omega
      · rw [if_neg h2] at hn
        by_cases h3 : d.kind = 9
        · omega
        · rw [if_neg h3] at hn
          by_cases h4 : d.kind = 11
          · omega
          · rw [if_neg h4] at hn
            by_cases h5 : d.kind = 12
            · omega
            · rw [if_neg h5] at hn; cases hn
  rcases hk with h | h | h | h | h | h | h
  · refine length_yes hv hR hp 117 90 n (fun F u hu => ?_) w hb0
    cases hu <;> first | (simp [D.kind] at h; done) | skip
    case text m b t l =>
      have e : n = _ := (Option.some.inj hn).symm
      subst e
      exact ⟨_, rfl, ⟨fun w => ts_4 _ w, fun w => by kernel_rfl, fun w => by kernel_rfl, fun w => (size_text t w).mono fun _ _ h => ⟨h.1, h.2 ▸ Below.refl _ _⟩⟩⟩
  · refine length_yes hv hR hp 118 92 n (fun F u hu => ?_) w hb0
    cases hu <;> first | (simp [D.kind] at h; done) | skip
    case name m b t l =>
      have e : n = _ := (Option.some.inj hn).symm
      subst e
      exact ⟨_, rfl, ⟨fun w => ts_5 _ w, fun w => by kernel_rfl, fun w => by kernel_rfl, fun w => (size_name t w).mono fun _ _ h => ⟨h.1, h.2 ▸ Below.refl _ _⟩⟩⟩
  · refine length_yes hv hR hp 121 93 n (fun F u hu => ?_) w hb0
    cases hu <;> first | (simp [D.kind] at h; done) | skip
    case bytes m b t l a c =>
      have e : n = _ := (Option.some.inj hn).symm
      subst e
      exact ⟨_, rfl, ⟨fun w => ts_7 _ w, fun w => by kernel_rfl, fun w => by kernel_rfl, fun w => (size_octets a t.size c w).mono fun _ _ h => ⟨h.1, h.2 ▸ Below.refl _ _⟩⟩⟩
  · refine length_yes hv hR hp 123 94 n (fun F u hu => ?_) w hb0
    cases hu <;> first | (simp [D.kind] at h; done) | skip
    case list m b t l a c =>
      have e : n = _ := (Option.some.inj hn).symm
      subst e
      exact ⟨_, rfl, ⟨fun w => ts_8 _ w, fun w => by kernel_rfl, fun w => by kernel_rfl, fun w => (size_list a l.length c w).mono fun _ _ h => ⟨h.1, h.2 ▸ Below.refl _ _⟩⟩⟩
  · refine length_yes hv hR hp 126 95 n (fun F u hu => ?_) w hb0
    cases hu <;> first | (simp [D.kind] at h; done) | skip
    case pair m b t x y u v hx hy =>
      have e : n = _ := (Option.some.inj hn).symm
      subst e
      exact ⟨_, rfl, ⟨fun w => ts_9 _ w, fun w => by kernel_rfl, fun w => by kernel_rfl, fun w => size_pair u v w⟩⟩
  · refine length_yes hv hR hp 129 99 n (fun F u hu => ?_) w hb0
    cases hu <;> first | (simp [D.kind] at h; done) | skip
    case ptr m b t l g hg =>
      have e : n = _ := (Option.some.inj hn).symm
      subst e
      exact ⟨_, rfl, ⟨fun w => ts_11 _ w, fun w => by kernel_rfl, fun w => by kernel_rfl, fun w => (size_box _ w _ rfl _ rfl).mono fun _ _ h => ⟨h.1, h.2 ▸ Below.refl _ _⟩⟩⟩
  · refine length_yes hv hR hp 129 99 n (fun F u hu => ?_) w hb0
    cases hu <;> first | (simp [D.kind] at h; done) | skip
    case noptr m b t l =>
      have e : n = _ := (Option.some.inj hn).symm
      subst e
      exact ⟨_, rfl, ⟨fun w => ts_11 _ w, fun w => by kernel_rfl, fun w => by kernel_rfl, fun w => (size_box _ w _ rfl _ rfl).mono fun _ _ h => ⟨h.1, h.2 ▸ Below.refl _ _⟩⟩⟩
theorem length_none {w0 : World} {k m b : Int} {t : ByteArray} {a : Option Addr} {l cap : Nat} {d : D} (hv : Rep w0 (.agg #[.int .i64 k, .int .i64 m, .int .u64 b, .string t, .slice a l cap]) d) (hR : Right d) (hp : d.parts ≤ 4096) (hn : lenD d = none) (w : World) (hb0 : Below w0.heap.size w0 w) :
    Calls Try.prog 37 #[.agg #[.int .i64 k, .int .i64 m, .int .u64 b, .string t, .slice a l cap]] w fun x w' => x = .returned (.tuple #[.int .i64 0, .int .i64 12]) ∧ Below w.heap.size w w' := by
  refine length_no hv hR hp (fun F u hu w => ?_) w hb0
  cases hu with
  | nil m b t l => exact ts_0 w
  | int m b t l => exact ts_1 _ w
  | key m b t l => exact ts_2 _ w
  | float m b t l => exact ts_3 _ w
  | text m b t l => cases hn
  | name m b t l => cases hn
  | bool m b t l => exact ts_6 _ w
  | bytes m b t l a c => cases hn
  | list m b t l a c => cases hn
  | pair m b t x y u v hx hy => cases hn
  | err m b t l => exact ts_10 _ w
  | ptr m b t l g hg => cases hn
  | noptr m b t l => cases hn
  | unit m b t l => exact ts_13 _ w
end Go.Proofs.Yteplhhlgceppkab
