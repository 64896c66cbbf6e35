/- A region that draws its order, holds a call that panics, and lies in a function that defers: at the panic the frame's named results and deferred calls are what they were. Whatever the program. -/
import Derived.WalkKit
import Derived.Orders
import Derived.Defers
namespace Go.Proofs.Yteplhhlgceppkab.Fr
open Go
section
variable {P : Program} {ops : Array Oper} {Q : Exit → Act → World → Prop} {R : List PanicEntry → World → Prop} {md : Region.Mode} {Inv : Act → Prop}

/-- Q, but at a panic what the world alone says. -/
def AtPanic (R : List PanicEntry → World → Prop) (Q : Exit → Act → World → Prop) : Exit → Act → World → Prop
  | .panic c, _, w => R c w
  | e, a, w => Q e a w

/-- An operation that defers nothing. -/
def NoDefer (P : Program) (o : Oper) : Prop := ∀ (a : Act) (w : World) (d : Deferred) (w' : World), (execOp a.eval o).run P w ≠ .ok (.defer d) w'

theorem run_v {s : Sem Value} {w w' : World} {d : Deferred} : ((do pure (Next.value (← s)) : Sem Next)).run P w ≠ .ok (.defer d) w' := by
  simp only [Sem.run_bind]
  cases s.run P w <;> simp
theorem run_u {s : Sem Unit} {w w' : World} {d : Deferred} : ((do s; pure Next.skip : Sem Next)).run P w ≠ .ok (.defer d) w' := by
  simp only [Sem.run_bind]
  cases s.run P w <;> simp
theorem run_p {s : Sem Bool} {f : Bool → Value} {w w' : World} {d : Deferred} : ((do pure (Next.value (f (← s))) : Sem Next)).run P w ≠ .ok (.defer d) w' := by
  simp only [Sem.run_bind]
  cases s.run P w <;> simp
theorem run_callFunc {f : FuncId} {args : Array Value} {fn : Func} (hf : P.funcs[f]? = some fn) (hb : fn.body.isNone = false) {w w' : World} {d : Deferred} : (callFunc f args).run P w ≠ .ok (.defer d) w' := by
  unfold callFunc
  simp only [Sem.run_bind, run_program, Result.andThen_ok, hf, hb]
  split <;> simp

/-- As a check. -/
def plainB (P : Program) (o : Oper) : Bool :=
  match o.op with
  | .call c => match c.callee with
    | .value (.func f) => match P.funcs[f]? with
      | some fn => !fn.body.isNone
      | none => false
    | _ => false
  | .move _ | .assign _ | .alloc _ | .box _ _ | .build _ _ | .load _ _ | .store _ _ _ | .binOp _ _ _ _ _ | .unOp _ _ _ | .fieldAddr _ _ _ | .field _ _ _ | .indexAddr _ _ _ | .extract _ _ | .makeInterface _ _ | .typeAssert _ _ _ _ | .pick _ _ _ => true
  | _ => false

theorem noDefer_of {o : Oper} (h : plainB P o = true) : NoDefer P o := by
  intro a w d w'
  unfold plainB at h
  unfold execOp
  split at h
  · rename_i c hc
    split at h
    · rename_i f hcal
      split at h
      · rename_i fn hfn
        have hb : fn.body.isNone = false := by simpa using h
        have he : a.eval (.func f) = .func (.func f) #[] #[] := rfl
        simp only [hc, resolve, hcal, he, Deferred.ofValue, pure_bind, invoke]
        exact run_callFunc hfn hb
      · cases h
    · cases h
  all_goals first
    | (cases h; done)
    | (rename_i hc; simp only [hc]; first | exact run_v | exact run_u | exact run_p | (simp; done))

theorem wpOp_frame (hput : ∀ o, o ∈ ops → ∀ a v, Inv a → Inv (a.put o.dst v)) (hno : ∀ o, o ∈ ops → NoDefer P o) (hR : ∀ c a w, Inv a → R c w → Q (.panic c) a w)
    {i : Nat} {K K' : Act → World → Prop} (hK : ∀ a w, Inv a → K a w → K' a w) {a : Act} {w : World} (ha : Inv a) (h : wpOp P ops (AtPanic R Q) i K a w) : wpOp P ops Q i K' a w := by
  unfold wpOp at *
  split
  · rename_i hn
    simp only [hn] at h
    exact hK _ _ ha h
  · rename_i o ho
    have hmem : o ∈ ops := Array.mem_of_getElem? ho
    simp only [ho] at h
    split
    · rename_i hw
      simp only [hw, if_true] at h
      rcases h with h | h
      case inr => exact .inr ⟨h.1, h.2⟩
      refine .inl ?_
      unfold Oper.wp at *
      have hnd := hno o hmem a w
      generalize (execOp a.eval o).run P w = r at *
      cases r with
      | ok n w' =>
        cases n <;> simp only [Oper.upon] at h ⊢
        case value v => exact hK _ _ (hput o hmem a v ha) h
        case skip => exact hK _ _ (hput o hmem a _ ha) h
        case defer d => exact absurd rfl (hnd d w')
        case enter f args =>
          refine Calls.mono h fun e w'' he => ?_
          cases e with
          | returned v => exact hK _ _ (hput o hmem a v ha) he
          | panicked c => exact hR _ _ _ ha he
          | outgrown => exact he
        case row row args => exact Rows.mono h fun v w'' he => hK _ _ (hput o hmem a v ha) he
      | halt x w' =>
        cases x <;> simp only [Oper.upon] at h ⊢
        case panic v => exact hR _ _ _ ha h
    · rename_i hw
      simp only [hw] at h
      exact hK _ _ (hput o hmem a _ ha) h

theorem wpAny_frame (hput : ∀ o, o ∈ ops → ∀ a v, Inv a → Inv (a.put o.dst v)) (hno : ∀ o, o ∈ ops → NoDefer P o) (hR : ∀ c a w, Inv a → R c w → Q (.panic c) a w) :
    ∀ (fuel : Nat) (listed : Array Bool) (a : Act) (w : World), Inv a → wpAny P md ops (AtPanic R Q) fuel listed a w → wpAny P md ops Q fuel listed a w
  | 0, _, _, _, _, h => h
  | fuel + 1, _, _, _, ha, h => ⟨h.1, fun i hi => wpOp_frame hput hno hR (fun a w ha' h' => wpAny_frame hput hno hR fuel _ a w ha' h') ha (h.2 i hi)⟩

/-- The law. -/
theorem wp_region_frame (Inv : Act → Prop) (R : List PanicEntry → World → Prop) {id : Nat} {a : Act} {w : World} (hm : P.follows .mixedOrders = true)
    (hput : ∀ o, o ∈ ops → ∀ a v, Inv a → Inv (a.put o.dst v)) (hno : (ops.all (plainB P)) = true) (hR : ∀ c a w, Inv a → R c w → Q (.panic c) a w) (ha : Inv a)
    (h : wpAny P .any ops (AtPanic R Q) ops.size (Array.replicate ops.size false) a w.drew) : (Code.region id ops true).wp P Q a w :=
  wp_region_any hm (wpAny_frame hput (fun o ho => noDefer_of (Array.all_eq_true_iff_forall_mem.1 hno o ho)) hR _ _ _ _ ha h)

/-- The frame's slots and deferred calls. -/
def Held (sl : List (Nat × Value)) (ds : List Deferred) (a : Act) : Prop := a.defers = ds ∧ ∀ x ∈ sl, a.tmps[x.1]? = some x.2
theorem Held.put {sl : List (Nat × Value)} {ds : List Deferred} {o : Oper} (hb : (sl.all fun x => o.dst != some x.1) = true) (a : Act) (v : Value) (h : Held sl ds a) : Held sl ds (a.put o.dst v) := by
  obtain ⟨h1, h2⟩ := h
  cases hd : o.dst with
  | none => exact ⟨h1, h2⟩
  | some d =>
    refine ⟨h1, fun x hx => ?_⟩
    have hne : d ≠ x.1 := fun e => by
      have := List.all_eq_true.1 hb x hx
      simp [hd, e] at this
    simpa [Act.put, Array.getElem?_setIfInBounds_ne hne] using h2 x hx
theorem Held.puts {sl : List (Nat × Value)} {ds : List Deferred} {ops : Array Oper} (hb : (ops.all fun o => sl.all fun x => o.dst != some x.1) = true) : ∀ o, o ∈ ops → ∀ a v, Held sl ds a → Held sl ds (a.put o.dst v) :=
  fun o ho a v h => h.put (Array.all_eq_true_iff_forall_mem.1 hb o ho) a v
end
end Go.Proofs.Yteplhhlgceppkab.Fr
