/- What the law GuardAsserts asks of Try. -/
import Derived.Test.YteplhhlgceppkabG39
namespace Go.Proofs.Yteplhhlgceppkab
open Go Go.RowKit Go.ChangeShapes Go.WideShapes

/-- A result, as the law looks at it. -/
def LawRes (e pk : Int) (h : Bool) (v : Value) : Prop := ∃ (c pn k5 m5 b5 : Int) (t5 : ByteArray) (a5 : Option Addr) (l5 c5 : Nat), v = .agg #[.int .i64 e, .int .i64 c, .int .i64 pk, .int .i64 pn, .bool h, .int .i64 k5, .int .i64 m5, .int .u64 b5, .string t5, .slice a5 l5 c5]
theorem ResV.gaveL {w : World} {Q : Nat → Prop} {v : Value} {d : D} (h : ResV w Q v (.gave d)) : LawRes 0 0 true v := by
  obtain ⟨k, m, b, t, a, n, cap, h1, _⟩ := h
  exact ⟨0, 0, k, m, b, t, a, n, cap, h1⟩
theorem ResV.panL {w : World} {Q : Nat → Prop} {v : Value} {p n : Int} (h : ResV w Q v (.pan p n)) : LawRes 110 p false v := ⟨0, n, 0, 0, 0, _, _, _, _, h⟩

theorem law_kind_true {w0 : World} {k : Nat} {m b : Int} {t : ByteArray} {a : Option Addr} {l cap : Nat} {d : D} (hv : Rep w0 (.agg #[.int .i64 k, .int .i64 m, .int .u64 b, .string t, .slice a l cap]) d) (hs : Slim d) (_hR : Right d) (_hp : d.parts ≤ 4096) (hk : k ≤ 13) (n : Int) (h : isB k n = true) (w : World) (hb0 : Below w0.heap.size w0 w) :
    Calls Try.prog 9 #[.agg #[.int .i64 2, .int .i64 k, .int .i64 m, .int .u64 b, .string t, .slice a l cap, .int .i64 0, .int .i64 0, .int .u64 0, .string ⟨#[]⟩, .slice none 0 0, .int .i64 n]] w fun x w' => ∃ v', x = .returned v' ∧ LawRes 0 0 true v' ∧ Below w.heap.size w w' :=
  (try_ret _ _ _ _ _ _ _ _ _ _ _ _ (.gave d) w (fun W hW => act_kind hk hv hs _ _ _ _ _ n h W (hb0.trans (hW.mono hb0.size)))).mono fun _ _ ⟨v', hx, hv, hb⟩ => ⟨v', hx, hv.gaveL, hb⟩
theorem law_kind_false {w0 : World} {k : Nat} {m b : Int} {t : ByteArray} {a : Option Addr} {l cap : Nat} {d : D} (_hv : Rep w0 (.agg #[.int .i64 k, .int .i64 m, .int .u64 b, .string t, .slice a l cap]) d) (_hs : Slim d) (_hR : Right d) (_hp : d.parts ≤ 4096) (hk : k ≤ 13) (n : Int) (h : isB k n = false) (w : World) (_hb0 : Below w0.heap.size w0 w) :
    Calls Try.prog 9 #[.agg #[.int .i64 2, .int .i64 k, .int .i64 m, .int .u64 b, .string t, .slice a l cap, .int .i64 0, .int .i64 0, .int .u64 0, .string ⟨#[]⟩, .slice none 0 0, .int .i64 n]] w fun x w' => ∃ v', x = .returned v' ∧ LawRes 110 2 false v' ∧ Below w.heap.size w w' :=
  (try_pan _ _ _ _ _ _ _ _ _ _ _ _ _ _ 2 k (told_0 k) w (fun W _ => act_kind_no hk _ _ _ _ _ n h W)).mono fun _ _ ⟨v', hx, hv, hb⟩ => ⟨v', hx, hv.panL, hb⟩
theorem law_face_true {w0 : World} {k : Nat} {m b : Int} {t : ByteArray} {a : Option Addr} {l cap : Nat} {d : D} (hv : Rep w0 (.agg #[.int .i64 k, .int .i64 m, .int .u64 b, .string t, .slice a l cap]) d) (hs : Slim d) (_hR : Right d) (_hp : d.parts ≤ 4096) (hk : k ≤ 13) (n : Int) (h : hasFi k n = true) (w : World) (hb0 : Below w0.heap.size w0 w) :
    Calls Try.prog 9 #[.agg #[.int .i64 3, .int .i64 k, .int .i64 m, .int .u64 b, .string t, .slice a l cap, .int .i64 0, .int .i64 0, .int .u64 0, .string ⟨#[]⟩, .slice none 0 0, .int .i64 n]] w fun x w' => ∃ v', x = .returned v' ∧ LawRes 0 0 true v' ∧ Below w.heap.size w w' :=
  (try_ret _ _ _ _ _ _ _ _ _ _ _ _ (.gave d) w (fun W hW => act_face hk hv hs _ _ _ _ _ n h W (hb0.trans (hW.mono hb0.size)))).mono fun _ _ ⟨v', hx, hv, hb⟩ => ⟨v', hx, hv.gaveL, hb⟩
theorem law_face_false {w0 : World} {k : Nat} {m b : Int} {t : ByteArray} {a : Option Addr} {l cap : Nat} {d : D} (_hv : Rep w0 (.agg #[.int .i64 k, .int .i64 m, .int .u64 b, .string t, .slice a l cap]) d) (_hs : Slim d) (_hR : Right d) (_hp : d.parts ≤ 4096) (hk : k ≤ 13) (n : Int) (h : hasFi k n = false) (w : World) (_hb0 : Below w0.heap.size w0 w) :
    Calls Try.prog 9 #[.agg #[.int .i64 3, .int .i64 k, .int .i64 m, .int .u64 b, .string t, .slice a l cap, .int .i64 0, .int .i64 0, .int .u64 0, .string ⟨#[]⟩, .slice none 0 0, .int .i64 n]] w fun x w' => ∃ v', x = .returned v' ∧ LawRes 110 2 false v' ∧ Below w.heap.size w w' :=
  (try_pan _ _ _ _ _ _ _ _ _ _ _ _ _ _ 2 (faceMiss k n) (told_0 _) w (fun W _ => act_face_no hk _ _ _ _ _ n h W)).mono fun _ _ ⟨v', hx, hv, hb⟩ => ⟨v', hx, hv.panL, hb⟩
theorem Slim.lenD_wf {d : D} (h : Slim d) (hR : Right d) {s : Int} (hs : lenD d = some s) : (Lit.int .i64 s).wf = true := by
  have ht : d.text.size ≤ 65535 ∧ d.kids.length ≤ 4096 := by
    cases h with
    | mk k m b t kids hl hk => exact ⟨hR.inv.1.2.2.2.2.2.1, hl⟩
  have hb : 0 ≤ s ∧ s ≤ 65535 := by
    unfold lenD at hs
    by_cases h1 : d.kind = 4 ∨ d.kind = 5 ∨ d.kind = 7
    · rw [if_pos h1] at hs; cases hs; omega
    · rw [if_neg h1] at hs
      by_cases h2 : d.kind = 8
      · rw [if_pos h2] at hs; cases hs; omega
      · rw [if_neg h2] at hs
        by_cases h3 : d.kind = 9
        · rw [if_pos h3] at hs; cases hs; omega
        · rw [if_neg h3] at hs
          by_cases h4 : d.kind = 11
          · rw [if_pos h4] at hs; cases hs; omega
          · rw [if_neg h4] at hs
            by_cases h5 : d.kind = 12
            · rw [if_pos h5] at hs; cases hs; omega
            · rw [if_neg h5] at hs; cases hs
  exact wf_small (by omega) (by omega)
theorem law_size {w0 : World} {k : Nat} {m b : Int} {t : ByteArray} {a : Option Addr} {l cap : Nat} {d : D} (hv : Rep w0 (.agg #[.int .i64 k, .int .i64 m, .int .u64 b, .string t, .slice a l cap]) d) (hs : Slim d) (hR : Right d) (hp : d.parts ≤ 4096) (_hk : k ≤ 13) (w : World) (hb0 : Below w0.heap.size w0 w) :
    Calls Try.prog 9 #[.agg #[.int .i64 10, .int .i64 k, .int .i64 m, .int .u64 b, .string t, .slice a l cap, .int .i64 0, .int .i64 0, .int .u64 0, .string ⟨#[]⟩, .slice none 0 0, .int .i64 0]] w fun x w' => ∃ v' e hh, x = .returned v' ∧ (e = 0 ∨ e = 12) ∧ (∃ k5 m5 b5 t5 a5 l5 c5, v' = .agg #[.int .i64 e, .int .i64 0, .int .i64 0, .int .i64 0, .bool hh, .int .i64 k5, .int .i64 m5, .int .u64 b5, .string t5, .slice a5 l5 c5]) ∧ Below w.heap.size w w' := by
  cases hl : lenD d with
  | none =>
    exact (try_ret _ _ _ _ _ _ _ _ _ _ _ _ .err w (fun W hW => act_size_no hv hR hp hl _ _ _ _ _ 0 W (hb0.trans (hW.mono hb0.size)))).mono fun _ _ ⟨v', hx, hv, hb⟩ => ⟨v', 12, false, hx, Or.inr rfl, ⟨_, _, _, _, _, _, _, hv⟩, hb⟩
  | some s =>
    exact (try_ret _ _ _ _ _ _ _ _ _ _ _ _ (.gave (numD s)) w (fun W hW => act_size hv hR hp s hl (hs.lenD_wf hR hl) _ _ _ _ _ 0 W (hb0.trans (hW.mono hb0.size)))).mono fun _ _ ⟨v', hx, hv, hb⟩ => by
      obtain ⟨k5, m5, b5, t5, a5, n5, cap5, h1, _⟩ := hv
      exact ⟨v', 0, true, hx, Or.inl rfl, ⟨_, _, _, _, _, _, _, h1⟩, hb⟩
end Go.Proofs.Yteplhhlgceppkab
