/- Places (a day and a currency) as the keys of a map. -/
import Derived.Test.YtdfndbegifdejaaGrp
import Derived.DeepKeys4
import Derived.ChangeKeys
namespace Go.Proofs.Ytdfndbegifdejaa.PFlowExact
set_option linter.unusedVariables false
set_option linter.unusedSimpArgs false
open Go.RowKit Go.ChangeShapes

structure Pl where
  d : Int
  c : ByteArray
def plV (k : Pl) : Value := .agg #[.int .i64 k.d, .string k.c]
def plit (k : Pl) : Lit := .string (keyBytes [.int .i64 k.d, .string k.c.data.toList])
def PlOk (k : Pl) : Prop := k.c.size ≤ maxLen ∧ (Lit.int .i64 k.d).wf = true
def placeL (x : S32) : Lit := plit ⟨x.f0, x.f1⟩
theorem plit_key (k : Pl) : WideAt.IsKeyLit (plit k) := trivial
theorem law82 : Maps.Keyed Try.prog 82 := Maps.Keyed.of_law (deep_law_laid (P := Try.prog) (by kernel_rfl) (m := 2) (by omega) (of_decide_eq_true (by kernel_rfl)) (by kernel_rfl) (by rw [Try.underlying82]))
theorem ck82 : Try.prog.cellsOf 82 = 2 := by kernel_rfl
theorem ck3 : Try.prog.cellsOf 3 = 1 := by kernel_rfl
theorem ck9 : Try.prog.cellsOf 9 = 1 := by kernel_rfl
theorem kt82 : Try.prog.keyType 82 = true := by kernel_rfl
theorem lits82 (n : Nat) (k : Pl) (h : PlOk k) : Try.prog.keyLits (n + 2) 82 [.int .i64 k.d, .string k.c] = some [.int .i64 k.d, .string k.c.data.toList] := by
  simp [Program.keyLits, Try.underlying82, Try.underlying3, Try.underlying9, ck82, ck3, ck9, h.1, h.2]
theorem keyOf82 (k : Pl) (h : PlOk k) : keyOf Try.prog 82 (plV k) = some (plit k) := by
  have hts : Try.prog.types.size + 1 = (Try.prog.types.size - 1) + 2 := by
    have : 0 < Try.prog.types.size := of_decide_eq_true (by kernel_rfl)
    omega
  unfold keyOf plV
  rw [Try.underlying82, hts]
  simp only [kt82, Value.cells]
  rw [lits82 _ k h]
  simp [Value.formed, Try.underlying82, ck82, plit]
theorem size_two : ∃ n, Try.prog.types.size + 1 = n + 2 := by
  have h : 0 < Try.prog.types.size := of_decide_eq_true (by kernel_rfl)
  generalize Try.prog.types.size = m at h
  exact ⟨m - 1, by omega⟩
theorem keyOf82_inv {key : Value} {kl : Lit} (h : keyOf Try.prog 82 key = some kl) : ∃ k, key = plV k ∧ PlOk k ∧ kl = plit k := by
  obtain ⟨n, hts⟩ := size_two
  revert h
  unfold keyOf
  rw [Try.underlying82, hts]
  clear hts
  simp only [kt82, Bool.true_and]
  intro h
  cases key with
  | agg cs =>
    obtain ⟨l⟩ := cs
    rcases l with _ | ⟨a, _ | ⟨b, _ | ⟨c, r⟩⟩⟩
    · simp [Program.keyLits, Try.underlying82, ck82, Value.cells] at h
    · simp [Program.keyLits, Try.underlying82, ck82, Value.cells] at h
    · cases a with
      | int q d =>
        cases b with
        | string c =>
          simp [Program.keyLits, Try.underlying82, Try.underlying3, Try.underlying9, ck82, ck3, ck9, Value.cells] at h
          obtain ⟨_, h⟩ := h
          by_cases h1 : q = IntKind.i64 ∧ (Lit.int IntKind.i64 d).wf = true
          · rw [if_pos h1] at h
            by_cases h2 : c.size ≤ maxLen
            · rw [if_pos h2] at h
              simp at h
              obtain ⟨rfl, h1'⟩ := h1
              exact ⟨⟨d, c⟩, rfl, ⟨h2, h1'⟩, h.symm⟩
            · rw [if_neg h2] at h
              simp at h
          · rw [if_neg h1] at h
            simp at h
        | _ => simp [Program.keyLits, Try.underlying82, Try.underlying3, Try.underlying9, ck82, ck3, ck9, Value.cells] at h
      | _ => simp [Program.keyLits, Try.underlying82, Try.underlying3, Try.underlying9, ck82, ck3, ck9, Value.cells] at h
    · simp [Program.keyLits, Try.underlying82, ck82, Value.cells] at h
  | _ => simp [Value.formed, Try.underlying82] at h
theorem plit_inj {a b : Pl} (ha : PlOk a) (hb : PlOk b) (h : plit a = plit b) : a = b := by
  have := law82.inj (keyOf82 a ha) (h ▸ keyOf82 b hb)
  unfold plV at this
  cases a; cases b
  simp at this
  obtain ⟨rfl, rfl⟩ := this
  rfl
end Go.Proofs.Ytdfndbegifdejaa.PFlowExact
