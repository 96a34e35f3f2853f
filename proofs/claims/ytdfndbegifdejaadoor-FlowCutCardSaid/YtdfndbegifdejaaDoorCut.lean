/- FlowCut: the plain law, and the walk as the row asks it. -/
import Derived.Test.YtdfndbegifdejaaDoorHeads
import Derived.Test.YtdfndbegifdejaaDoorHelpS
import Derived.Test.YtdfndbegifdejaaDoorKFlowCut
namespace Go.Proofs.YtdfndbegifdejaaDoor.GD
set_option linter.unusedVariables false
set_option linter.unusedSimpArgs false
open Go.RowKit Go.Proofs.YtdfndbegifdejaaDoorW.PrintWords
theorem neS_self (x : S32) : ((!(x.f0 == x.f0) || (!(x.f1.toList == x.f1.toList) || !(x.f2 == x.f2))) = true) ↔ False := by simp
theorem cut_l0 (day : Int) (l u : List S32) (hl : l.length < 4398046511104) : ∀ (d n k : Nat) (pre : List S32), n + d = l.length → d < k → pre.length ≤ n → u = pre ++ upto_ day (l.drop n) →
    payofflaw03_FlowCut.l0 k l day u (pre.length : Int) (n : Int) = some true := by
  intro d
  induction d with
  | zero =>
    intro n k pre hn hk hp hu
    obtain ⟨k, rfl⟩ : ∃ q, k = q + 1 := ⟨k - 1, by omega⟩
    simp only [payofflaw03_FlowCut.l0]
    rw [if_neg (by omega)]
    rw [List.drop_of_length_le (by omega)] at hu
    subst hu
    simp [upto_]
  | succ d ih =>
    intro n k pre hn hk hp hu
    obtain ⟨k, rfl⟩ : ∃ q, k = q + 1 := ⟨k - 1, by omega⟩
    have hlt : n < l.length := by omega
    have hd := List.drop_eq_getElem_cons hlt
    simp only [payofflaw03_FlowCut.l0]
    rw [if_pos (by omega), if_pos (by omega), prn_rd l n hlt]
    by_cases hle : l[n].f0 ≤ day
    · have hu2 : u = pre ++ l[n] :: upto_ day (l.drop (n + 1)) := by rw [hu, hd]; unfold upto_; rw [List.filter_cons_of_pos (by simpa using hle)]
      have hlen : pre.length < u.length := by rw [hu2]; simp
      have hget : u[pre.length] = l[n] := by simp [hu2]
      rw [if_pos hle, if_neg (by omega), if_pos (by omega), if_pos (by omega), prn_rd u pre.length hlen, hget, if_neg (by simp), wn hlt (by omega), wn hlen (by have := upto_len day (l.drop n); rw [hu, List.length_append]; simp at this ⊢; omega)]
      have := ih (n + 1) k (pre ++ [l[n]]) (by omega) (by omega) (by simp; omega) (by rw [hu2]; simp)
      rw [List.length_append] at this
      exact this
    · rw [if_neg hle, wn hlt (by omega)]
      exact ih (n + 1) k pre (by omega) (by omega) (by omega) (by rw [hu, hd]; unfold upto_; rw [List.filter_cons_of_neg (by simpa using hle)])
theorem FlowCut.pure (l0 : List S32) (day : Int) (hsz : l0.length * 32 ≤ 140737488351232) : ∃ k, payofflaw03_FlowCut.f k l0 day = some true := by
  refine ⟨l0.length + 100, ?_⟩
  unfold payofflaw03_FlowCut.f
  rw [heads_f _ (by omega), until_f day l0 (by omega) _ (by omega)]
  simp only [Option.bind_some]
  rw [if_pos trivial]
  exact cut_l0 day l0 _ (by omega) l0.length 0 _ [] (by omega) (by omega) (by simp) (by simp)
theorem FlowCut.walk (A0 : Option Addr) (c0 : Nat) (l0 : List S32) (a1 : Int) (w : World) (HT : Aside0 (ItoaTab w)) (hr0 : Kd.C k32 w A0 l0.length l0) (hc0 : l0.length ≤ c0) (hwf : WF22 l0) (_ : (Lit.int .i64 a1).wf = true) :
    Calls Tryd.prog 7 #[.slice A0 l0.length c0, .int .i64 a1] w fun e w' => e = .returned (.bool true) ∧ Below w.heap.size w w' := by
  obtain ⟨k, hk⟩ := FlowCut.pure l0 a1 hwf.1
  exact payofflaw03_FlowCut.calls k A0 c0 l0 a1 true w HT hr0 hc0 hk
end Go.Proofs.YtdfndbegifdejaaDoor.GD
