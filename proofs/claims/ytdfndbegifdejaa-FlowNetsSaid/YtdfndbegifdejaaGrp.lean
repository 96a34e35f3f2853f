/- Grouping by a key in a map of lists of numbers: what the map says, list by list (no program in sight). -/
import Derived.Test.YtdfndbegifdejaaPFlowExactx0
import Derived.Maps.OwnRows
import Derived.Maps.Views
import Derived.Maps.RangeWalk
import Derived.Maps.GroupsBeside
namespace Go.Proofs.Ytdfndbegifdejaa.PFlowExact
set_option linter.unusedVariables false
set_option linter.unusedSimpArgs false
open Go.RowKit Go.ChangeShapes

open Classical
variable (kl : S32 → Lit)
noncomputable def grp (c : Lit) (l : List S32) : List Int := (l.filter (fun x => decide (kl x = c))).map (·.f2)
def gd (zs : List Int) : DataW Unit := if zs = [] then .nil else .slice (lits .i64 zs) []
structure Says (D : DataW Unit) (l : List S32) : Prop where
  map : Maps.IsMap D
  at_ : ∀ c, WideAt.IsKeyLit c → D.atKey c .nil = gd (grp kl c l)
  has : ∀ c, WideAt.IsKeyLit c → (Maps.has D c = true ↔ ∃ x ∈ l, kl x = c)

theorem grp_snoc (c : Lit) (l : List S32) (x : S32) : grp kl c (l ++ [x]) = if kl x = c then grp kl c l ++ [x.f2] else grp kl c l := by
  unfold grp
  by_cases h : kl x = c <;> simp [h]
theorem says_nil : Says kl (.map []) [] := ⟨Maps.isMap_empty, fun c hc => by simp [DataW.atKey, gd, grp], fun c hc => by simp [Maps.has]⟩
variable {kl}
theorem says_step {D : DataW Unit} {l : List S32} (h : Says kl D l) (hk : ∀ x, WideAt.IsKeyLit (kl x)) (x : S32) (d : DataW Unit) (hd : d = gd (grp kl (kl x) l ++ [x.f2])) : Says kl (D.put (kl x) d) (l ++ [x]) := by
  refine ⟨h.map.put _ _, fun c hc => ?_, fun c hc => ?_⟩
  · rw [grp_snoc]
    by_cases e : kl x = c
    · subst e
      rw [if_pos rfl, Maps.atKey_put_same h.map hc, hd]
    · rw [if_neg e, Maps.atKey_put_other (fun e2 => e e2.symm), h.at_ c hc]
  · by_cases e : kl x = c
    · subst e
      rw [Maps.has_put_same h.map hc]
      simp
    · rw [Maps.has_put_other (fun e2 => e e2.symm), h.has c hc]
      constructor
      · rintro ⟨y, hy, hyc⟩; exact ⟨y, by simp [hy], hyc⟩
      · rintro ⟨y, hy, hyc⟩
        rcases List.mem_append.1 hy with hy | hy
        · exact ⟨y, hy, hyc⟩
        · rw [List.mem_singleton.1 hy] at hyc; exact absurd hyc e
theorem lits_inj {a b : List Int} (h : (lits .i64 a : List (DataW Unit)) = lits .i64 b) : a = b := by
  unfold lits at h
  refine List.map_inj_right (f := fun x : Int => (DataW.lit (.int .i64 x) : DataW Unit)) (fun x y e => ?_) |>.1 h
  injection e with e; injection e
theorem says_at {D : DataW Unit} {l : List S32} (h : Says kl D l) {c : Lit} (hc : WideAt.IsKeyLit c) {v : Value} {zs : List Int} {w : World} {base : Nat} {e : TypeId}
    (hat : D.atKey c .nil = rowDatum .i64 v zs) (ho : w.ownsInts base e .i64 v zs) : zs = grp kl c l := by
  rw [h.at_ c hc] at hat
  rcases ho.datum (H := Unit) with ⟨h1, h2⟩ | h1
  · rw [h1] at hat
    unfold gd at hat
    split at hat
    · rename_i hg; rw [hg, h2]
    · cases hat
  · rw [h1] at hat
    unfold gd at hat
    split at hat
    · cases hat
    · injection hat with hat; exact (lits_inj hat).symm
theorem gd_pos {zs : List Int} (h : zs ≠ []) : gd zs = .slice (lits .i64 zs) [] := by unfold gd; rw [if_neg h]
end Go.Proofs.Ytdfndbegifdejaa.PFlowExact
