/- The reference's sums: what its printed loops come to (no program in sight). -/
import Derived.Test.YtdfndbegifdejaaExch
import Derived.Test.YtdfndbegifdejaaGatS
namespace Go.Proofs.Ytdfndbegifdejaa.PFlowExact
set_option linter.unusedVariables false
set_option linter.unusedSimpArgs false
open Go.RowKit Go.Proofs.YtdfndbegifdejaaW.PrintWords Go.Sort
open Classical

def I64 (a : Int) : Prop := -9223372036854775808 ≤ a ∧ a ≤ 9223372036854775807
def ov (a b : Int) : Bool := (decide (b ≥ 0)) != (decide ((wrap64 (a + b)) ≥ a))
theorem ov_true {a b : Int} (ha : I64 a) (hb : I64 b) : ov a b = true ↔ ¬ I64 (a + b) := by
  unfold ov I64 at *
  unfold wrap64
  by_cases h : b ≥ 0
  · simp only [h, decide_true]
    constructor
    · intro h1; simp at h1; omega
    · intro h1; simp; omega
  · simp only [h, decide_false]
    constructor
    · intro h1; simp at h1; omega
    · intro h1; simp; omega
theorem wrap_in {a : Int} (h : I64 a) : wrap64 a = a := by unfold wrap64; unfold I64 at h; omega
theorem wrap_I64 (a : Int) : I64 (wrap64 a) := by unfold wrap64 I64; omega
theorem add_f {a b : Int} (ha : I64 a) (hb : I64 b) : payoffref03_add.f a b = some (if ov a b = true then (0, false) else (wrap64 (a + b), true)) := by
  by_cases h : ov a b = true
  · rw [if_pos h]
    have h1 := (ov_true ha hb).1 h
    have hw : (a ≥ 0 ∧ b ≥ 0 ∧ wrap64 (a + b) < 0) ∨ (a < 0 ∧ b < 0 ∧ wrap64 (a + b) ≥ 0) := by unfold wrap64; unfold I64 at *; omega
    unfold payoffref03_add.f
    rcases hw with ⟨h2, h3, h4⟩ | ⟨h2, h3, h4⟩
    · rw [if_pos h2, if_pos h3, if_pos h4]
    · rw [if_neg (by omega)]
      repeat' split
      all_goals first | rfl | (exfalso; omega)
  · rw [if_neg h]
    have h1 : I64 (a + b) := Classical.byContradiction fun h2 => h ((ov_true ha hb).2 h2)
    have hw := wrap_in h1
    unfold payoffref03_add.f
    rw [hw]
    unfold I64 at *
    repeat' split
    all_goals first | rfl | (exfalso; omega)

theorem sumF_cons (s x : Int) (r : List Int) : sumF s (x :: r) = if ov s x = true then (0, 1) else sumF (wrap64 (s + x)) r := rfl
theorem sumF_ok : ∀ (a b : List Int) (s t : Int), sumF s a = (t, 0) → sumF s (a ++ b) = sumF t b
  | [], b, s, t, h => by
    injection h with h1 _
    rw [List.nil_append, h1]
  | x :: a, b, s, t, h => by
    rw [List.cons_append, sumF_cons]
    rw [sumF_cons] at h
    split at h
    · cases h
    · rename_i hc
      rw [if_neg hc]; exact sumF_ok a b _ t h
theorem sumF_bad : ∀ (a b : List Int) (s : Int), sumF s a = (0, 1) → sumF s (a ++ b) = (0, 1)
  | [], b, s, h => by injection h with _ h; cases h
  | x :: a, b, s, h => by
    rw [List.cons_append, sumF_cons]
    rw [sumF_cons] at h
    split at h
    · rename_i hc; rw [if_pos hc]
    · rename_i hc; rw [if_neg hc]; exact sumF_bad a b _ h
theorem sumF_in : ∀ (a : List Int) (s t : Int), I64 s → sumF s a = (t, 0) → I64 t
  | [], s, t, hs, h => by injection h with h _; rw [← h]; exact hs
  | x :: a, s, t, hs, h => by
    rw [sumF_cons] at h
    split at h
    · cases h
    · exact sumF_in a _ t (wrap_I64 _) h

/-- A flow as it stands among the sums: without its day, where days do not count. -/
def nf (b : Bool) (x : S32) : S32 := ⟨if b = true then x.f0 else 0, x.f1, x.f2⟩
noncomputable def grpB (b : Bool) (y : S32) (l : List S32) : List Int := (l.filter (fun x => decide (keyEq (nf b x) y))).map (·.f2)
theorem grpB_app (b : Bool) (y : S32) (l m : List S32) : grpB b y (l ++ m) = grpB b y l ++ grpB b y m := by simp [grpB]
theorem grpB_one (b : Bool) (y x : S32) : grpB b y [x] = if keyEq (nf b x) y then [x.f2] else [] := by
  unfold grpB; by_cases h : keyEq (nf b x) y <;> simp [h]
theorem keyEq.symm {a b : S32} (h : keyEq a b) : keyEq b a := ⟨h.1.symm, h.2.symm⟩
theorem keyEq.trans {a b c : S32} (h : keyEq a b) (h' : keyEq b c) : keyEq a c := ⟨h.1.trans h'.1, h.2.trans h'.2⟩
theorem grpB_key (b : Bool) {y z : S32} (h : keyEq y z) (l : List S32) : grpB b y l = grpB b z l := by
  unfold grpB
  congr 1
  apply List.filter_congr
  intro x _
  have : keyEq (nf b x) y ↔ keyEq (nf b x) z := ⟨fun h1 => h1.trans h, fun h1 => h1.trans h.symm⟩
  simp [this]

/-- What has been gathered of a list: each key once, with its sum. -/
structure St (b : Bool) (l : List S32) (L : List S32) : Prop where
  dist : Dist L
  sum : ∀ p, p < L.length → sumF 0 (grpB b (acc L p) l) = ((acc L p).f2, 0)
  came : ∀ p, p < L.length → ∃ x ∈ l, keyEq (nf b x) (acc L p)
  there : ∀ x ∈ l, ∃ p, p < L.length ∧ keyEq (nf b x) (acc L p)
  len : L.length ≤ l.length

theorem acc_app (L : List S32) (y : S32) (p : Nat) : acc (L ++ [y]) p = if p < L.length then acc L p else if p = L.length then y else z32 := by
  unfold acc rd_T32
  simp only [Int.toNat_natCast, List.getD, List.getElem?_append]
  by_cases h : p < L.length
  · rw [if_pos h, if_pos h]
  · rw [if_neg h, if_neg h]
    by_cases h2 : p = L.length
    · subst h2; rw [if_pos rfl]; simp
    · rw [if_neg h2]
      have : [y][p - L.length]? = none := by rw [List.getElem?_eq_none_iff]; simp; omega
      rw [this]; rfl

theorem St.nil (b : Bool) : St b [] [] := ⟨fun p q h1 h2 => by simp at h2, fun p h => by simp at h, fun p h => by simp at h, fun x h => by simp at h, Nat.le_refl _⟩
theorem St.push {b : Bool} {l L : List S32} (h : St b l L) (x : S32) (hx : I64 x.f2) (hno : ∀ p, p < L.length → ¬ keyEq (acc L p) (nf b x)) : St b (l ++ [x]) (L ++ [nf b x]) := by
  have hg : grpB b (nf b x) l = [] := by
    unfold grpB
    rw [List.map_eq_nil_iff, List.filter_eq_nil_iff]
    intro y hy
    obtain ⟨p, hp, hk⟩ := h.there y hy
    simp only [decide_eq_true_eq]
    exact fun h1 => hno p hp (hk.symm.trans h1)
  have hl : (L ++ [nf b x]).length = L.length + 1 := by simp
  refine ⟨fun p q hpq hq => ?_, fun p hp => ?_, fun p hp => ?_, fun y hy => ?_, by simp; exact h.len⟩
  · rw [hl] at hq
    rw [acc_app, acc_app, if_pos (by omega)]
    by_cases e : q < L.length
    · rw [if_pos e]; exact h.dist p q hpq e
    · rw [if_neg e, if_pos (by omega)]; exact hno p (by omega)
  · rw [hl] at hp
    rw [acc_app]
    by_cases e : p < L.length
    · rw [if_pos e, grpB_app, grpB_one, if_neg (fun h1 => hno p e h1.symm), List.append_nil]
      exact h.sum p e
    · rw [if_neg e, if_pos (by omega), grpB_app, hg, grpB_one, if_pos ⟨rfl, rfl⟩, List.nil_append, sumF_cons]
      have h0 : I64 0 := by unfold I64; omega
      have hn : ¬ ov 0 x.f2 = true := fun h1 => (ov_true h0 hx).1 h1 (by simpa using hx)
      rw [if_neg hn, show (0 : Int) + x.f2 = x.f2 by omega, wrap_in hx]
      rfl
  · rw [hl] at hp
    rw [acc_app]
    by_cases e : p < L.length
    · rw [if_pos e]
      obtain ⟨y, hy, hk⟩ := h.came p e
      exact ⟨y, by simp [hy], hk⟩
    · rw [if_neg e, if_pos (by omega)]
      exact ⟨x, by simp, rfl, rfl⟩
  · rcases List.mem_append.1 hy with hy | hy
    · obtain ⟨p, hp, hk⟩ := h.there y hy
      exact ⟨p, by rw [hl]; omega, by rw [acc_app, if_pos hp]; exact hk⟩
    · rw [List.mem_singleton.1 hy]
      exact ⟨L.length, by rw [hl]; omega, by rw [acc_app, if_neg (Nat.lt_irrefl _), if_pos rfl]; exact ⟨rfl, rfl⟩⟩
theorem St.add {b : Bool} {l L : List S32} (h : St b l L) (x : S32) (p : Nat) (hp : p < L.length) (hk : keyEq (acc L p) (nf b x)) (hn : ¬ ov (acc L p).f2 x.f2 = true) :
    St b (l ++ [x]) (L.set p ⟨(acc L p).f0, (acc L p).f1, wrap64 ((acc L p).f2 + x.f2)⟩) := by
  have key : ∀ q, keyEq (acc (L.set p ⟨(acc L p).f0, (acc L p).f1, wrap64 ((acc L p).f2 + x.f2)⟩) q) (acc L q) := fun q => by
    rw [acc_set _ _ _ _ hp]
    by_cases e : q = p
    · subst e; rw [if_pos rfl]; exact ⟨rfl, rfl⟩
    · rw [if_neg e]; exact ⟨rfl, rfl⟩
  refine ⟨fun q r hqr hr => ?_, fun q hq => ?_, fun q hq => ?_, fun y hy => ?_, by simp; have := h.len; omega⟩
  · rw [List.length_set] at hr
    exact fun h1 => h.dist q r hqr hr ((key q).symm.trans (h1.trans (key r)))
  · rw [List.length_set] at hq
    rw [grpB_key b (key q), grpB_app, grpB_one, acc_set _ _ _ _ hp]
    by_cases e : q = p
    · subst e
      rw [if_pos hk.symm, if_pos rfl, sumF_ok _ _ _ _ (h.sum q hq), sumF_cons, if_neg hn]
      rfl
    · rw [if_neg e, if_neg (fun h1 => h.dist.ne hq hp e (h1.symm.trans hk.symm)), List.append_nil]
      exact h.sum q hq
  · rw [List.length_set] at hq
    obtain ⟨y, hy, h1⟩ := h.came q hq
    exact ⟨y, by simp [hy], h1.trans (key q).symm⟩
  · rcases List.mem_append.1 hy with hy | hy
    · obtain ⟨q, hq, h1⟩ := h.there y hy
      exact ⟨q, by rw [List.length_set]; exact hq, h1.trans (key q).symm⟩
    · rw [List.mem_singleton.1 hy]
      exact ⟨p, by rw [List.length_set]; exact hp, hk.symm.trans (key p).symm⟩
end Go.Proofs.Ytdfndbegifdejaa.PFlowExact
