/- The library's sorting of places (a day and a currency) by flow.Net's comparing closure, of a row of one's own. -/
import Derived.Test.YtdfndbegifdejaaNetCmp
import Derived.Test.YtdfndbegifdejaaSrtS
import Derived.Test.YtdfndbegifdejaaGrpP
import Derived.Shelf.SlSortCmp.WholeK
namespace Go.Proofs.Ytdfndbegifdejaa.PFlowExact
set_option linter.unusedVariables false
set_option linter.unusedSimpArgs false
open Go.RowKit Go.Proofs.YtdfndbegifdejaaW.PrintWords Go.Proofs.YtdfndbegifdejaaW.PrintLast Go.Proofs.YtdfndbegifdejaaW.PrintMore Go.Proofs.YtdfndbegifdejaaMine Go.Proofs Go.Shelf Go.Sort Go.Lib
open Go.Proofs.Ytdfndbegifdejaa.GNetC (pcmp netCmp c3)

instance : Inhabited Pl := ⟨⟨0, ByteArray.empty⟩⟩
def encP (x : Pl) : List Value := [.int .i64 x.d, .string x.c]
def k82 : Kd Pl := Kd.iso (Kd.pair (Kd.int .i64) Kd.string) (fun x : Pl => (x.d, x.c))
theorem k82_open {w : World} {x : Pl} {cs : List Value} (h : k82.K w x cs) : cs = [.int .i64 x.d, .string x.c] := by
  obtain ⟨_, _, rfl, rfl, rfl⟩ := h
  exact rfl
theorem k82_openM {w : World} {base : Nat} {ok : Nat → Prop} {x : Pl} {cs : List Value} (h : k82.M w base ok x cs) : cs = [.int .i64 x.d, .string x.c] := by
  obtain ⟨_, _, rfl, rfl, rfl⟩ := h
  exact rfl
theorem k82_mk (w : World) (x : Pl) : k82.K w x [.int .i64 x.d, .string x.c] := ⟨[.int .i64 x.d], [.string x.c], rfl, rfl, rfl⟩
theorem k82_mkM (w : World) (base : Nat) (ok : Nat → Prop) (x : Pl) : k82.M w base ok x [.int .i64 x.d, .string x.c] := ⟨[.int .i64 x.d], [.string x.c], rfl, rfl, rfl⟩
def z82 : Pl := ⟨0, ⟨#[]⟩⟩
def rd_T82 (xs : List Pl) (i : Int) : Pl := xs.getD i.toNat z82
theorem at_T82 {w : World} {A : Option Addr} {n : Nat} {xs : List Pl} (h : Kd.C k82 w A n xs) (i : Int) (h0 : 0 ≤ i) (h1 : i < n) : ∃ ad , A = some ad ∧ w.cell? (ad.add (i.toNat * 2)) = some (.int .i64 (rd_T82 xs i).d) ∧ w.cell? ⟨(ad.add (i.toNat * 2)).block, (ad.add (i.toNat * 2)).off + 1, none⟩ = some (.string (rd_T82 xs i).c) := by
  obtain ⟨ad, c, e, _, hK, hc0⟩ := Kd.C_get h z82 i h0 h1
  have hc : ∀ j u, c[j]? = some u → w.cell? (ad.add (i.toNat * 2 + j)) = some u := hc0
  obtain rfl := k82_open hK
  exact ⟨ad, e, hc 0 _ rfl, by rw [← add_field _ _ 1 (by omega)]; exact hc 1 _ rfl⟩
theorem flat82 : Flat0 k82 encP := ⟨fun h => k82_open h, fun w b ok x => k82_mkM w b ok x⟩

/-- The order of places. -/
def pless (a b : Pl) : Bool := decide (a.d < b.d) || (decide (a.d = b.d) && sless a.c b.c)
theorem ltOf_pcmp : ltOf pcmp = pless := by
  funext a b
  have hs : ∀ x y, decide (scmp x y < 0) = sless x y := fun x y => congrFun (congrFun ltOf_scmp x) y
  unfold ltOf pcmp pless
  rw [← hs]
  unfold c3
  by_cases h1 : a.d < b.d
  · simp [h1]
  · by_cases h2 : b.d < a.d
    · have h3 : a.d ≠ b.d := by omega
      simp [h1, h2, h3]
    · have h3 : a.d = b.d := by omega
      simp [h1, h2, h3]
theorem sless_trans {a b c : ByteArray} (h1 : sless a b = true) (h2 : sless b c = true) : sless a c = true := swo_sless.trans a b c h1 h2
theorem swo_pless : SWO pless where
  irrefl a := by simp [pless, swo_sless.irrefl]
  trans a b c h1 h2 := by
    simp only [pless, Bool.or_eq_true, Bool.and_eq_true, decide_eq_true_eq] at *
    rcases h1 with h1 | ⟨h1, h1'⟩ <;> rcases h2 with h2 | ⟨h2, h2'⟩
    · left; omega
    · left; omega
    · left; omega
    · exact .inr ⟨by omega, sless_trans h1' h2'⟩
  ntrans a b c h1 h2 := by
    simp only [pless, Bool.or_eq_false_iff, Bool.and_eq_false_iff, decide_eq_false_iff_not] at *
    obtain ⟨h1, h1'⟩ := h1
    obtain ⟨h2, h2'⟩ := h2
    refine ⟨by omega, ?_⟩
    by_cases e : a.d = c.d
    · right
      have e1 : a.d = b.d := by omega
      have e2 : b.d = c.d := by omega
      rcases h1' with h1' | h1'
      · exact absurd e1 h1'
      rcases h2' with h2' | h2'
      · exact absurd e2 h2'
      exact swo_sless.ntrans _ _ _ h1' h2'
    · exact .inl e
theorem pless_ext {a b : Pl} (h1 : pless a b = false) (h2 : pless b a = false) : a = b := by
  simp only [pless, Bool.or_eq_false_iff, Bool.and_eq_false_iff, decide_eq_false_iff_not] at h1 h2
  obtain ⟨d, c⟩ := a
  obtain ⟨d', c'⟩ := b
  simp only at h1 h2
  have e : d = d' := by omega
  subst e
  have : c = c' := sless_ext (by simpa using h1.2) (by simpa using h2.2)
  rw [this]

theorem netCmp.lays (blk off size : Nat) (w : World) : CmpLays Try.prog 48 #[] encP 2 pcmp blk off size w := fun m os dk hs x y => by
  refine (netCmp x y _).mono ?_
  rintro e w' ⟨rfl, q, os', rfl⟩
  exact ⟨rfl, q, os', rfl⟩

theorem sortPls_none (w : World) : Calls Try.prog 63 #[.slice none 0 0, .func (.func 48) #[] #[]] w fun e w' => e = .returned (.tuple #[]) ∧ w' = w :=
  AnyF.slices_SortFunc_none (P := Try.prog) (ρ := sortPlacesRen) sortPlaces none 0 _ w

set_option maxHeartbeats 1000000 in
theorem sortPls_row (W : World) (base : Nat) (ok : Nat → Prop) (v : Value) (xs : List Pl) (hr : k82.R 82 W base ok v xs) (hn : xs.length < 4611686018427387904) :
    Calls Try.prog 63 #[v, .func (.func 48) #[] #[]] W fun e w' => e = .returned (.tuple #[]) ∧ ∃ m : List Pl, m.length = xs.length ∧ k82.R 82 w' base ok v m ∧ W.grownBy w' v.ownBlock ∧ m.Perm xs ∧ m.Pairwise (fun a b => pless b a = false) := by
  obtain ⟨inner, hown⟩ := Kd.R_own hr
  rcases hown.2 with ⟨rfl, h0⟩ | ⟨g, cap, cur, rfl, _⟩
  · obtain rfl := List.eq_nil_of_length_eq_zero h0
    refine (sortPls_none W).mono ?_
    rintro e w' ⟨rfl, rfl⟩
    exact ⟨rfl, [], rfl, hr, World.grownBy.refl _ _, List.Perm.refl _, List.Pairwise.nil⟩
  · obtain ⟨⟨_, _, hH, hlt⟩, _⟩ := flat82.sort_in (by decide) hr
    have hc := AnyQ.slices_SortFunc sortPlaces 2 Try.isAgg82 Try.sizeOf82 encP (fun _ => rfl) (fun x v hv => by
      simp only [encP, List.mem_cons, List.not_mem_nil, or_false] at hv
      rcases hv with rfl | rfl <;> rfl) pcmp (by rw [ltOf_pcmp]; exact swo_pless) 48 #[] g 0 cap xs.toArray W (enters_of Try.func48 (by kernel_rfl) rfl) (netCmp.lays _ _ _ _) hH hlt (by simpa using hn)
    rw [List.size_toArray] at hc
    refine hc.mono ?_
    rintro e w' ⟨rfl, dk, n, os, hp, hso, rfl⟩
    have hl : dk.size = xs.length := by have := hp.1; simpa using this
    obtain ⟨h1, h2⟩ := flat82.sort_out (by decide) hr ⟨n, os, rfl⟩ hl
    refine ⟨rfl, dk.toList, by simpa using hl, h1, h2, ?_, ?_⟩
    · have h3 := hp.2.2
      have e1 : dk.extract 0 xs.length = dk := by rw [← hl]; exact Array.extract_size
      have e2 : xs.toArray.extract 0 xs.length = xs.toArray := Array.extract_size
      rw [e1, e2] at h3
      simpa using h3
    · rw [List.pairwise_iff_getElem]
      intro i j hi hj hij
      have := hso i j (Nat.zero_le _) hij (by simp at hj; omega)
      rw [ltOf_pcmp, getElem!_pos _ j (by simpa using hj), getElem!_pos _ i (by simpa using hi)] at this
      simpa using this
end Go.Proofs.Ytdfndbegifdejaa.PFlowExact
