/- Own words over any program: a row of one's own of structs without rows inside, as the library's sorting knows it, and back. -/
import Derived.Test.YtdfndbegifdejaaMine
import Derived.Test.YtdfndbegifdejaaSwapR
namespace Go.Proofs.YtdfndbegifdejaaMine
set_option linter.unusedVariables false
set_option linter.unusedSimpArgs false
set_option linter.unusedSectionVars false
open Go.RowKit Go.Proofs.YtdfndbegifdejaaW.PrintWords Go.Proofs Go.Shelf Go.Lib Go.Sort
section
variable {α : Type} [Inhabited α]

/-- A kind whose elements are just their cells. -/
structure Flat0 (d : Kd α) (enc : α → List Value) : Prop where
  opens : ∀ {w : World} {x : α} {cs : List Value}, d.K w x cs → cs = enc x
  made : ∀ (w : World) (base : Nat) (ok : Nat → Prop) (x : α), d.M w base ok x (enc x)

variable {d : Kd α} {enc : α → List Value}
theorem Flat0.len (h : Flat0 d enc) (x : α) : (enc x).length = d.sz := d.K_len (d.K_of_M (h.made default 0 (fun _ => True) x))
theorem Flat0.one (h : Flat0 d enc) (x : α) : ∀ u ∈ enc x, u.oneCell' = true := d.K_one (d.K_of_M (h.made default 0 (fun _ => True) x))

theorem Flat0.flat (h : Flat0 d enc) {w : World} {base : Nat} {ok : Nat → Prop} {xs : List α} {cs : List Value} (hr : Reps (d.M w base ok) d.sz xs cs) (hs : 0 < d.sz) : cs = (flatK enc d.sz xs.toArray).toList := by
  apply List.ext_getElem?
  intro j
  by_cases hj : j < xs.length * d.sz
  · have h1 : j / d.sz < xs.length := Nat.div_lt_of_lt_mul (by rw [Nat.mul_comm]; exact hj)
    have h2 := hr.2 (j / d.sz) (xs[j / d.sz]) (by simp [h1])
    have h3 := h.opens (d.K_of_M h2)
    have h4 : j % d.sz < d.sz := Nat.mod_lt _ hs
    have h5 : cs[j]? = (enc xs[j / d.sz])[j % d.sz]? := by
      rw [← h3, List.getElem?_take, if_pos h4, List.getElem?_drop, Nat.mul_comm, Nat.div_add_mod]
    have h6 := get_flatK enc d.sz xs.toArray j (by simpa using hj)
    have h7 : xs.toArray[j / d.sz]! = xs[j / d.sz] := by rw [getElem!_pos xs.toArray (j / d.sz) (by simpa using h1)]; simp
    have h8 : (flatK enc d.sz xs.toArray).toList[j]? = some (flatK enc d.sz xs.toArray)[j]! := by
      rw [Array.getElem?_toList, getElem!_pos _ j (by simpa using hj), getElem?_pos _ j (by simpa using hj)]
    rw [h5, h8, h6, h7, getElem?_pos _ _ (by rw [h.len]; exact h4), getElem!_pos _ _ (by rw [h.len]; exact h4)]
  · have e1 : cs[j]? = none := by rw [List.getElem?_eq_none_iff, hr.1]; omega
    have e2 : (flatK enc d.sz xs.toArray).toList[j]? = none := by rw [List.getElem?_eq_none_iff]; simp; omega
    rw [e1, e2]

theorem Flat0.reps (h : Flat0 d enc) (w : World) (base : Nat) (ok : Nat → Prop) (xs : List α) (hs : 0 < d.sz) : Reps (d.M w base ok) d.sz xs (flatK enc d.sz xs.toArray).toList := by
  refine ⟨by simp, fun i p hp => ?_⟩
  have hi : i < xs.length := (List.getElem?_eq_some_iff.1 hp).1
  have e : ((flatK enc d.sz xs.toArray).toList.drop (i * d.sz)).take d.sz = enc p := by
    apply List.ext_getElem?
    intro c
    rw [List.getElem?_take]
    by_cases hc : c < d.sz
    · have hlt : i * d.sz + c < xs.length * d.sz := by
        have := Nat.mul_le_mul_right d.sz (show i + 1 ≤ xs.length from hi)
        rw [Nat.add_mul, Nat.one_mul] at this; omega
      rw [if_pos hc, List.getElem?_drop, Array.getElem?_toList, getElem?_pos _ _ (by simpa using hlt)]
      have h6 := get_flatK enc d.sz xs.toArray (i * d.sz + c) (by simpa using hlt)
      rw [getElem!_pos _ _ (by simpa using hlt)] at h6
      have e1 : (i * d.sz + c) / d.sz = i := by rw [Nat.add_comm, Nat.add_mul_div_right _ _ hs, Nat.div_eq_of_lt hc, Nat.zero_add]
      have e2 : (i * d.sz + c) % d.sz = c := by rw [Nat.add_comm, Nat.add_mul_mod_self_right, Nat.mod_eq_of_lt hc]
      rw [h6, e1, e2]
      have e3 : xs.toArray[i]! = p := by
        rw [getElem!_pos _ i (by simpa using hi)]
        have := (List.getElem?_eq_some_iff.1 hp).2
        simpa using this
      rw [e3, getElem?_pos _ c (by rw [h.len]; exact hc), getElem!_pos _ c (by rw [h.len]; exact hc)]
    · rw [if_neg hc, List.getElem?_eq_none_iff.2 (by rw [h.len]; omega)]
  rw [e]
  exact h.made w base ok p

variable {e : Nat} {W w' : World} {base : Nat} {ok : Nat → Prop} {g cap : Nat} {xs : List α} {dk : Array α}

theorem Flat0.sort_in (h : Flat0 d enc) (hs : 0 < d.sz) (hr : d.R e W base ok (.slice (some ⟨g, 0, none⟩) xs.length cap) xs) : RowK enc d.sz W g 0 xs.toArray ∧ SWK enc d.sz W g 0 xs.toArray W := by
  obtain ⟨hok, inner, hown, hrp⟩ := hr
  rcases hown.2 with ⟨hv, _⟩ | ⟨g', cap', cur, hv, hb, hh, hn, hcm, hcs, ht⟩
  · cases hv
  · cases hv
    have hfl := h.flat hrp hs
    have hH : HoldsK enc d.sz W g 0 xs.toArray := by
      intro j hj
      rw [Nat.zero_add]
      refine ⟨?_, blk_frozen hh j⟩
      rw [blk_cell hh j]
      have hj' : j < xs.length * d.sz := by simpa using hj
      have e1 : cur[j]? = inner[j]? := by
        rw [← ht, List.getElem?_take, if_pos hj', Array.getElem?_toList]
      have h8 : (flatK enc d.sz xs.toArray).toList[j]? = some (flatK enc d.sz xs.toArray)[j]! := by
        rw [Array.getElem?_toList, getElem!_pos _ j hj, getElem?_pos _ j hj]
      rw [e1, hfl, h8]
      rfl
    exact ⟨⟨h.len, h.one, hH, blk_lt hh⟩, SWK.start hH⟩

theorem Flat0.sort_out (h : Flat0 d enc) (hs : 0 < d.sz) (hr : d.R e W base ok (.slice (some ⟨g, 0, none⟩) xs.length cap) xs) (hw : SWK enc d.sz W g 0 dk w') (hl : dk.size = xs.length) :
    d.R e w' base ok (.slice (some ⟨g, 0, none⟩) xs.length cap) dk.toList ∧ W.grownBy w' (some g) := by
  obtain ⟨n, os, rfl⟩ := hw
  obtain ⟨hok, inner, hown, hrp⟩ := hr
  rcases hown.2 with ⟨hv, _⟩ | ⟨g', cap', cur, hv, hb, hh, hn, hcm, hcs, ht⟩
  · cases hv
  · cases hv
    have hlt := blk_lt hh
    have hheap : (sortWorldK enc d.sz W g 0 n dk os).heap = W.heap.modify g (onCells (putCells id 0 (flatK enc d.sz dk))) ++ os := rfl
    have hsz : (W.heap.modify g (onCells (putCells id 0 (flatK enc d.sz dk)))).size = W.heap.size := by simp
    have hg : (sortWorldK enc d.sz W g 0 n dk os).heap[g]? = some (.cells (putCells id 0 (flatK enc d.sz dk) cur) e (0, 0)) := by
      rw [hheap, Array.getElem?_append_left (by rw [hsz]; exact hlt), Array.getElem?_modify, if_pos rfl, hh]
      rfl
    refine ⟨⟨hok, (flatK enc d.sz dk).toList, ⟨by simp, .inr ⟨g, cap, _, by simp [hl], hb, hg, by simp [hl]; exact hn, hcm, by simp [putCells, hcs], ?_⟩⟩, ?_⟩, ⟨rfl, rfl, rfl, ?_, fun k hk hne => ?_⟩⟩
    · have hfit : xs.length * d.sz ≤ cap * d.sz := Nat.mul_le_mul_right _ hn
      apply List.ext_getElem?
      intro j
      rw [List.getElem?_take]
      by_cases hj : j < dk.size * d.sz
      · have hjc : j < cur.size := by rw [hcs]; rw [hl] at hj; omega
        rw [if_pos (by simpa using hj), Array.getElem?_toList, Array.getElem?_toList]
        simp only [putCells, Array.getElem?_mapIdx, getElem?_pos cur j hjc, Option.map_some]
        rw [if_pos (by simp; exact hj), Nat.sub_zero, getElem?_pos _ j (by simpa using hj), getElem!_pos _ j (by simpa using hj)]
        rfl
      · rw [if_neg (by simpa using hj)]
        symm
        rw [List.getElem?_eq_none_iff]; simp; omega
    · have := h.reps (sortWorldK enc d.sz W g 0 n dk os) base (fun k => ok k ∧ some k ≠ (Value.slice (some ⟨g, 0, none⟩) xs.length cap).ownBlock) dk.toList hs
      simpa using this
    · rw [hheap, Array.size_append, hsz]; omega
    · rw [hheap, Array.getElem?_append_left (by rw [hsz]; exact hk), Array.getElem?_modify, if_neg (fun e1 => hne (by rw [e1]))]
end
end Go.Proofs.YtdfndbegifdejaaMine
