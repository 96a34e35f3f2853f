import Derived.Test.YtdfndbegifdejaaFyh
import Derived.Shelf.SlSortCmp.KitK
import Derived.Sort.WalkB2
import Derived.Sort.WalkB12
import Derived.Deep.LoopGhost
import Derived.Test.YtdfndbegifdejaaChecked
section
namespace Go.Proofs.YtdfndbegifdejaaStab
set_option linter.unusedVariables false
set_option linter.unusedSimpArgs false
set_option linter.unusedSectionVars false
open Go Go.Proofs Go.Shelf Go.RowKit Go.Lib Go.Sort
variable {P : Program} {α : Type} [Inhabited α]
structure Lays (P : Program) (k : Nat) : Prop where
  mixed : P.follows .mixedOrders = true
  f93 : P.funcs[93]? = some Try.f93
  f74 : P.funcs[74]? = some Try.f74
  f68 : P.funcs[68]? = some Try.f68
  f67 : P.funcs[67]? = some Try.f67
  f59 : P.funcs[59]? = some Try.f59
  f40 : P.funcs[40]? = some Try.f40
  t0 : P.underlying 0 = some (TypeDesc.tuple #[])
  a0 : ∀ w, (isAgg 0).run P w = .ok false w
  z0 : ∀ w, (Go.sizeOf 0).run P w = .ok 1 w
  v0 : ∀ w, (zeroValue 0).run P w = .ok (Value.tuple #[]) w
  t3 : P.underlying 3 = some (TypeDesc.int IntKind.i64)
  a3 : ∀ w, (isAgg 3).run P w = .ok false w
  z3 : ∀ w, (Go.sizeOf 3).run P w = .ok 1 w
  v3 : ∀ w, (zeroValue 3).run P w = .ok (Value.int IntKind.i64 0) w
  t4 : P.underlying 4 = some TypeDesc.bool
  a4 : ∀ w, (isAgg 4).run P w = .ok false w
  z4 : ∀ w, (Go.sizeOf 4).run P w = .ok 1 w
  v4 : ∀ w, (zeroValue 4).run P w = .ok (Value.bool false) w
  t22 : P.underlying 22 = some (TypeDesc.slice 32)
  a22 : ∀ w, (isAgg 22).run P w = .ok false w
  z22 : ∀ w, (Go.sizeOf 22).run P w = .ok 1 w
  v22 : ∀ w, (zeroValue 22).run P w = .ok (Value.slice none 0 0) w
  t35 : P.underlying 35 = some (TypeDesc.func #[32, 32] #[3] false)
  a35 : ∀ w, (isAgg 35).run P w = .ok false w
  z35 : ∀ w, (Go.sizeOf 35).run P w = .ok 1 w
  v35 : ∀ w, (zeroValue 35).run P w = .ok Value.nilFunc w
  t115 : P.underlying 115 = some (TypeDesc.int IntKind.u64)
  a115 : ∀ w, (isAgg 115).run P w = .ok false w
  z115 : ∀ w, (Go.sizeOf 115).run P w = .ok 1 w
  aE : ∀ w, (isAgg 32).run P w = .ok true w
  zE : ∀ w, (Go.sizeOf 32).run P w = .ok k w
theorem lays : Lays Try.prog 3 where
  mixed := by kernel_rfl
  f93 := Try.func93
  f74 := Try.func74
  f68 := Try.func68
  f67 := Try.func67
  f59 := Try.func59
  f40 := Try.func40
  t0 := Try.underlying0
  a0 := Try.isAgg0
  z0 := Try.sizeOf0
  v0 := Try.zeroValue0
  t3 := Try.underlying3
  a3 := Try.isAgg3
  z3 := Try.sizeOf3
  v3 := Try.zeroValue3
  t4 := Try.underlying4
  a4 := Try.isAgg4
  z4 := Try.sizeOf4
  v4 := Try.zeroValue4
  t22 := Try.underlying22
  a22 := Try.isAgg22
  z22 := Try.sizeOf22
  v22 := Try.zeroValue22
  t35 := Try.underlying35
  a35 := Try.isAgg35
  z35 := Try.sizeOf35
  v35 := Try.zeroValue35
  t115 := Try.underlying115
  a115 := Try.isAgg115
  z115 := Try.sizeOf115
  aE := Try.isAgg32
  zE := Try.sizeOf32
def swI (p q i t : Nat) : Nat := if p ≤ t ∧ t < p + i then q + (t - p) else if q ≤ t ∧ t < q + i then p + (t - q) else t
theorem swI_succ (p q i n t : Nat) (hpq : p + n ≤ q) (hi : i < n) : swI p q (i + 1) t = if t = q + i then swI p q i (p + i) else if t = p + i then swI p q i (q + i) else swI p q i t := by
  unfold swI
  by_cases h1 : t = q + i
  · subst h1; rw [if_pos rfl, if_neg (by omega), if_pos (by omega), if_neg (by omega), if_neg (by omega)]; omega
  · rw [if_neg h1]
    by_cases h2 : t = p + i
    · subst h2; rw [if_pos rfl, if_pos (by omega), if_neg (by omega), if_neg (by omega)]; omega
    · rw [if_neg h2]
      by_cases h3 : p ≤ t ∧ t < p + i
      · rw [if_pos (by omega), if_pos h3]
      · rw [if_neg (by omega), if_neg h3]
        by_cases h4 : q ≤ t ∧ t < q + i
        · rw [if_pos (by omega), if_pos h4]
        · rw [if_neg (by omega), if_neg h4]
set_option maxHeartbeats 4000000 in
set_option maxRecDepth 1000000 in
theorem swapRange (k : Nat) (L : Lays P k) (enc : α → List Value) (g : Nat) (cb : Array Value) (blk off cap p q n : Nat) (d0 d : Array α) (w0 w : World)
    (R : RowK enc k w0 blk off d0) (hs : d0.size = d.size) (S : SWK enc k w0 blk off d w) (hpq : p + n ≤ q) (hq : q + n ≤ d.size) (hsz : d.size < 4611686018427387904) :
    Calls P 93 #[.slice (some ⟨blk, off, none⟩) d.size cap, .int .i64 p, .int .i64 q, .int .i64 n, .func (.func g) #[] cb] w fun e w' =>
      e = .returned (.tuple #[]) ∧ ∃ dk : Array α, dk.size = d.size ∧ (∀ t, dk[t]! = d[swI p q n t]!) ∧ SWK enc k w0 blk off dk w' := by
  have mixed := L.mixed; have t0 := L.t0; have a0 := L.a0; have z0 := L.z0; have v0 := L.v0; have t3 := L.t3; have a3 := L.a3; have z3 := L.z3; have v3 := L.v3; have t4 := L.t4; have a4 := L.a4; have z4 := L.z4; have v4 := L.v4; have t22 := L.t22; have a22 := L.a22; have z22 := L.z22; have v22 := L.v22; have t35 := L.t35; have a35 := L.a35; have z35 := L.z35; have v35 := L.v35; have aE := L.aE; have zE := L.zE
  have FG := L.f93
  have S0 : Aside (SWK enc k w0 blk off d w) := S
  clear S L
  go_enter FG, Try.ntmps93
  go_wp2
  go_loopg [10] n (fun kx s10 wr => ∃ (i : Nat) (dk : Array α), s10 = .int .i64 i ∧ i ≤ n ∧ n - i ≤ kx ∧ dk.size = d.size ∧ Aside (SWK enc k w0 blk off dk wr) ∧ Aside (∀ t, dk[t]! = d[swI p q i t]!))
  case atStart => exact ⟨0, d, rfl, Nat.zero_le _, by omega, rfl, S0, (show Aside _ from fun t => by unfold swI; rw [if_neg (by omega), if_neg (by omega)])⟩
  case round =>
    clear S0
    obtain ⟨i, dk, rfl, hi, hkx, hds, S1, HE⟩ := hrel
    by_cases hlt : i < n
    · have hltz : (i : Int) < (n : Int) := by omega
      go_wp2_with fail
      have ea44 : ((p : Int) + (i : Int)).toNat = p + i := by omega
      have pa44 : (0 : Int) ≤ (p : Int) + (i : Int) := by omega
      have ba44 : (p : Int) + (i : Int) < (d.size : Int) := by omega
      have ra44 : IntKind.i64.wrap ((p : Int) + (i : Int)) = (p : Int) + (i : Int) := by rw [IntKind.wrap_i64]; omega
      have ec44 : ((q : Int) + (i : Int)).toNat = q + i := by omega
      have pc44 : (0 : Int) ≤ (q : Int) + (i : Int) := by omega
      have bc44 : (q : Int) + (i : Int) < (d.size : Int) := by omega
      have rc44 : IntKind.i64.wrap ((q : Int) + (i : Int)) = (q : Int) + (i : Int) := by rw [IntKind.wrap_i64]; omega
      have S2 : Aside (SWK enc k w0 blk off (swp dk (p + i) (q + i)) ((wr.drew.setCells blk (off + (p + i) * k) (enc dk[q + i]!)).setCells blk (off + (q + i) * k) (enc dk[p + i]!))) := S1.out.swapped R (p + i) (q + i) (by omega) (by omega)
      have l44a := S1.out.ld1 R (by omega) P (p + i) (by omega)
      have l44b := S1.out.ld1 R (by omega) P (q + i) (by omega)
      have s44a := S1.out.st1 R (by omega) P (p + i) (by omega) dk[q + i]!
      have s44b := S1.out.st2 R (by omega) P (p + i) (q + i) (by omega) (by omega) dk[q + i]! dk[p + i]!
      have n44a : (enc dk[p + i]!).length = k := R.hk _
      have n44b : (enc dk[q + i]!).length = k := R.hk _
      generalize enc dk[p + i]! = cI44 at S2 l44a s44b n44a
      generalize enc dk[q + i]! = cJ44 at S2 l44b s44a s44b n44b
      clear S1
      go_wp2_with fail
      go_big_region_o
      clear l44a l44b s44a s44b
      generalize (wr.drew.setCells blk (off + (p + i) * k) cJ44).setCells blk (off + (q + i) * k) cI44 = w2 at S2 ⊢
      go_wp2
      go_roundg (n - (i + 1))
      case measure => omega
      case rel =>
        refine ⟨i + 1, swp dk (p + i) (q + i), by simp, by omega, Nat.le_refl _, by rw [size_swp]; exact hds, S2, (show Aside _ from fun t => ?_)⟩
        rw [swp_get dk (by omega) (by omega), HE.out, HE.out, HE.out]
        rw [swI_succ p q i n t hpq hlt]
        by_cases e1 : t = q + i
        · rw [if_pos e1, if_pos e1]
        · rw [if_neg e1, if_neg e1]
          by_cases e2 : t = p + i
          · rw [if_pos e2, if_pos e2]
          · rw [if_neg e2, if_neg e2]
    · have hltz : ¬ (i : Int) < (n : Int) := by omega
      obtain rfl : i = n := by omega
      go_wp2
      go_end0
      exact ⟨rfl, dk, hds, HE.out, S1.out⟩
end Go.Proofs.YtdfndbegifdejaaStab
end
section
namespace Go.Proofs.YtdfndbegifdejaaMine
set_option linter.unusedVariables false
set_option linter.unusedSimpArgs false
set_option linter.unusedSectionVars false
open Go.RowKit Go.Proofs.YtdfndbegifdejaaW.PrintWords Go.Proofs Go.Shelf Go.Lib Go.Sort
section
variable {α : Type} [Inhabited α]
structure Flat0 (d : Kd α) (enc : α → List Value) : Prop where
  opens : ∀ {w : World} {x : α} {cs : List Value}, d.K w x cs → cs = enc x
  made : ∀ (w : World) (base : Nat) (ok : Nat → Prop) (x : α), d.M w base ok x (enc x)
variable {d : Kd α} {enc : α → List Value}
theorem Flat0.len (h : Flat0 d enc) (x : α) : (enc x).length = d.sz := d.K_len (d.K_of_M (h.made default 0 (fun _ => True) x))
theorem Flat0.one (h : Flat0 d enc) (x : α) : ∀ u ∈ enc x, u.oneCell' = true := d.K_one (d.K_of_M (h.made default 0 (fun _ => True) x))
theorem Flat0.flat (h : Flat0 d enc) {w : World} {base : Nat} {ok : Nat → Prop} {xs : List α} {cs : List Value} (hr : Reps (d.M w base ok) d.sz xs cs) (hs : 0 < d.sz) : cs = (flatK enc d.sz xs.toArray).toList := by
  apply List.ext_getElem?
  intro j
  by_cases hj : j < xs.length * d.sz
  · have h1 : j / d.sz < xs.length := Nat.div_lt_of_lt_mul (by rw [Nat.mul_comm]; exact hj)
    have h2 := hr.2 (j / d.sz) (xs[j / d.sz]) (by simp [h1])
    have h3 := h.opens (d.K_of_M h2)
    have h4 : j % d.sz < d.sz := Nat.mod_lt _ hs
    have h5 : cs[j]? = (enc xs[j / d.sz])[j % d.sz]? := by
      rw [← h3, List.getElem?_take, if_pos h4, List.getElem?_drop, Nat.mul_comm, Nat.div_add_mod]
    have h6 := get_flatK enc d.sz xs.toArray j (by simpa using hj)
    have h7 : xs.toArray[j / d.sz]! = xs[j / d.sz] := by rw [getElem!_pos xs.toArray (j / d.sz) (by simpa using h1)]; simp
    have h8 : (flatK enc d.sz xs.toArray).toList[j]? = some (flatK enc d.sz xs.toArray)[j]! := by
      rw [Array.getElem?_toList, getElem!_pos _ j (by simpa using hj), getElem?_pos _ j (by simpa using hj)]
    rw [h5, h8, h6, h7, getElem?_pos _ _ (by rw [h.len]; exact h4), getElem!_pos _ _ (by rw [h.len]; exact h4)]
  · have e1 : cs[j]? = none := by rw [List.getElem?_eq_none_iff, hr.1]; omega
    have e2 : (flatK enc d.sz xs.toArray).toList[j]? = none := by rw [List.getElem?_eq_none_iff]; simp; omega
    rw [e1, e2]
theorem Flat0.reps (h : Flat0 d enc) (w : World) (base : Nat) (ok : Nat → Prop) (xs : List α) (hs : 0 < d.sz) : Reps (d.M w base ok) d.sz xs (flatK enc d.sz xs.toArray).toList := by
  refine ⟨by simp, fun i p hp => ?_⟩
  have hi : i < xs.length := (List.getElem?_eq_some_iff.1 hp).1
  have e : ((flatK enc d.sz xs.toArray).toList.drop (i * d.sz)).take d.sz = enc p := by
    apply List.ext_getElem?
    intro c
    rw [List.getElem?_take]
    by_cases hc : c < d.sz
    · have hlt : i * d.sz + c < xs.length * d.sz := by
        have := Nat.mul_le_mul_right d.sz (show i + 1 ≤ xs.length from hi)
        rw [Nat.add_mul, Nat.one_mul] at this; omega
      rw [if_pos hc, List.getElem?_drop, Array.getElem?_toList, getElem?_pos _ _ (by simpa using hlt)]
      have h6 := get_flatK enc d.sz xs.toArray (i * d.sz + c) (by simpa using hlt)
      rw [getElem!_pos _ _ (by simpa using hlt)] at h6
      have e1 : (i * d.sz + c) / d.sz = i := by rw [Nat.add_comm, Nat.add_mul_div_right _ _ hs, Nat.div_eq_of_lt hc, Nat.zero_add]
      have e2 : (i * d.sz + c) % d.sz = c := by rw [Nat.add_comm, Nat.add_mul_mod_self_right, Nat.mod_eq_of_lt hc]
      rw [h6, e1, e2]
      have e3 : xs.toArray[i]! = p := by
        rw [getElem!_pos _ i (by simpa using hi)]
        have := (List.getElem?_eq_some_iff.1 hp).2
        simpa using this
      rw [e3, getElem?_pos _ c (by rw [h.len]; exact hc), getElem!_pos _ c (by rw [h.len]; exact hc)]
    · rw [if_neg hc, List.getElem?_eq_none_iff.2 (by rw [h.len]; omega)]
  rw [e]
  exact h.made w base ok p
variable {e : Nat} {W w' : World} {base : Nat} {ok : Nat → Prop} {g cap : Nat} {xs : List α} {dk : Array α}
theorem Flat0.sort_in (h : Flat0 d enc) (hs : 0 < d.sz) (hr : d.R e W base ok (.slice (some ⟨g, 0, none⟩) xs.length cap) xs) : RowK enc d.sz W g 0 xs.toArray ∧ SWK enc d.sz W g 0 xs.toArray W := by
  obtain ⟨hok, inner, hown, hrp⟩ := hr
  rcases hown.2 with ⟨hv, _⟩ | ⟨g', cap', cur, hv, hb, hh, hn, hcm, hcs, ht⟩
  · cases hv
  · cases hv
    have hfl := h.flat hrp hs
    have hH : HoldsK enc d.sz W g 0 xs.toArray := by
      intro j hj
      rw [Nat.zero_add]
      refine ⟨?_, blk_frozen hh j⟩
      rw [blk_cell hh j]
      have hj' : j < xs.length * d.sz := by simpa using hj
      have e1 : cur[j]? = inner[j]? := by
        rw [← ht, List.getElem?_take, if_pos hj', Array.getElem?_toList]
      have h8 : (flatK enc d.sz xs.toArray).toList[j]? = some (flatK enc d.sz xs.toArray)[j]! := by
        rw [Array.getElem?_toList, getElem!_pos _ j hj, getElem?_pos _ j hj]
      rw [e1, hfl, h8]
      rfl
    exact ⟨⟨h.len, h.one, hH, blk_lt hh⟩, SWK.start hH⟩
theorem Flat0.sort_out (h : Flat0 d enc) (hs : 0 < d.sz) (hr : d.R e W base ok (.slice (some ⟨g, 0, none⟩) xs.length cap) xs) (hw : SWK enc d.sz W g 0 dk w') (hl : dk.size = xs.length) :
    d.R e w' base ok (.slice (some ⟨g, 0, none⟩) xs.length cap) dk.toList ∧ W.grownBy w' (some g) := by
  obtain ⟨n, os, rfl⟩ := hw
  obtain ⟨hok, inner, hown, hrp⟩ := hr
  rcases hown.2 with ⟨hv, _⟩ | ⟨g', cap', cur, hv, hb, hh, hn, hcm, hcs, ht⟩
  · cases hv
  · cases hv
    have hlt := blk_lt hh
    have hheap : (sortWorldK enc d.sz W g 0 n dk os).heap = W.heap.modify g (onCells (putCells id 0 (flatK enc d.sz dk))) ++ os := rfl
    have hsz : (W.heap.modify g (onCells (putCells id 0 (flatK enc d.sz dk)))).size = W.heap.size := by simp
    have hg : (sortWorldK enc d.sz W g 0 n dk os).heap[g]? = some (.cells (putCells id 0 (flatK enc d.sz dk) cur) e (0, 0)) := by
      rw [hheap, Array.getElem?_append_left (by rw [hsz]; exact hlt), Array.getElem?_modify, if_pos rfl, hh]
      rfl
    refine ⟨⟨hok, (flatK enc d.sz dk).toList, ⟨by simp, .inr ⟨g, cap, _, by simp [hl], hb, hg, by simp [hl]; exact hn, hcm, by simp [putCells, hcs], ?_⟩⟩, ?_⟩, ⟨rfl, rfl, rfl, ?_, fun k hk hne => ?_⟩⟩
    · have hfit : xs.length * d.sz ≤ cap * d.sz := Nat.mul_le_mul_right _ hn
      apply List.ext_getElem?
      intro j
      rw [List.getElem?_take]
      by_cases hj : j < dk.size * d.sz
      · have hjc : j < cur.size := by rw [hcs]; rw [hl] at hj; omega
        rw [if_pos (by simpa using hj), Array.getElem?_toList, Array.getElem?_toList]
        simp only [putCells, Array.getElem?_mapIdx, getElem?_pos cur j hjc, Option.map_some]
        rw [if_pos (by simp; exact hj), Nat.sub_zero, getElem?_pos _ j (by simpa using hj), getElem!_pos _ j (by simpa using hj)]
        rfl
      · rw [if_neg (by simpa using hj)]
        symm
        rw [List.getElem?_eq_none_iff]; simp; omega
    · have := h.reps (sortWorldK enc d.sz W g 0 n dk os) base (fun k => ok k ∧ some k ≠ (Value.slice (some ⟨g, 0, none⟩) xs.length cap).ownBlock) dk.toList hs
      simpa using this
    · rw [hheap, Array.size_append, hsz]; omega
    · rw [hheap, Array.getElem?_append_left (by rw [hsz]; exact hk), Array.getElem?_modify, if_neg (fun e1 => hne (by rw [e1]))]
end
end Go.Proofs.YtdfndbegifdejaaMine
end
