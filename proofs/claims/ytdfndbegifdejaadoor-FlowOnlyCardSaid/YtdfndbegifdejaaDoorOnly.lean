/- FlowOnly: the plain law, and the walk as the row asks it. -/
import Derived.Test.YtdfndbegifdejaaDoorBack
namespace Go.Proofs.YtdfndbegifdejaaDoor.GD
set_option linter.unusedVariables false
set_option linter.unusedSimpArgs false
open Go.RowKit Go.Proofs.YtdfndbegifdejaaDoorW.PrintWords
/-! ### FlowOnly -/
theorem ext_size0 (s : ByteArray) (q : Nat) (hq : q ≤ s.size) : (s.extract 0 q).size = q := by rw [ByteArray.size_extract]; omega
theorem ext_list (s : ByteArray) (q : Nat) : (s.extract 0 q).data.toList = s.data.toList.take q := by
  simp [ByteArray.data_extract, Array.toList_extract, List.extract_eq_take_drop]
theorem by_list {s t : ByteArray} {q : Nat} (h : t.data.toList.take q = s.data.toList.take q) {j : Nat} (hj : j < q) (hs : j < s.size) (ht : j < t.size) : by_ t j = by_ s j := by
  rw [by_get s j hs, by_get t j ht]
  have h1 := congrArg (fun l : List UInt8 => l[j]?) h
  simp only [List.getElem?_take, if_pos hj] at h1
  rw [List.getElem?_eq_getElem (by simpa [size_list] using ht), List.getElem?_eq_getElem (by simpa [size_list] using hs)] at h1
  rw [Option.some.inj h1]
theorem FlowOnly.pure (a b : ByteArray) (ha : a.size ≤ 140737488351232) (hb : b.size ≤ 140737488351232) : ∃ k, payofflaw03_FlowOnly.f k a b = some true := by
  obtain ⟨k, hk⟩ : ∃ k, 20 * 1048576 + 200 < k := ⟨_, Nat.lt_succ_self _⟩
  refine ⟨k, ?_⟩
  unfold payofflaw03_FlowOnly.f
  rw [heads_f _ (by omega)]
  simp only [Option.bind_some, if_true]
  obtain ⟨k, rfl⟩ : ∃ q, k = q + 3 := ⟨k - 3, by omega⟩
  have hsum : wrap64 ((a.size : Int) + (b.size : Int)) = ((a.size + b.size : Nat) : Int) := by unfold wrap64; omega
  rw [hsum]
  by_cases hbig : ((a.size + b.size : Nat) : Int) > 1048576
  · rw [decide_eq_true hbig]
    simp only [payofflaw03_FlowOnly.j0, if_true]
    rw [heads_f _ (by omega)]; rfl
  · rw [decide_eq_false hbig]
    rw [payofflaw03_FlowOnly.j0]
    rw [if_neg (by decide)]
    rcases parse_spec a (by omega) (k + 2) (by omega) with ⟨l, h1, hf, hl⟩ | ⟨l, p, q, st, h1, H⟩
    · rw [h1]
      have hz : (lines l).length = a.size := by rw [← hl]; rfl
      simp only [Option.bind_some, if_true]
      rw [print_fine l hf (by omega)]
      simp only [Option.bind_some, if_true]
      rw [if_pos (by rw [ByteArray.toList_eq, ByteArray.toList_eq, hl])]
      rfl
    · rw [h1]
      have hpq := H.reach.le
      have hin := H.inn
      simp only [Option.bind_some]
      rw [if_neg (by decide), if_neg (by omega), if_neg (by omega)]
      simp only [List.length_nil]
      rw [show (((0 : Nat) : Int) != 0) = false from rfl, payofflaw03_FlowOnly.j1, if_neg (by decide), if_pos (by omega), if_pos (by omega)]
      have hq0 : ((q : Int) : Int).toNat = q := rfl
      rw [hq0]
      have hz0 := ext_size0 a q hin
      have htk0 : (a.extract 0 q).data.toList.take q = a.data.toList.take q := by rw [ext_list, List.take_take]; simp
      have hcut := parse_halt (t := a.extract 0 q) H (by omega) (by omega) (fun j hj => by_list htk0 hj (by omega) (by omega)) (by rw [ext_list, List.take_take]; congr 1; omega) (fun h => absurd h (by omega)) (k + 1) (by omega)
      have hj2 : ∀ z, payofflaw03_FlowOnly.j2 (k + 1) a b (q : Int) false = z → (((flow_Parse.f (k + 1) (a.extract 0 q)).bind fun bt223 => (if bt223.2.2 = 0 then (payofflaw03_FlowOnly.j2 (k + 1) a b (q : Int) false) else (payofflaw03_FlowOnly.j2 (k + 1) a b (q : Int) (bt223.2.1 != (q : Int))))) = z) := by
        intro z hz
        rcases hcut with ⟨h2, _⟩ | ⟨m, h2, _⟩
        · rw [h2]
          simp only [Option.bind_some]
          rw [if_neg (by decide), bne_self_eq_false]; exact hz
        · rw [h2]
          simp only [Option.bind_some, if_true]; exact hz
      refine hj2 _ ?_
      rw [payofflaw03_FlowOnly.j2, if_neg (by decide)]
      by_cases hqe : (q : Int) = (a.size : Int)
      · rw [if_pos hqe]
      · rw [if_neg hqe]
        have hq1 : wrap64 ((q : Int) + 1) = ((q + 1 : Nat) : Int) := wn (show q < a.size by omega) (by omega)
        rw [hq1]
        have hz1 := ext_size0 a (q + 1) (by omega)
        have ht1 : (((q + 1 : Nat) : Int) : Int).toNat = q + 1 := rfl
        rw [ht1, if_pos (by omega), if_pos (by omega), if_pos (by omega)]
        have hzt : (a.extract 0 (q + 1) ++ b).size = q + 1 + b.size := by rw [ByteArray.size_append, hz1]
        have hlist : (a.extract 0 (q + 1) ++ b).data.toList = a.data.toList.take (q + 1) ++ b.data.toList := by rw [ByteArray.data_append, Array.toList_append, ext_list]
        have hlen : (a.data.toList.take (q + 1)).length = q + 1 := by rw [List.length_take, size_list]; omega
        have htk1 : ∀ r, r ≤ q + 1 → (a.extract 0 (q + 1) ++ b).data.toList.take r = a.data.toList.take r := by
          intro r hr
          rw [hlist, List.take_append_of_le_length (by omega), List.take_take]
          congr 1; omega
        have hbq : by_ (a.extract 0 (q + 1) ++ b) q = by_ a q := by_list (htk1 (q + 1) (by omega)) (by omega) (by omega) (by omega)
        rcases parse_halt (t := a.extract 0 (q + 1) ++ b) H (by omega) (by omega) (fun j hj => by_list (htk1 q (by omega)) hj (by omega) (by omega)) (htk1 p (by omega)) (fun _ => by rw [hbq]; exact H.stuck (by omega)) k (by omega) with ⟨h2, _⟩ | ⟨m, h2, h3⟩
        · rw [h2]
          simp only [Option.bind_some]
          rw [if_neg (by decide)]
          simp
        · omega
theorem FlowOnly.walk (a b : ByteArray) (w : World) (HT : Aside0 (ItoaTab w)) (ha : a.size ≤ reachBytes) (hb : b.size ≤ reachBytes) :
    Calls Tryd.prog 5 #[.string a, .string b] w fun e w' => e = .returned (.bool true) ∧ Below w.heap.size w w' := by
  have hr : reachBytes = 140737488351232 := by decide
  obtain ⟨k, hk⟩ := FlowOnly.pure a b (by omega) (by omega)
  exact payofflaw03_FlowOnly.calls k a b true w HT hk
end Go.Proofs.YtdfndbegifdejaaDoor.GD
