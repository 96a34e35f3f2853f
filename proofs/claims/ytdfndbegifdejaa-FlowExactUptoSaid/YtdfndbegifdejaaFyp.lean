import Derived.Test.YtdfndbegifdejaaFyo
import Derived.Deep.LoopGhost
import Derived.BigQuiet
import Derived.Deep.QuietTactic
import Derived.Outline
section
namespace Go.Proofs.Ytdfndbegifdejaa.PFlowExact
set_option linter.unusedVariables false
set_option linter.unusedSimpArgs false
open Go.RowKit Go.Proofs.YtdfndbegifdejaaW.PrintWords Go.Proofs.YtdfndbegifdejaaW.PrintLast Go.Proofs.YtdfndbegifdejaaW.PrintMore Go.Proofs.YtdfndbegifdejaaMine Go.Proofs.YtdfndbegifdejaaStab
def Good (l0 : List (List S32)) (m : List S32) (r2 : Int) : Prop :=
  ((∀ l ∈ l0, KSorted day l) ∧ r2 = 0 ∧ KSorted day m ∧ ∀ k, Cls day k m = Cls day k l0.flatten) ∨ ((∃ l ∈ l0, ¬ KSorted day l) ∧ r2 = 1 ∧ m = [])
def UpTo (l : List S32) (k : Nat) : Prop := ∀ j, j + 1 < k → (rd_T32 l j).f0 ≤ (rd_T32 l ((j + 1 : Nat) : Int)).f0
theorem rd32 (l : List S32) (k : Nat) (h : k < l.length) : rd_T32 l (k : Int) = l[k] := by
  simp [rd_T32, h]
theorem rdL4 (l : List (List S32)) (k : Nat) (h : k < l.length) : rd_L4 l (k : Int) = l[k] := by
  simp [rd_L4, h]
theorem upTo_sorted (l : List S32) (h : UpTo l l.length) : KSorted day l := by
  unfold KSorted
  rw [List.pairwise_iff_getElem]
  intro i j hi hj hij
  have key : ∀ n, ∀ h2 : i + n < l.length, day l[i] ≤ day l[i + n] := by
    intro n
    induction n with
    | zero => intro _; exact Int.le_refl _
    | succ n ih =>
      intro h2
      have h3 := ih (by omega)
      have h4 := h (i + n) (by omega)
      rw [rd32 _ _ (by omega), rd32 _ _ (by omega)] at h4
      exact Int.le_trans h3 h4
  have := key (j - i) (by omega)
  simpa [show i + (j - i) = j by omega] using this
theorem not_sorted (l : List S32) (q : Nat) (h : q + 1 < l.length) (hd : (rd_T32 l ((q + 1 : Nat) : Int)).f0 < (rd_T32 l (q : Int)).f0) : ¬ KSorted day l := by
  intro hs
  unfold KSorted at hs
  rw [List.pairwise_iff_getElem] at hs
  have := hs q (q + 1) (by omega) h (by omega)
  rw [rd32 _ _ h, rd32 _ _ (by omega)] at hd
  unfold day at this
  omega
theorem take_flat (l0 : List (List S32)) (i : Nat) (h : i < l0.length) : (l0.take (i + 1)).flatten = (l0.take i).flatten ++ rd_L4 l0 (i : Int) := by
  rw [rdL4 _ _ h, List.take_succ_eq_append_getElem h, List.flatten_append]; simp
theorem flat_le (l0 : List (List S32)) (i : Nat) (h : i < l0.length) : (l0.take i).flatten.length + (rd_L4 l0 (i : Int)).length ≤ l0.flatten.length := by
  have h1 := take_flat l0 i h
  have h2 : l0.flatten = (l0.take (i + 1)).flatten ++ (l0.drop (i + 1)).flatten := by rw [← List.flatten_append, List.take_append_drop]
  have h3 := congrArg List.length h1
  have h4 := congrArg List.length h2
  simp only [List.length_append] at h3 h4
  omega
theorem rdL4_mem (l0 : List (List S32)) (i : Nat) (h : i < l0.length) : rd_L4 l0 (i : Int) ∈ l0 := by
  rw [rdL4 _ _ h]; exact List.getElem_mem h
def InsAll : Prop := ∀ (blk off cap : Nat) (d0 : Array S32) (w0 : World), RowK enc32 3 w0 blk off d0 → d0.size < 4611686018427387904 → InsC Try.prog 3 enc32 day 41 #[] blk off cap d0.size w0
theorem ins_none (w : World) : Calls Try.prog 67 #[.slice none 0 0, .int .i64 0, .int .i64 0, .func (.func 41) #[] #[]] w fun e w' => e = .returned (.tuple #[]) ∧ w = w' := by
  go_enter Try.func67, Try.ntmps67
  go_wp2
  go_loopg [8] 1 (fun kx s6 wr => s6 = .int .i64 1 ∧ w = wr)
  case atStart => exact ⟨rfl, rfl⟩
  case round =>
    obtain ⟨rfl, rfl⟩ := hrel
    go_wp2
    go_end0
    exact ⟨rfl, rfl⟩
theorem stable_none (w : World) : Calls Try.prog 59 #[.slice none 0 0, .int .i64 0, .func (.func 41) #[] #[]] w fun e w' => e = .returned (.tuple #[]) ∧ w = w' := by
  go_enter Try.func59, Try.ntmps59
  go_wp2
  go_loopg [7, 8] 1 (fun kx s7 s8 wr => s7 = .int .i64 0 ∧ s8 = .int .i64 20 ∧ w = wr)
  case atStart => exact ⟨rfl, rfl, rfl⟩
  case round =>
    obtain ⟨rfl, rfl, rfl⟩ := hrel
    go_wp2_with (go_at_call 67; refine (ins_none _).mono ?_; rintro e w1 ⟨rfl, rfl⟩)
    go_loopg [6] 1 (fun kx s6 wr => s6 = .int .i64 20 ∧ w = wr)
    case atStart => exact ⟨rfl, rfl⟩
    case round =>
      obtain ⟨rfl, rfl⟩ := hrel
      go_wp2
      go_end0
      exact ⟨rfl, rfl⟩
theorem sortStable_none (w : World) : Calls Try.prog 40 #[.slice none 0 0, .func (.func 41) #[] #[]] w fun e w' => e = .returned (.tuple #[]) ∧ w = w' := by
  go_enter Try.func40, Try.ntmps40
  go_wp2_with (go_at_call 59; refine (stable_none _).mono ?_; rintro e w1 ⟨rfl, rfl⟩)
  go_end0
  exact ⟨rfl, rfl⟩
set_option maxHeartbeats 4000000 in
theorem sortRow (HI : InsAll) (W : World) (base : Nat) (ok : Nat → Prop) (v : Value) (xs : List S32) (hr : k32.R 32 W base ok v xs) (hn : xs.length ≤ 1048576) :
    Calls Try.prog 40 #[v, .func (.func 41) #[] #[]] W fun e w' => e = .returned (.tuple #[]) ∧ ∃ m, m.length = xs.length ∧ k32.R 32 w' base ok v m ∧ W.grownBy w' v.ownBlock ∧ KSorted day m ∧ ∀ k, Cls day k m = Cls day k xs := by
  obtain ⟨inner, hown⟩ := Kd.R_own hr
  rcases hown.2 with ⟨rfl, h0⟩ | ⟨g, cap, cur, rfl, _⟩
  · obtain rfl := List.eq_nil_of_length_eq_zero h0
    refine (sortStable_none W).mono ?_
    rintro e w' ⟨rfl, rfl⟩
    exact ⟨rfl, [], rfl, hr, World.grownBy.refl _ _, List.Pairwise.nil, fun _ => rfl⟩
  · obtain ⟨hR, hS⟩ := flat32.sort_in (by decide) hr
    have hsz : xs.toArray.size = xs.length := by simp
    have hM : SymC Try.prog 3 enc32 day 41 #[] g 0 cap xs.toArray.size W := fun a m b d w hd hS ham hmb hb hX hY =>
      symMerge 3 lays enc32 day (fun x y => c3 x.f0 y.f0) (fun x y => c3_lt _ _) 41 #[] (enters_of Try.func41 (by kernel_rfl) rfl) g 0 cap xs.toArray W (mergeCmp.lays _ _ _ _) hR (by omega) (b - a) a m b d w hd hS ham hmb hb (Nat.le_refl _) hX hY
    have hc := sortStable 3 lays enc32 day 41 #[] g 0 cap xs.toArray W W (HI g 0 cap xs.toArray W hR (by omega)) hM (by omega) hS
    rw [hsz] at hc
    refine hc.mono ?_
    rintro e w' ⟨rfl, dk, hG, hT, hS2⟩
    have hl : dk.size = xs.length := hG.size.trans hsz
    obtain ⟨h1, h2⟩ := flat32.sort_out (by decide) hr hS2 hl
    refine ⟨rfl, dk.toList, by simpa using hl, h1, h2, ?_, fun k => ?_⟩
    · have := ksorted_slc hT
      rwa [← hl, slc_all] at this
    · have := hG.cls k
      rw [← hl, slc_all, hl, ← hsz, slc_all] at this
      exact this
set_option maxHeartbeats 4000000 in
set_option maxRecDepth 100000 in
theorem flow_Merge.calls (HI : InsAll) (A0 : Option Addr) (c0 : Nat) (l0 : List (List S32)) (w : World) (hr0 : Kd.C (Kd.slice 32 k32) w A0 l0.length l0) (hc0 : l0.length ≤ c0) (hn0 : l0.length ≤ 1048576) (hfl : l0.flatten.length ≤ 1048576) :
    Calls Try.prog 22 #[.slice A0 l0.length c0] w fun e w' => ∃ (v : Value) (m : List S32) (r2 : Int), e = .returned (.tuple #[v, .int .i64 r2]) ∧ Kd.R k32 32 w' w.heap.size (fun _ => True) v m ∧ Below w.heap.size w w' ∧ m.length ≤ 1048576 ∧ Good l0 m r2 := by
  have HR0 := ak hr0
  have HC0 := ak hc0
  have HFL := ak hfl
  clear hr0 hc0 hfl
  go_enter Try.func22, Try.ntmps22
  go_wp2
  go_step3
  go_wp2
  go_step3
  go_wp2
  go_loopg [4, 11] l0.length (fun kx s4 s11 wr => ∃ (i : Nat), s11 = .int .i64 i ∧ i ≤ l0.length ∧ l0.length - i ≤ kx ∧ Aside0 (Kd.R k32 32 wr w.heap.size (fun _ => True) s4 (l0.take i).flatten) ∧ Aside0 (Below w.heap.size w wr) ∧ Aside0 (∀ l ∈ l0.take i, KSorted day l))
  case atStart => exact ⟨0, rfl, Nat.zero_le _, by omega, ak (Kd.R_nil _ _ _ _ _), ak (Below.refl _ _), ak (by simp)⟩
  case round =>
    obtain ⟨i, rfl, hi, hkx, HO, HB, HS⟩ := hrel
    obtain ⟨wo, rfl⟩ : ∃ wo : World, wo = wr := ⟨_, rfl⟩
    by_cases hlt : i < l0.length
    · have hltz : (i : Int) < (l0.length : Int) := by omega
      have hle : (rd_L4 l0 i).length ≤ 1048576 := by have := flat_le l0 i hlt; have := HFL.out; omega
      obtain ⟨ad, A1, c1, hA, hc, hcc, hC⟩ := at_L4 (Kd.C_below HR0.out HB.out) (i : Int) (by omega) hltz
      have HCC := ak hcc
      have HC1 := ak hC
      clear hcc hC
      rw [Int.toNat_natCast] at hc
      generalize hl : rd_L4 l0 (i : Int) = l at *
      have HL := ak hl
      clear hl
      subst hA
      have hl0 : (l.length : Int) ≤ 1048576 := by omega
      go_wp2
      go_loopg [17] l.length (fun kx s17 wr => ∃ (k : Nat), s17 = .int .i64 k ∧ k ≤ l.length ∧ l.length - k ≤ kx ∧ Aside0 (Below wo.heap.size wo wr) ∧ Aside0 (UpTo l k))
      case atStart => exact ⟨0, rfl, Nat.zero_le _, by omega, ak (Below.refl _ _), ak (fun j h => by omega)⟩
      case round =>
        obtain ⟨k, rfl, hk, hkx2, HB2, HU⟩ := hrel
        obtain ⟨wi, rfl⟩ : ∃ wi : World, wi = wr := ⟨_, rfl⟩
        by_cases hlk : k < l.length
        · have hlkz : (k : Int) < (l.length : Int) := by omega
          obtain ⟨ad1, hA1, hx0, hx1, hx2⟩ := at_T32 (Kd.C_below HC1.out HB2.out) (k : Int) (by omega) hlkz
          subst hA1
          rw [Int.toNat_natCast] at hx0 hx1 hx2
          by_cases hk0 : 0 < k
          · obtain ⟨q, hq⟩ : ∃ q : Nat, k = q + 1 := ⟨k - 1, by omega⟩
            have hq1 : (q : Int) < (l.length : Int) := by omega
            obtain ⟨ad2, hA2, hy0, hy1, hy2⟩ := at_T32 (Kd.C_alloc (Kd.C_below HC1.out HB2.out) (Obj.cells #[.int .i64 (rd_T32 l (k : Int)).f0, .string (rd_T32 l (k : Int)).f1, .int .i64 (rd_T32 l (k : Int)).f2] 32 (0, 0))) (q : Int) (by omega) hq1
            obtain rfl : ad1 = ad2 := Option.some.inj hA2
            clear hA2 hy1 hy2
            rw [Int.toNat_natCast] at hy0
            have rq : IntKind.i64.wrap ((k : Int) - 1) = (q : Int) := by rw [IntKind.wrap_i64]; omega
            have HQ := ak hq
            clear hq
            have hkz : (0 : Int) < (k : Int) := by omega
            have hkd : decide ((0 : Int) < (k : Int)) = true := decide_eq_true hkz
            by_cases hd : (rd_T32 l (k : Int)).f0 < (rd_T32 l (q : Int)).f0
            · have hdd : decide ((rd_T32 l (k : Int)).f0 < (rd_T32 l (q : Int)).f0) = true := decide_eq_true hd
              go_wp2_with fail
              go_quiet (fail)
              have HNS : Aside0 (¬ KSorted day l) := ak (by
                have h1 := HQ.out
                subst h1
                exact not_sorted l q hlk hd)
              clear hd hdd
              go_wp2
              rw [Exit.noGoto_ret]
              go_ret2
              exact ⟨_, [], 1, rfl, Kd.R_nil _ _ _ _ _, (HB.out.trans (Below.mono (pw_below_drewN (below_alloc HB2.out _) _) HB.out.size)), by simp, .inr ⟨⟨l, by rw [← HL.out]; exact rdL4_mem l0 i hlt, HNS.out⟩, rfl, rfl⟩⟩
            · have hdd : decide ((rd_T32 l (k : Int)).f0 < (rd_T32 l (q : Int)).f0) = false := decide_eq_false hd
              have HD := ak hd
              have hd2 : (rd_T32 l (q : Int)).f0 ≤ (rd_T32 l (k : Int)).f0 := by omega
              go_wp2_with fail
              go_quiet (fail)
              go_wp2
              go_roundg (l.length - (k + 1))
              case measure => omega
              case rel =>
                refine ⟨k + 1, by go_num, by omega, Nat.le_refl _, ak (pw_below_drewN (below_alloc HB2.out _) _), ak (fun j hj => ?_)⟩
                by_cases e : j + 1 < k
                · exact HU.out j e
                · have h1 := HQ.out
                  obtain rfl : j = q := by omega
                  rw [← h1]; exact hd2
          · have hkd : decide ((0 : Int) < (k : Int)) = false := decide_eq_false (by omega)
            have hkz : ¬ (0 : Int) < (k : Int) := by omega
            go_wp2_with fail
            go_quiet (fail)
            go_wp2
            go_roundg (l.length - (k + 1))
            case measure => omega
            case rel => exact ⟨k + 1, by go_num, by omega, Nat.le_refl _, ak (pw_below_drewN (below_alloc HB2.out _) _), ak (fun j hj => by omega)⟩
        · have hlkz : ¬ (k : Int) < (l.length : Int) := by omega
          have HSL : Aside0 (KSorted day l) := ak (upTo_sorted l (by
            have := HU.out
            rwa [show k = l.length by omega] at this))
          have HFI := ak (take_flat l0 i hlt)
          have HLE := ak (flat_le l0 i hlt)
          have HO2 := ak (Kd.R_below HO.out HB2.out)
          have HB3 := ak (HB.out.trans (Below.mono HB2.out HB.out.size))
          have HC2 := ak (Kd.C_below HC1.out HB2.out)
          have HS2 : Aside0 (∀ l' ∈ l0.take (i + 1), KSorted day l') := ak (by
            intro l' hm
            rw [List.take_succ_eq_append_getElem hlt, List.mem_append] at hm
            rcases hm with hm | hm
            · exact HS.out l' hm
            · rw [← rdL4 _ _ hlt, HL.out] at hm
              rw [List.mem_singleton.1 hm]; exact HSL.out)
          clear HU HS HSL HO HB HB2 HC1
          by_cases hz : l.length = 0
          · have hzb : ((l.length : Int) == 0) = true := by rw [beq_iff_eq]; omega
            have HZ := ak hz
            clear hz
            go_wp2
            go_roundg (l0.length - (i + 1))
            case measure => omega
            case rel =>
              refine ⟨i + 1, by go_num, by omega, Nat.le_refl _, ak ?_, HB3, HS2⟩
              have e := HFI.out
              rw [HL.out, List.eq_nil_of_length_eq_zero HZ.out, List.append_nil] at e
              rw [e]; exact HO2.out
          · have hzb : ((l.length : Int) == 0) = false := by rw [beq_eq_false_iff_ne]; omega
            have hpos : 0 < l.length := by omega
            clear hz
            go_wp2_with ((with_reducible refine gate_builtin (b := .append) (xs := #[.tmp 39, .tmp 40]) rfl ?_); at_builtin; refine Kd.R_append_rows k32 (w0 := w) w.heap.size rfl (.tmp 39) (.tmp 40) 22 32 (.agg #[(.int .i64 0), (.string ⟨#[]⟩), (.int .i64 0)]) 32 rfl Try.underlying22 info32 rfl (by decide) (by omega) _ (l0.take i).flatten l _ _ _ (fun _ => True) (fun _ => False) rfl rfl HO2.out HC2.out (fun x cs h => by rw [k32_open h]; exact k32_mkM _ _ _ x) (fun _ h => h.elim) (fun _ _ => trivial) HB3.out HB3.out.size ?aL ?_; (case aL => have h1 := HLE.out; rw [HL.out] at h1; have h2 := HFL.out; omega); intro v128 w5 ho hb hg hat; have HO3 := ak ho; have HB4 := ak hb; clear ho hb hg hat)
            go_roundg (l0.length - (i + 1))
            case measure => omega
            case rel =>
              refine ⟨i + 1, by go_num, by omega, Nat.le_refl _, ak ?_, HB4, HS2⟩
              have e := HFI.out
              rw [HL.out] at e
              rw [e]; exact HO3.out
    · have hltz : ¬ (i : Int) < (l0.length : Int) := by omega
      obtain rfl : i = l0.length := by omega
      have HO2 : Aside0 (k32.R 32 wo w.heap.size (fun _ => True) u4 l0.flatten) := ak (by have := HO.out; rwa [List.take_length] at this)
      have HS2 : Aside0 (∀ l ∈ l0, KSorted day l) := ak (by have := HS.out; rwa [List.take_length] at this)
      clear HO HS
      go_wp2_with (go_at_call 40; refine (sortRow HI wo w.heap.size (fun _ => True) u4 l0.flatten HO2.out HFL.out).mono ?_; rintro e w1 ⟨rfl, m, hml, hR, hg, hK, hC⟩)
      rw [Exit.noGoto_ret]
      go_ret2
      exact ⟨_, m, 0, rfl, hR, HB.out.grown hg HB.out.size (Kd.R_base HO2.out), by rw [hml]; exact HFL.out, .inl ⟨HS2.out, rfl, hK, hC⟩⟩
end Go.Proofs.Ytdfndbegifdejaa.PFlowExact
end
section
namespace Go.Proofs.Ytdfndbegifdejaa.PFlowExact
set_option linter.unusedVariables false
set_option linter.unusedSimpArgs false
open Go.RowKit Go.Proofs.YtdfndbegifdejaaW.PrintWords Go.Proofs.YtdfndbegifdejaaMine Go.Proofs.YtdfndbegifdejaaStab
theorem wrap_small (i : Int) (h : -1000000000 ≤ i) (h2 : i ≤ 1000000000) : wrap64 i = i := by unfold wrap64; omega
def ofN (l : List Nat) : List Int := l.map (fun n : Nat => (n : Int))
theorem rd_ofN (l : List Nat) (i : Nat) (h : i < l.length) : rd (ofN l) (i : Int) = (l[i] : Int) := by
  simp [rd, ofN, h]
theorem set_ofN (l : List Nat) (i : Nat) (v : Nat) : (ofN l).set i (v : Int) = ofN (l.set i v) := by
  simp [ofN, List.map_set]
@[simp] theorem len_ofN (l : List Nat) : (ofN l).length = l.length := by simp [ofN]
def rems (l0 : List (List S32)) (ats : List Nat) : List (List S32) := List.zipWith (fun l n => l.drop n) l0 ats
section
variable (l0 : List (List S32)) (ats : List Nat) (hlen : ats.length = l0.length) (hsm : l0.length ≤ 1048576) (hin : ∀ l ∈ l0, l.length ≤ 1048576)
include hlen hsm
def hd (j : Nat) : Int := (rd_T32 (rd_L4 l0 (j : Int)) ((ats.getD j 0 : Nat) : Int)).f0
def more (j : Nat) : Prop := ats.getD j 0 < (rd_L4 l0 (j : Int)).length
def Best (best : Int) (i : Nat) : Prop :=
  (best = -1 ∧ ∀ j, j < i → ¬ more l0 ats j) ∨
  (∃ b : Nat, best = (b : Int) ∧ b < i ∧ more l0 ats b ∧ (∀ j, j < i → more l0 ats j → hd l0 ats b ≤ hd l0 ats j) ∧ ∀ j, j < b → more l0 ats j → hd l0 ats b < hd l0 ats j)
theorem scan (out : List S32) : ∀ (d i : Nat) (best : Int), l0.length - i = d → i ≤ l0.length → Best l0 ats best i →
    ∃ best', Best l0 ats best' l0.length ∧ ∀ k, payoffref03_Merge.l3 (k + d) l0 (ofN ats) out best (i : Int) = payoffref03_Merge.l3 k l0 (ofN ats) out best' (l0.length : Int) := by
  intro d
  induction d with
  | zero =>
    intro i best hd hi hB
    obtain rfl : i = l0.length := by omega
    exact ⟨best, hB, fun k => rfl⟩
  | succ d ih =>
    intro i best hd0 hi hB
    have hlt : i < l0.length := by omega
    have hlz : (i : Int) < (l0.length : Int) := by omega
    have hia : i < ats.length := by omega
    have e1 : rd (ofN ats) (i : Int) = ((ats.getD i 0 : Nat) : Int) := by rw [rd_ofN _ _ hia]; simp [hia]
    have w1 : wrap64 ((i : Int) + 1) = ((i + 1 : Nat) : Int) := by rw [wrap_small _ (by omega) (by omega)]; omega
    have step : ∀ best', (∀ k, payoffref03_Merge.l3 (k + 1) l0 (ofN ats) out best (i : Int) = payoffref03_Merge.l3 k l0 (ofN ats) out best' ((i + 1 : Nat) : Int)) → Best l0 ats best' (i + 1) →
        ∃ best', Best l0 ats best' l0.length ∧ ∀ k, payoffref03_Merge.l3 (k + (d + 1)) l0 (ofN ats) out best (i : Int) = payoffref03_Merge.l3 k l0 (ofN ats) out best' (l0.length : Int) := by
      intro best' h1 h2
      obtain ⟨b2, h3, h4⟩ := ih (i + 1) best' (by omega) (by omega) h2
      exact ⟨b2, h3, fun k => by rw [← Nat.add_assoc, h1, h4]⟩
    by_cases hm : more l0 ats i
    · have hm' := hm
      unfold more at hm'
      rcases hB with ⟨rfl, hn⟩ | ⟨b, rfl, hb, hbm, hle, hst⟩
      · refine step (i : Int) (fun k => ?_) (.inr ⟨i, rfl, by omega, hm, fun j hj hjm => ?_, fun j hj hjm => absurd hjm (hn j hj)⟩)
        · simp only [payoffref03_Merge.l3]
          rw [if_pos hlz, if_pos (by omega), if_pos (by simp; omega), e1, if_pos (by omega), if_pos (by omega), w1]
        · by_cases c : j = i
          · subst c; exact Int.le_refl _
          · exact absurd hjm (hn j (by omega))
      · have hba : b < ats.length := by omega
        have e2 : rd (ofN ats) (b : Int) = ((ats.getD b 0 : Nat) : Int) := by rw [rd_ofN _ _ hba]; simp [hba]
        have hbm' := hbm
        unfold more at hbm'
        by_cases hc : hd l0 ats i < hd l0 ats b
        · refine step (i : Int) (fun k => ?_) (.inr ⟨i, rfl, by omega, hm, fun j hj hjm => ?_, fun j hj hjm => ?_⟩)
          · unfold hd at hc
            simp only [payoffref03_Merge.l3]
            rw [if_pos hlz, if_pos (by omega), if_pos (by simp; omega), e1, e2, if_pos (by omega), if_neg (by omega), if_pos (by omega), if_pos (by omega), if_pos (by omega), if_pos (by simp; omega), if_pos (by omega), if_pos (by omega), if_pos hc, w1]
          · by_cases c : j = i
            · subst c; exact Int.le_refl _
            · have := hle j (by omega) hjm; omega
          · have := hle j hj hjm; omega
        · refine step (b : Int) (fun k => ?_) (.inr ⟨b, rfl, by omega, hbm, fun j hj hjm => ?_, hst⟩)
          · unfold hd at hc
            simp only [payoffref03_Merge.l3]
            rw [if_pos hlz, if_pos (by omega), if_pos (by simp; omega), e1, e2, if_pos (by omega), if_neg (by omega), if_pos (by omega), if_pos (by omega), if_pos (by omega), if_pos (by simp; omega), if_pos (by omega), if_pos (by omega), if_neg hc, w1]
          · by_cases c : j = i
            · subst c; omega
            · exact hle j (by omega) hjm
    · have hm' := hm
      unfold more at hm'
      refine step best (fun k => ?_) ?_
      · simp only [payoffref03_Merge.l3]
        rw [if_pos hlz, if_pos (by omega), if_pos (by simp; omega), e1, if_neg (by omega), w1]
      · rcases hB with ⟨rfl, hn⟩ | ⟨b, rfl, hb, hbm, hle, hst⟩
        · refine .inl ⟨rfl, fun j hj => ?_⟩
          by_cases c : j = i
          · subst c; exact hm
          · exact hn j (by omega)
        · refine .inr ⟨b, rfl, by omega, hbm, fun j hj hjm => ?_, hst⟩
          by_cases c : j = i
          · subst c; exact absurd hjm hm
          · exact hle j (by omega) hjm
end
theorem rems_get (l0 : List (List S32)) (ats : List Nat) (hlen : ats.length = l0.length) (j : Nat) (h : j < l0.length) : (rems l0 ats)[j]? = some ((rd_L4 l0 (j : Int)).drop (ats.getD j 0)) := by
  unfold rems
  rw [List.getElem?_zipWith, List.getElem?_eq_getElem h, List.getElem?_eq_getElem (by omega)]
  simp [rdL4 _ _ h, hlen, h]
theorem rems_len (l0 : List (List S32)) (ats : List Nat) (hlen : ats.length = l0.length) : (rems l0 ats).length = l0.length := by simp [rems, hlen]
theorem rems_set (l0 : List (List S32)) (ats : List Nat) (hlen : ats.length = l0.length) (b v : Nat) (h : b < l0.length) : rems l0 (ats.set b v) = (rems l0 ats).set b ((rd_L4 l0 (b : Int)).drop v) := by
  apply List.ext_getElem?
  intro j
  by_cases hj : j < l0.length
  · rw [rems_get _ _ (by simp [hlen]) _ hj, List.getElem?_set]
    by_cases e : b = j
    · subst e
      rw [if_pos rfl, if_pos (by rw [rems_len _ _ hlen]; exact h)]
      simp [hlen, h]
    · rw [if_neg e, rems_get _ _ hlen _ hj]
      simp [List.getElem?_set, e]
  · rw [List.getElem?_eq_none_iff.2 (by rw [rems_len _ _ (by simp [hlen])]; omega), List.getElem?_eq_none_iff.2 (by rw [List.length_set, rems_len _ _ hlen]; omega)]
theorem drop_le (l : List S32) (hs : KSorted day l) (n : Nat) (y : S32) (hy : y ∈ l.drop n) : n < l.length ∧ (rd_T32 l (n : Int)).f0 ≤ day y := by
  obtain ⟨c, hc, rfl⟩ := List.mem_iff_getElem.1 hy
  simp at hc
  have hn : n < l.length := by omega
  refine ⟨hn, ?_⟩
  rw [rd32 _ _ hn, List.getElem_drop]
  unfold KSorted at hs
  rw [List.pairwise_iff_getElem] at hs
  by_cases c0 : c = 0
  · subst c0; exact Int.le_refl _
  · exact hs n (n + c) hn (by omega) (by omega)
theorem merge_from (l0 : List (List S32)) (hsm : l0.length ≤ 1048576) (hin : ∀ l ∈ l0, l.length ≤ 1048576) (hso : ∀ l ∈ l0, KSorted day l) :
    ∀ (T : Nat) (ats : List Nat) (out : List S32), ats.length = l0.length → (rems l0 ats).flatten.length = T → out.length + T < 4398046511104 →
      ∃ K m, Mrg day (rems l0 ats) m ∧ ∀ k, payoffref03_Merge.l2 (k + K) l0 (ofN ats) out = some (out ++ m, 0) := by
  intro T
  induction T with
  | zero =>
    intro ats out hlen hT ho
    obtain ⟨best, hB, hsc⟩ := scan l0 ats hlen hsm out l0.length 0 (-1) (by omega) (by omega) (.inl ⟨rfl, fun j h => by omega⟩)
    have hnil : ∀ r ∈ rems l0 ats, r = [] := List.flatten_eq_nil_iff.1 (List.eq_nil_of_length_eq_zero hT)
    have hno : ∀ j, j < l0.length → ¬ more l0 ats j := by
      intro j hj hm
      have h1 := List.mem_of_getElem? (rems_get l0 ats hlen j hj)
      have h2 := congrArg List.length (hnil _ h1)
      unfold more at hm
      simp only [List.length_drop, List.length_nil] at h2
      omega
    rcases hB with ⟨rfl, _⟩ | ⟨b, rfl, hb, hbm, _⟩
    · refine ⟨l0.length + 2, [], Mrg.done _ hnil, fun k => ?_⟩
      rw [show k + (l0.length + 2) = (k + 1 + l0.length) + 1 by omega]
      simp only [payoffref03_Merge.l2]
      have := hsc (k + 1)
      rw [show ((0 : Nat) : Int) = 0 from rfl] at this
      rw [this]
      simp only [payoffref03_Merge.l3]
      rw [if_neg (by omega), if_pos (by omega), List.append_nil]
    · exact absurd hbm (hno b hb)
  | succ T ih =>
    intro ats out hlen hT ho
    obtain ⟨best, hB, hsc⟩ := scan l0 ats hlen hsm out l0.length 0 (-1) (by omega) (by omega) (.inl ⟨rfl, fun j h => by omega⟩)
    rcases hB with ⟨rfl, hno⟩ | ⟨b, rfl, hb, hbm, hle, hst⟩
    · exfalso
      have hnil : (rems l0 ats).flatten = [] := by
        rw [List.flatten_eq_nil_iff]
        intro r hr
        obtain ⟨j, hj, hjr⟩ := List.mem_iff_getElem?.1 hr |>.imp fun j h => (show ∃ _ : j < l0.length, (rems l0 ats)[j]? = some r from ⟨by have := (List.getElem?_eq_some_iff.1 h).1; rwa [rems_len _ _ hlen] at this, h⟩)
        rw [rems_get l0 ats hlen j hj] at hjr
        cases hjr
        have := hno j hj
        unfold more at this
        exact List.drop_eq_nil_of_le (by omega)
      rw [hnil] at hT
      simp at hT
    · have hbm' := hbm
      unfold more at hbm'
      have hba : b < ats.length := by omega
      have hbl : (rd_L4 l0 (b : Int)) ∈ l0 := rdL4_mem l0 b hb
      have hlb := hin _ hbl
      obtain ⟨a, ha⟩ : ∃ a, a = ats.getD b 0 := ⟨_, rfl⟩
      rw [← ha] at hbm'
      have hx : (rems l0 ats)[b]? = some (rd_T32 (rd_L4 l0 (b : Int)) (a : Int) :: (rd_L4 l0 (b : Int)).drop (a + 1)) := by
        rw [rems_get l0 ats hlen b hb, ← ha, rd32 _ _ hbm', List.drop_eq_getElem_cons hbm']
      have hmem : ∀ y, ∀ j, j < l0.length → y ∈ (rd_L4 l0 (j : Int)).drop (ats.getD j 0) → more l0 ats j ∧ hd l0 ats j ≤ day y := fun y j hj hy =>
        drop_le _ (hso _ (rdL4_mem l0 j hj)) _ y hy
      have hset := rems_set l0 ats hlen b (a + 1) hb
      obtain ⟨A, B, s1, s2, s3⟩ := set_flatten_split (rems l0 ats) b _ _ hx
      have hT' : (rems l0 (ats.set b (a + 1))).flatten.length = T := by
        rw [hset, s2]
        rw [s1] at hT
        simp only [List.length_append, List.length_cons] at hT ⊢
        omega
      obtain ⟨K, m, hM, hk⟩ := ih (ats.set b (a + 1)) (out ++ [rd_T32 (rd_L4 l0 (b : Int)) (a : Int)]) (by simp [hlen]) hT' (by simp; omega)
      have hkey : day (rd_T32 (rd_L4 l0 (b : Int)) (a : Int)) = hd l0 ats b := by unfold day hd; rw [← ha]
      refine ⟨K + (l0.length + 2), rd_T32 (rd_L4 l0 (b : Int)) (a : Int) :: m, Mrg.pick _ b _ _ hx ?_ ?_ m (hset ▸ hM), fun k => ?_⟩
      · intro y hy
        obtain ⟨r, hr, hyr⟩ := List.mem_flatten.1 hy
        obtain ⟨j, hjr⟩ := List.mem_iff_getElem?.1 hr
        rw [List.getElem?_take] at hjr
        split at hjr
        · rename_i hjb
          rw [rems_get l0 ats hlen j (by omega)] at hjr
          cases hjr
          obtain ⟨h1, h2⟩ := hmem y j (by omega) hyr
          have := hst j hjb h1
          omega
        · cases hjr
      · intro y hy
        obtain ⟨r, hr, hyr⟩ := List.mem_flatten.1 hy
        obtain ⟨j, hjr⟩ := List.mem_iff_getElem?.1 hr
        have hj : j < l0.length := by have := (List.getElem?_eq_some_iff.1 hjr).1; rwa [rems_len _ _ hlen] at this
        rw [rems_get l0 ats hlen j hj] at hjr
        cases hjr
        obtain ⟨h1, h2⟩ := hmem y j hj hyr
        have := hle j hj h1
        omega
      · rw [show k + (K + (l0.length + 2)) = (k + K + 1 + l0.length) + 1 by omega]
        simp only [payoffref03_Merge.l2]
        have := hsc (k + K + 1)
        rw [show ((0 : Nat) : Int) = 0 from rfl] at this
        rw [this]
        have e2 : rd (ofN ats) (b : Int) = (a : Int) := by rw [rd_ofN _ _ hba, ha]; simp [hba]
        simp only [payoffref03_Merge.l3]
        rw [if_neg (by omega), if_neg (by omega), if_pos (by omega), if_pos (by omega), if_pos (by simp; omega), e2, if_pos (by omega), if_pos (by omega), if_pos (by omega)]
        rw [wrap_small _ (by omega) (by omega), Int.toNat_natCast, show (a : Int) + 1 = ((a + 1 : Nat) : Int) by omega, set_ofN]
        rw [hk k]
        simp
theorem chk1 (l0 : List (List S32)) (x4 : List Int) (hsm : l0.length ≤ 1048576) (i : Nat) (hi : i < l0.length) (hl : (rd_L4 l0 (i : Int)).length ≤ 1048576) :
    ∀ (d j : Nat), (rd_L4 l0 (i : Int)).length + 1 - j = d → 1 ≤ j → j ≤ (rd_L4 l0 (i : Int)).length + 1 → UpTo (rd_L4 l0 (i : Int)) j →
      (KSorted day (rd_L4 l0 (i : Int)) ∧ ∃ K, ∀ k, payoffref03_Merge.l1 (k + K) l0 x4 (i : Int) (j : Int) = payoffref03_Merge.l0 k l0 x4 ((i + 1 : Nat) : Int)) ∨
      (¬ KSorted day (rd_L4 l0 (i : Int)) ∧ ∃ K, ∀ k, payoffref03_Merge.l1 (k + K) l0 x4 (i : Int) (j : Int) = some ([], 1)) := by
  intro d
  have w1 : wrap64 ((i : Int) + 1) = ((i + 1 : Nat) : Int) := by rw [wrap_small _ (by omega) (by omega)]; omega
  induction d with
  | zero =>
    intro j hd h1 h2 hU
    refine .inl ⟨upTo_sorted _ fun q hq => hU q (by omega), 1, fun k => ?_⟩
    simp only [payoffref03_Merge.l1]
    rw [if_pos (by omega), if_pos (by omega), if_neg (by omega), w1]
  | succ d ih =>
    intro j hd h1 h2 hU
    by_cases hj : j < (rd_L4 l0 (i : Int)).length
    · obtain ⟨q, rfl⟩ : ∃ q, j = q + 1 := ⟨j - 1, by omega⟩
      have w2 : wrap64 (((q + 1 : Nat) : Int) - 1) = (q : Int) := by rw [wrap_small _ (by omega) (by omega)]; omega
      have w3 : wrap64 (((q + 1 : Nat) : Int) + 1) = ((q + 1 + 1 : Nat) : Int) := by rw [wrap_small _ (by omega) (by omega)]; omega
      by_cases hc : (rd_T32 (rd_L4 l0 (i : Int)) ((q + 1 : Nat) : Int)).f0 < (rd_T32 (rd_L4 l0 (i : Int)) (q : Int)).f0
      · refine .inr ⟨not_sorted _ q hj hc, 1, fun k => ?_⟩
        simp only [payoffref03_Merge.l1]
        rw [if_pos (by omega), if_pos (by omega), if_pos (by omega), if_pos (by omega), w2, if_pos (by omega), if_pos (by omega), if_pos hc]
      · have hst : ∀ k, payoffref03_Merge.l1 (k + 1) l0 x4 (i : Int) ((q + 1 : Nat) : Int) = payoffref03_Merge.l1 k l0 x4 (i : Int) ((q + 1 + 1 : Nat) : Int) := fun k => by
          simp only [payoffref03_Merge.l1]
          rw [if_pos (by omega), if_pos (by omega), if_pos (by omega), if_pos (by omega), w2, if_pos (by omega), if_pos (by omega), if_neg hc, w3]
        have hU2 : UpTo (rd_L4 l0 (i : Int)) (q + 1 + 1) := fun p hp => by
          by_cases e : p + 1 < q + 1
          · exact hU p e
          · obtain rfl : p = q := by omega
            omega
        rcases ih (q + 1 + 1) (by omega) (by omega) (by omega) hU2 with ⟨h3, K, hK⟩ | ⟨h3, K, hK⟩
        · exact .inl ⟨h3, K + 1, fun k => by rw [← Nat.add_assoc, hst, hK]⟩
        · exact .inr ⟨h3, K + 1, fun k => by rw [← Nat.add_assoc, hst, hK]⟩
    · refine .inl ⟨upTo_sorted _ fun q hq => hU q (by omega), 1, fun k => ?_⟩
      simp only [payoffref03_Merge.l1]
      rw [if_pos (by omega), if_pos (by omega), if_neg (by omega), w1]
theorem chk0 (l0 : List (List S32)) (x4 : List Int) (hsm : l0.length ≤ 1048576) (hin : ∀ l ∈ l0, l.length ≤ 1048576) :
    ∀ (d i : Nat), l0.length - i = d → i ≤ l0.length →
      ((∀ l ∈ l0.drop i, KSorted day l) ∧ ∃ K, ∀ k, payoffref03_Merge.l0 (k + K) l0 x4 (i : Int) = payoffref03_Merge.l2 k l0 x4 []) ∨
      ((∃ l ∈ l0.drop i, ¬ KSorted day l) ∧ ∃ K, ∀ k, payoffref03_Merge.l0 (k + K) l0 x4 (i : Int) = some ([], 1)) := by
  intro d
  induction d with
  | zero =>
    intro i hd hi
    obtain rfl : i = l0.length := by omega
    refine .inl ⟨by simp, 1, fun k => ?_⟩
    simp only [payoffref03_Merge.l0]
    rw [if_neg (by omega)]
  | succ d ih =>
    intro i hd hi
    have hlt : i < l0.length := by omega
    have hm := rdL4_mem l0 i hlt
    have hst : ∀ k, payoffref03_Merge.l0 (k + 1) l0 x4 (i : Int) = payoffref03_Merge.l1 k l0 x4 (i : Int) ((1 : Nat) : Int) := fun k => by
      simp only [payoffref03_Merge.l0]
      rw [if_pos (by omega)]
      rfl
    have hdrop : l0.drop i = rd_L4 l0 (i : Int) :: l0.drop (i + 1) := by rw [rdL4 _ _ hlt]; exact List.drop_eq_getElem_cons hlt
    rw [hdrop]
    rcases chk1 l0 x4 hsm i hlt (hin _ hm) _ 1 rfl (Nat.le_refl _) (by omega) (fun p hp => by omega) with ⟨h1, K, hK⟩ | ⟨h1, K, hK⟩
    · rcases ih (i + 1) (by omega) (by omega) with ⟨h2, K2, hK2⟩ | ⟨h2, K2, hK2⟩
      · refine .inl ⟨fun l hl => ?_, K2 + K + 1, fun k => by rw [← Nat.add_assoc, hst, ← Nat.add_assoc, hK, hK2]⟩
        rcases List.mem_cons.1 hl with rfl | hl
        · exact h1
        · exact h2 l hl
      · obtain ⟨l, hl, hn⟩ := h2
        exact .inr ⟨⟨l, List.mem_cons_of_mem _ hl, hn⟩, K2 + K + 1, fun k => by rw [← Nat.add_assoc, hst, ← Nat.add_assoc, hK, hK2]⟩
    · exact .inr ⟨⟨_, List.mem_cons_self, h1⟩, K + 1, fun k => by rw [← Nat.add_assoc, hst, hK]⟩
theorem rems_zero (l0 : List (List S32)) : rems l0 (List.replicate l0.length 0) = l0 := by
  apply List.ext_getElem?
  intro j
  by_cases hj : j < l0.length
  · rw [rems_get _ _ (by simp) _ hj, rdL4 _ _ hj]
    simp [hj]
  · rw [List.getElem?_eq_none_iff.2 (by rw [rems_len _ _ (by simp)]; omega), List.getElem?_eq_none_iff.2 (by omega)]
theorem refMerge (l0 : List (List S32)) (hsm : l0.length ≤ 1048576) (hfl : l0.flatten.length ≤ 1048576) (m : List S32) (r2 : Int) (hg : Good l0 m r2) :
    ∃ k, payoffref03_Merge.f k l0 = some (m, r2) := by
  have hin : ∀ l ∈ l0, l.length ≤ 1048576 := fun l hl => by
    obtain ⟨i, hi, rfl⟩ := List.mem_iff_getElem.1 hl
    have := flat_le l0 i hi
    rw [rdL4 _ _ hi] at this
    omega
  have hz : (List.replicate l0.length (0 : Int)) = ofN (List.replicate l0.length 0) := by simp [ofN]
  have hf : ∀ k, payoffref03_Merge.f k l0 = payoffref03_Merge.l0 k l0 (ofN (List.replicate l0.length 0)) ((0 : Nat) : Int) := fun k => by
    unfold payoffref03_Merge.f
    rw [if_pos (by omega), if_pos (by omega), Int.toNat_natCast, hz]
    rfl
  rcases chk0 l0 (ofN (List.replicate l0.length 0)) hsm hin _ 0 rfl (Nat.zero_le _) with ⟨h1, K, hK⟩ | ⟨h1, K, hK⟩
  · rw [List.drop_zero] at h1
    obtain ⟨K2, m', hM, hK2⟩ := merge_from l0 hsm hin h1 l0.flatten.length (List.replicate l0.length 0) [] (by simp) (by rw [rems_zero]) (by simp only [List.length_nil]; omega)
    rw [rems_zero] at hM
    rcases hg with ⟨_, rfl, hs, hc⟩ | ⟨⟨l, hl, hn⟩, _⟩
    · have := Mrg.unique day hM hs hc
      subst this
      exact ⟨0 + K2 + K, by rw [hf, hK, hK2]; rfl⟩
    · exact absurd (h1 l hl) hn
  · rw [List.drop_zero] at h1
    rcases hg with ⟨ha, _⟩ | ⟨_, rfl, rfl⟩
    · obtain ⟨l, hl, hn⟩ := h1
      exact absurd (ha l hl) hn
    · exact ⟨0 + K, by rw [hf, hK]⟩
end Go.Proofs.Ytdfndbegifdejaa.PFlowExact
end
