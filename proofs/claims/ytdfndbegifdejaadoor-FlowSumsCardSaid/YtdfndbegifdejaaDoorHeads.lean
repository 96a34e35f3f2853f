/- heads: it answers true. -/
import Derived.Test.YtdfndbegifdejaaDoorHds
import Derived.Test.YtdfndbegifdejaaDoorPrnR0
namespace Go.Proofs.YtdfndbegifdejaaDoor.GD
set_option linter.unusedVariables false
set_option linter.unusedSimpArgs false
open Go.RowKit Go.Proofs.YtdfndbegifdejaaDoorW.PrintWords
def eur : ByteArray := ⟨#[69, 85, 82]⟩
def usd : ByteArray := ⟨#[85, 83, 68]⟩
def l3 : List S32 := [⟨3, eur, 5⟩, ⟨1, usd, 2⟩, ⟨3, eur, -5⟩]
def n3 : List S32 := [⟨1, usd, 2⟩, ⟨3, eur, 0⟩]
def t3 : ByteArray := ⟨#[49, 32, 85, 83, 68, 32, 50, 10, 51, 32, 69, 85, 82, 32, 48, 10]⟩
theorem ok_usd : PlOk ⟨1, usd⟩ := ⟨by decide, by decide⟩
theorem ok_eur : PlOk ⟨3, eur⟩ := ⟨by decide, by decide⟩
theorem ne_ue : (⟨1, usd⟩ : Pl) ≠ ⟨3, eur⟩ := by intro h; injection h with h1 _; omega
theorem lit_ne : placeL ⟨1, usd, 2⟩ ≠ plit ⟨3, eur⟩ := fun h => ne_ue (plit_inj ok_usd ok_eur h)
theorem lit_ne' (a : Int) : placeL ⟨3, eur, a⟩ ≠ plit ⟨1, usd⟩ := fun h => ne_ue (plit_inj ok_eur ok_usd h).symm
theorem grp_usd : grp placeL (plit ⟨1, usd⟩) l3 = [2] := by
  unfold grp l3
  simp only [List.filter_cons, List.filter_nil, lit_ne', decide_false]
  simp [placeL]
theorem grp_eur : grp placeL (plit ⟨3, eur⟩) l3 = [5, -5] := by
  unfold grp l3
  simp only [List.filter_cons, List.filter_nil, lit_ne, decide_false]
  simp [placeL]
theorem places3 : PlaceList l3 [⟨1, usd⟩, ⟨3, eur⟩] where
  nodup := by simp [ne_ue]
  ok := by intro c hc; simp at hc; rcases hc with rfl | rfl; exact ok_usd; exact ok_eur
  mem := by
    intro c hc
    constructor
    · intro h; simp at h
      rcases h with rfl | rfl
      · exact ⟨⟨1, usd, 2⟩, by simp [l3], rfl⟩
      · exact ⟨⟨3, eur, 5⟩, by simp [l3], rfl⟩
    · rintro ⟨x, hx, he⟩
      simp [l3] at hx
      rcases hx with rfl | rfl | rfl
      · rw [← plit_inj ok_eur hc he]; simp
      · rw [← plit_inj ok_usd hc he]; simp
      · rw [← plit_inj ok_eur hc he]; simp
  sorted := by
    simp [pless]
theorem sum2 : sumF 0 [2] = (2, 0) := by simp [sumF, wrap64]
theorem sum55 : sumF 0 [5, -5] = (0, 0) := by simp [sumF, wrap64]
theorem net3 : flow_Net.f l3 = some (n3, 0) := by
  refine flow_Net.of_good ?_ (by decide) ⟨_, places3, .inl ⟨rfl, ?_, ?_⟩⟩
  · intro x hx; simp [l3] at hx
    rcases hx with rfl | rfl | rfl
    · exact ⟨ok_eur, by decide⟩
    · exact ⟨ok_usd, by decide⟩
    · exact ⟨ok_eur, by decide⟩
  · simp only [nets, List.map_cons, List.map_nil, grp_usd, grp_eur, sum2, sum55]
    rfl
  · intro k hk; simp at hk
    rcases hk with rfl | rfl
    · rw [grp_usd, sum2]
    · rw [grp_eur, sum55]
theorem print3 : flow_Print.f n3 = some (t3, 0) := by
  have hw : WfI n3 := by
    intro x hx; simp [n3] at hx
    rcases hx with rfl | rfl
    · exact ⟨⟨by decide, by decide⟩, ⟨by decide, by decide⟩⟩
    · exact ⟨⟨by decide, by decide⟩, ⟨by decide, by decide⟩⟩
  unfold flow_Print.f
  rw [if_pos ⟨hw, by decide⟩]
  have hv1 : vld ⟨1, usd, 2⟩ = 0 := by decide
  have hv2 : vld ⟨3, eur, 0⟩ = 0 := by decide
  have e1 : Lib.itoa 1 = [49] := by simp [Lib.itoa, Lib.decDigits_one]
  have e2 : Lib.itoa 2 = [50] := by simp [Lib.itoa, Lib.decDigits_one]
  have e3 : Lib.itoa 3 = [51] := by simp [Lib.itoa, Lib.decDigits_one]
  have e0 : Lib.itoa 0 = [48] := by simp [Lib.itoa, Lib.decDigits_one]
  have l1 : lineL ⟨1, usd, 2⟩ = [49, 32, 85, 83, 68, 32, 50, 10] := by simp [lineL, e1, e2, usd]
  have l2 : lineL ⟨3, eur, 0⟩ = [51, 32, 69, 85, 82, 32, 48, 10] := by simp [lineL, e3, e0, eur]
  unfold printP n3
  simp [firstBad, hv1, hv2, prn, l1, l2, t3]
theorem parse3 : flow_Parse.f 60 t3 = some (n3, 0, 0) := by kernel_rfl
theorem heads_f (k : Nat) (hk : 61 ≤ k) : payofflaw03_heads.f k = some true := by
  obtain ⟨k, rfl⟩ : ∃ q, k = q + 1 := ⟨k - 1, by omega⟩
  have hp : flow_Parse.f k t3 = some (n3, 0, 0) := mono_le (fun k => flow_Parse.mono t3 k) (show 60 ≤ k by omega) parse3
  have hs : payofflaw03_same.f k n3 n3 = some true := mono_le (fun k => payofflaw03_same.mono n3 n3 k) (show 10 ≤ k by omega) (by
    have e : ∀ x : S32, ((!(x.f0 == x.f0) || (!(x.f1.toList == x.f1.toList) || !(x.f2 == x.f2))) = true) ↔ False := fun x => by simp
    unfold payofflaw03_same.f
    have r0 : rd_T32 n3 0 = ⟨1, usd, 2⟩ := rfl
    have r1 : rd_T32 n3 1 = ⟨3, eur, 0⟩ := rfl
    have hl : (n3.length : Int) = 2 := rfl
    rw [if_pos rfl]
    simp only [payofflaw03_same.l0, hl]
    simp [wrap64, r0, r1])
  unfold payofflaw03_heads.f
  simp only [Option.bind_some]
  rw [show ([(⟨3, (⟨#[69, 85, 82]⟩ : ByteArray), 5⟩ : S32), (⟨1, (⟨#[85, 83, 68]⟩ : ByteArray), 2⟩ : S32), (⟨3, (⟨#[69, 85, 82]⟩ : ByteArray), (-5)⟩ : S32)] : List S32) = l3 from rfl, net3]
  simp only [Option.bind_some]
  have r0 : rd_T32 n3 0 = ⟨1, usd, 2⟩ := rfl
  have r1 : rd_T32 n3 1 = ⟨3, eur, 0⟩ := rfl
  have q1 : rd_T32 l3 1 = ⟨1, usd, 2⟩ := rfl
  have hl : (n3.length : Int) = 2 := rfl
  have hm : (l3.length : Int) = 3 := rfl
  have he : eur.toList = [69, 85, 82] := by rw [ByteArray.toList_eq]; rfl
  have hj : payofflaw03_heads.j0 (k + 1) n3 false = some true := by
    simp only [payofflaw03_heads.j0]
    rw [if_neg (by decide), print3, show (⟨#[49, 32, 85, 83, 68, 32, 50, 10, 51, 32, 69, 85, 82, 32, 48, 10]⟩ : ByteArray) = t3 from rfl, hp]
    simp only [Option.bind_some]
    have ht : t3.toList = [49, 32, 85, 83, 68, 32, 50, 10, 51, 32, 69, 85, 82, 32, 48, 10] := by rw [ByteArray.toList_eq]; rfl
    rw [if_pos trivial, if_pos ht, if_pos trivial, hs]
    rfl
  rw [hl, hm, r0, r1, q1]
  simp [he, hj]
end Go.Proofs.YtdfndbegifdejaaDoor.GD
