import Derived.Test.YtdfndbegifdejaaFys
import Derived.SizedLaws
import Derived.ChangeSlices
import Derived.ChangeArms
import Derived.Deep.Slices
section
namespace Go.Proofs.YtdfndbegifdejaaMine
set_option linter.unusedVariables false
set_option linter.unusedSimpArgs false
open Go.RowKit Go.Proofs.YtdfndbegifdejaaW.PrintWords
def dsum : List Nat → Nat
  | [] => 0
  | n :: r => n + dsum r
mutual
def dbulk {H : Type} : DataW H → Nat
  | .lit (.string bytes) => bytes.length + 1
  | .lit _ => 1
  | .nil => 1
  | .ptr d => dbulk d + 1
  | .slice elems spare => dbulkAll elems + dbulkAll spare + 1
  | .agg parts => dbulkAll parts + 1
  | .iface _ d => dbulk d + 1
  | .map entries => dbulkEntries entries + 1
  | .held _ => 1
def dbulkAll {H : Type} : List (DataW H) → Nat
  | [] => 0
  | d :: r => dbulk d + dbulkAll r
def dbulkEntries {H : Type} : List (Lit × DataW H) → Nat
  | [] => 0
  | x :: r => dbulkEntry x + dbulkEntries r
def dbulkEntry {H : Type} : Lit × DataW H → Nat
  | (.string bytes, d) => bytes.length + dbulk d + 1
  | (_, d) => dbulk d + 1
end
def Light (l : List Nat) : Prop := ∀ n ∈ l, n ≤ reachBytes
theorem Light.left {a b : List Nat} (h : Light (a ++ b)) : Light a := fun n hn => h n (List.mem_append_left _ hn)
theorem Light.right {a b : List Nat} (h : Light (a ++ b)) : Light b := fun n hn => h n (List.mem_append_right _ hn)
def Opens {α : Type} (P : Program) (t : TypeId) (d : Kd α) (WF : α → Prop) (bk : α → Nat) (N : Nat) : Prop :=
  P.cellsOf t = d.sz ∧ ∀ {H : Type} (enc : TypeId × Value → H) (w : World) (base : Nat) (spare : Nat → Bool) (held : Bool) (fuel : Nat) (cs : List Value) (x : DataW H × List MemPlace), fuel ≤ N →
    DataW.trod enc P w base spare held fuel t cs = some x → Light (x.1.weights P t) → ∃ a, d.K w a cs ∧ WF a ∧ bk a ≤ dbulk x.1
section
variable {P : Program} {t e : TypeId}
theorem opens_int {k : IntKind} (hu : P.underlying t = some (.int k)) (hc : P.cellsOf t = 1) (N : Nat) : Opens P t (Kd.int k) (fun a => (Lit.int k a).wf = true) (fun _ => 1) N := by
  refine ⟨hc, fun enc w base spare held fuel cs x _ h _ => ?_⟩
  obtain ⟨n, rfl, rfl, hw⟩ := DataW.trod_int hu h
  exact ⟨n, rfl, hw, by simp [dbulk]⟩
theorem opens_string (hu : P.underlying t = some .string) (hc : P.cellsOf t = 1) (N : Nat) : Opens P t Kd.string (fun s => s.size ≤ reachBytes) (fun s => s.size + 1) N := by
  refine ⟨hc, fun enc w base spare held fuel cs x _ h hl => ?_⟩
  obtain ⟨s, rfl, rfl, _⟩ := DataW.trod_string hu h
  have hs : s.data.toList.length = s.size := by rw [Array.length_toList]; rfl
  refine ⟨s, rfl, ?_, by simp [dbulk, hs]⟩
  have := hl s.data.toList.length (by simp [DataW.weights])
  rwa [hs] at this
theorem weightsAll_mem {H : Type} {P : Program} {e : TypeId} : ∀ {ds : List (DataW H)} {d : DataW H}, d ∈ ds → ∀ n ∈ d.weights P e, n ∈ DataW.weightsAll P e ds
  | d0 :: ds, d, hd, n, hn => by
    simp only [DataW.weightsAll, List.mem_append]
    rcases List.mem_cons.1 hd with rfl | hd
    · exact .inl hn
    · exact .inr (weightsAll_mem hd n hn)
  | [], _, hd, _, _ => by cases hd
theorem dbulkAll_le {H : Type} {α : Type} (bk : α → Nat) : ∀ (xs : List α) (ds : List (DataW H)), xs.length = ds.length → (∀ (j : Nat) (a : α) (d : DataW H), xs[j]? = some a → ds[j]? = some d → bk a ≤ dbulk d) → dsum (xs.map bk) ≤ dbulkAll ds
  | [], [], _, _ => by simp [dsum]
  | a :: xs, d :: ds, hl, h => by
    have h0 := h 0 a d rfl rfl
    have ih := dbulkAll_le bk xs ds (by simpa using hl) (fun j a' d' ha hd => h (j + 1) a' d' ha hd)
    simp only [List.map_cons, dsum, dbulkAll]
    omega
  | [], _ :: _, hl, _ => by simp at hl
  | _ :: _, [], hl, _ => by simp at hl
theorem list_choose {α : Type} (R : Nat → α → Prop) : ∀ n, (∀ j, j < n → ∃ a, R j a) → ∃ xs : List α, xs.length = n ∧ ∀ j a, xs[j]? = some a → R j a
  | 0, _ => ⟨[], rfl, fun j a h => by simp at h⟩
  | n + 1, h => by
    obtain ⟨xs, hl, hx⟩ := list_choose R n (fun j hj => h j (by omega))
    obtain ⟨a, ha⟩ := h n (by omega)
    refine ⟨xs ++ [a], by simp [hl], fun j b hb => ?_⟩
    rcases Nat.lt_or_ge j xs.length with hj | hj
    · rw [List.getElem?_append_left hj] at hb
      exact hx j b hb
    · rw [List.getElem?_append_right hj] at hb
      have hj2 : j = n := by
        rcases Nat.eq_zero_or_pos (j - xs.length) with h0 | h0
        · omega
        · rw [List.getElem?_eq_none (by simp; omega)] at hb; cases hb
      subst hj2
      have hb2 : a = b := by simpa [hl] using hb
      subst hb2
      exact ha
theorem opens_slice {α : Type} {d : Kd α} {WF : α → Prop} {bk : α → Nat} {N : Nat} (hu : P.underlying t = some (.slice e)) (hc : P.cellsOf t = 1) (h : Opens P e d WF bk N) :
    Opens P t (Kd.slice e d) (fun l => l.length * P.bytesOf e ≤ reachBytes ∧ ∀ a ∈ l, WF a) (fun l => dsum (l.map bk) + 1) (N + 1) := by
  refine ⟨hc, fun enc w base spare held fuel cs x hf hx hl => ?_⟩
  rcases DataW.trod_slice hu hx with ⟨rfl, rfl⟩ | ⟨ad, len, cap, elems, rest, n, hn, rfl, rfl, hb, hlc, hcm, hlen, hel, _, _⟩
  · exact ⟨[], ⟨none, 0, rfl, Nat.le_refl _, Kd.C_nil d w⟩, ⟨by simp, by simp⟩, by simp [dsum, dbulk]⟩
  · obtain ⟨hcell, ho⟩ := h
    have hw : ∀ y ∈ elems.map (·.1), Light (y.weights P e) := by
      intro y hy n hn
      refine hl n ?_
      simp only [DataW.weights, hu, List.mem_cons, List.mem_append]
      exact .inr (.inl (weightsAll_mem hy n hn))
    have key : ∀ j, j < len → ∃ a : α, ∃ c : List Value, ∃ y, elems[j]? = some y ∧ c.length = d.sz ∧ d.K w a c ∧ (∀ i u, c[i]? = some u → w.cell? (ad.add (j * d.sz + i)) = some u) ∧ WF a ∧ bk a ≤ dbulk y.1 := by
      intro j hj
      have h1 := hel j hj
      have hjl : j < elems.length := by omega
      rw [List.getElem?_eq_getElem hjl] at h1
      obtain ⟨c, hc1, hc2⟩ := Option.bind_eq_some_iff.1 h1
      obtain ⟨_, hclen, hcat⟩ := World.cells?_some hc1
      obtain ⟨a, hK, hW, hB⟩ := ho enc w base spare held n c _ (by omega) hc2 (hw _ (List.mem_map_of_mem (List.getElem_mem hjl)))
      refine ⟨a, c, elems[j], List.getElem?_eq_getElem hjl, by rw [hclen, hcell], hK, fun i u hu => ?_, hW, hB⟩
      have hi : i < P.cellsOf e := by rw [← hclen]; exact (List.getElem?_eq_some_iff.1 hu).1
      rw [← hcell, ← hu, ← hcat i hi, Go.Deep.add_add]
    obtain ⟨xs, hxl, hxs⟩ := list_choose _ len key
    refine ⟨xs, ⟨some ad, cap, by rw [hxl], by rw [hxl]; exact hlc, hxl ▸ rfl, by rw [hxl]; have := hcm; have := hlc; simp only [maxLen] at *; omega, fun _ => ⟨ad, rfl, fun j p hj => ?_⟩⟩, ⟨?_, fun a ha => ?_⟩, ?_⟩
    · obtain ⟨c, y, _, h1, h2, h3, _, _⟩ := hxs j p hj
      exact ⟨c, h1, h2, h3⟩
    · have h1 := hl ((elems.map (·.1)).length + (rest.map (·.1)).length * 1 |> fun _ => ((elems.map (·.1)).length + (rest.map (·.1)).length) * P.bytesOf e) (by simp [DataW.weights, hu])
      simp only [List.length_map] at h1
      exact Nat.le_trans (Nat.mul_le_mul_right _ (by omega)) h1
    · obtain ⟨j, hj⟩ := List.mem_iff_getElem?.1 ha
      obtain ⟨c, y, _, _, _, _, h4, _⟩ := hxs j a hj
      exact h4
    · simp only [dbulk]
      have h1 := dbulkAll_le bk xs (elems.map (·.1)) (by simp [hxl, hlen]) (fun j a y ha hy => by
        obtain ⟨c, y', hy', _, _, _, _, h5⟩ := hxs j a ha
        rw [List.getElem?_map, hy'] at hy
        obtain rfl : y'.1 = y := by simpa using hy
        exact h5)
      omega
def OpensF {α : Type} (P : Program) (off : Nat) (fs : List Field) (d : Kd α) (WF : α → Prop) (bk : α → Nat) (N : Nat) : Prop :=
  ∀ {H : Type} (enc : TypeId × Value → H) (w : World) (base : Nat) (spare : Nat → Bool) (held : Bool) (fuel : Nat) (cs : List Value) (xs : List (DataW H × List MemPlace)), fuel ≤ N → cs.length = off + d.sz → xs.length = fs.length →
    (∀ (i : Nat) (f : Field), fs[i]? = some f → DataW.trod enc P w base spare held fuel f.type ((cs.drop f.offset).take (P.cellsOf f.type)) = xs[i]?) →
    Light (DataW.weightsEach P (fs.map (·.type)) (xs.map (·.1))) → ∃ a, d.K w a (cs.drop off) ∧ WF a ∧ bk a ≤ dbulkAll (xs.map (·.1))
theorem opensF_last {α : Type} {d : Kd α} {WF : α → Prop} {bk : α → Nat} {N off : Nat} {f : Field} (ho : f.offset = off) (h : Opens P f.type d WF bk N) : OpensF P off [f] d WF bk N := by
  intro H enc w base spare held fuel cs xs hf hcl hxl hx hl
  match xs, hxl with
  | [x], _ =>
    have h1 := hx 0 f rfl
    rw [ho, h.1, List.take_of_length_le (by rw [List.length_drop]; omega)] at h1
    simp only [List.map_cons, List.map_nil, DataW.weightsEach, List.append_nil] at hl
    obtain ⟨a, hK, hW, hB⟩ := h.2 enc w base spare held fuel _ x hf h1 hl
    exact ⟨a, hK, hW, by simpa [dbulkAll] using hB⟩
theorem opensF_cons {α β : Type} {d : Kd α} {d' : Kd β} {WF : α → Prop} {WF' : β → Prop} {bk : α → Nat} {bk' : β → Nat} {N off : Nat} {f : Field} {fs : List Field} (ho : f.offset = off) (h : Opens P f.type d WF bk N) (h' : OpensF P (off + d.sz) fs d' WF' bk' N) :
    OpensF P off (f :: fs) (Kd.pair d d') (fun p => WF p.1 ∧ WF' p.2) (fun p => bk p.1 + bk' p.2) N := by
  intro H enc w base spare held fuel cs xs hf hcl hxl hx hl
  match xs, hxl with
  | x :: xs, hxl =>
    have hcl' : cs.length = off + (d.sz + d'.sz) := hcl
    have h1 := hx 0 f rfl
    rw [ho, h.1] at h1
    simp only [List.map_cons, DataW.weightsEach] at hl
    obtain ⟨a, hK, hW, hB⟩ := h.2 enc w base spare held fuel _ x hf h1 hl.left
    obtain ⟨b, hK', hW', hB'⟩ := h' enc w base spare held fuel cs xs hf (by omega) (by simpa using hxl) (fun i g hg => hx (i + 1) g hg) hl.right
    refine ⟨(a, b), ⟨(cs.drop off).take d.sz, cs.drop (off + d.sz), ?_, hK, hK'⟩, ⟨hW, hW'⟩, by simp only [List.map_cons, dbulkAll]; omega⟩
    rw [← List.drop_drop, List.take_append_drop]
theorem opens_struct {α β : Type} {d : Kd α} {WF : α → Prop} {bk : α → Nat} {N : Nat} {fs : Array Field} (hu : P.underlying t = some (.struct fs)) (hc : P.cellsOf t = d.sz) (h : OpensF P 0 fs.toList d WF bk N) (f : β → α) (g : α → β) (hfg : ∀ a, f (g a) = a)
    (WF' : β → Prop) (bk' : β → Nat) (hW : ∀ a, WF a → WF' (g a)) (hB : ∀ a, bk' (g a) ≤ bk a + 1) :
    Opens P t (Kd.iso d f) WF' bk' (N + 1) := by
  refine ⟨hc, fun enc w base spare held fuel cs x hf hx hl => ?_⟩
  obtain ⟨xs, n, hn, rfl, hcl, hxl, hg⟩ := DataW.trod_struct hu hx
  obtain ⟨a, hK, hWa, hBa⟩ := h enc w base spare held n cs xs (by omega) (by omega) (by simpa using hxl) (fun i f hf => hg i f (by simpa using hf)) (by
    intro m hm
    refine hl m ?_
    simp only [DataW.weights, hu]
    exact hm)
  refine ⟨g a, ?_, hW a hWa, ?_⟩
  · show d.K w (f (g a)) cs
    rw [hfg]
    exact hK
  · have := hB a
    simp only [dbulk]
    omega
theorem Opens.reads {α : Type} {d : Kd α} {WF : α → Prop} {bk : α → Nat} (h : ∀ N, Opens P t d WF bk N) {H : Type} {enc : TypeId × Value → H} {w : World} {base : Nat} {spare : Nat → Bool} {held : Bool} {v : Value} {x : DataW H} {ps : List MemPlace}
    (hx : DataW.Trod enc P w base spare held t v x ps) (hl : Light (x.weights P t)) : ∃ a, d.K w a v.cells.toList ∧ WF a ∧ bk a ≤ dbulk x := by
  obtain ⟨fuel, hf⟩ := hx
  exact (h fuel).2 enc w base spare held fuel _ (x, ps) (Nat.le_refl _) hf hl
theorem Opens.mono {α : Type} {d : Kd α} {WF : α → Prop} {bk : α → Nat} {N M : Nat} (h : Opens P t d WF bk N) (hM : M ≤ N) : Opens P t d WF bk M := ⟨h.1, fun enc w base spare held fuel cs x hf => h.2 enc w base spare held fuel cs x (by omega)⟩
theorem light_each {H : Type} {ts : List TypeId} {ds : List (DataW H)} {j : Nat} {x : DataW H} (h : (DataW.weightsEach P ts ds).all (· ≤ reachBytes) = true) (ht : ts[j]? = some t) (hd : ds[j]? = some x) : Light (x.weights P t) := by
  intro n hn
  have := DataW.weights_mem_each ht hd n hn
  simpa using List.all_eq_true.1 h n this
end
end Go.Proofs.YtdfndbegifdejaaMine
end
section
namespace Go.Proofs.Ytdfndbegifdejaa.PFlowExact
set_option linter.unusedVariables false
open Go.RowKit Go.Proofs.YtdfndbegifdejaaW.PrintWords Go.Proofs.YtdfndbegifdejaaMine
theorem cells_3 : Try.prog.cellsOf 3 = 1 := by kernel_rfl
theorem cells_9 : Try.prog.cellsOf 9 = 1 := by kernel_rfl
theorem cells_32 : Try.prog.cellsOf 32 = 3 := by kernel_rfl
structure WF32 (x : S32) : Prop where
  d0 : (Lit.int .i64 x.f0).wf = true
  d1 : x.f1.size ≤ reachBytes
  d2 : (Lit.int .i64 x.f2).wf = true
def bk32 (x : S32) : Nat := 1 + (x.f1.size + 1) + 1
theorem opens32 (N : Nat) : Opens Try.prog 32 k32 WF32 bk32 N := by
  refine Opens.mono (N := N + 1) ?_ (by omega)
  have hF : OpensF Try.prog 0 _ (Kd.pair (Kd.int .i64) (Kd.pair Kd.string (Kd.int .i64))) _ _ N := (opensF_cons (f := { name := "Day", type := 3, offset := 0, embedded := false, tag := "", pkgPath := "", byteOffset := 0 }) rfl (opens_int Try.underlying3 cells_3 N) (opensF_cons (f := { name := "Cur", type := 9, offset := 1, embedded := false, tag := "", pkgPath := "", byteOffset := 8 }) rfl (opens_string Try.underlying9 cells_9 N) (opensF_last (f := { name := "Amount", type := 3, offset := 2, embedded := false, tag := "", pkgPath := "", byteOffset := 24 }) rfl (opens_int Try.underlying3 cells_3 N))))
  exact opens_struct Try.underlying32 cells_32 hF (fun x : S32 => (x.f0, x.f1, x.f2)) (fun p => ⟨p.1, p.2.1, p.2.2⟩) (fun _ => rfl) WF32 bk32 (fun a h => ⟨h.1, h.2.1, h.2.2⟩) (fun a => by simp only [bk32]; omega)
theorem cells_22 : Try.prog.cellsOf 22 = 1 := by kernel_rfl
theorem bytes_32 : Try.prog.bytesOf 32 = 32 := by kernel_rfl
def WF22 (l : (List S32)) : Prop := l.length * 32 ≤ reachBytes ∧ ∀ a ∈ l, WF32 a
def bk22 (l : (List S32)) : Nat := dsum (l.map (fun a => bk32 a)) + 1
theorem opens22 (N : Nat) : Opens Try.prog 22 (Kd.slice 32 k32) WF22 bk22 N := by
  have h := Opens.mono (N := N + 1) (opens_slice Try.underlying22 cells_22 (opens32 N)) (show N ≤ N + 1 by omega)
  rw [bytes_32] at h
  exact h
theorem cells_55 : Try.prog.cellsOf 55 = 3 := by kernel_rfl
structure WF55 (x : S55) : Prop where
  d0 : (Lit.int .i64 x.f0).wf = true
  d1 : WF22 x.f1
  d2 : (Lit.int .i64 x.f2).wf = true
def bk55 (x : S55) : Nat := 1 + bk22 x.f1 + 1
theorem opens55 (N : Nat) : Opens Try.prog 55 k55 WF55 bk55 N := by
  refine Opens.mono (N := N + 1) ?_ (by omega)
  have hF : OpensF Try.prog 0 _ (Kd.pair (Kd.int .i64) (Kd.pair (Kd.slice 32 k32) (Kd.int .i64))) _ _ N := (opensF_cons (f := { name := "Kind", type := 3, offset := 0, embedded := false, tag := "", pkgPath := "", byteOffset := 0 }) rfl (opens_int Try.underlying3 cells_3 N) (opensF_cons (f := { name := "Flows", type := 22, offset := 1, embedded := false, tag := "", pkgPath := "", byteOffset := 8 }) rfl (opens22 N) (opensF_last (f := { name := "N", type := 3, offset := 2, embedded := false, tag := "", pkgPath := "", byteOffset := 32 }) rfl (opens_int Try.underlying3 cells_3 N))))
  exact opens_struct Try.underlying55 cells_55 hF (fun x : S55 => (x.f0, x.f1, x.f2)) (fun p => ⟨p.1, p.2.1, p.2.2⟩) (fun _ => rfl) WF55 bk55 (fun a h => ⟨h.1, h.2.1, h.2.2⟩) (fun a => by simp only [bk55]; omega)
theorem cells_52 : Try.prog.cellsOf 52 = 1 := by kernel_rfl
theorem bytes_55 : Try.prog.bytesOf 55 = 40 := by kernel_rfl
def WF52 (l : (List S55)) : Prop := l.length * 40 ≤ reachBytes ∧ ∀ a ∈ l, WF55 a
def bk52 (l : (List S55)) : Nat := dsum (l.map (fun a => bk55 a)) + 1
theorem opens52 (N : Nat) : Opens Try.prog 52 (Kd.slice 55 k55) WF52 bk52 N := by
  have h := Opens.mono (N := N + 1) (opens_slice Try.underlying52 cells_52 (opens55 N)) (show N ≤ N + 1 by omega)
  rw [bytes_55] at h
  exact h
end Go.Proofs.Ytdfndbegifdejaa.PFlowExact
end
