import Derived.Test.YtkfbkjcdngipcaaTfk
import Derived.SizedLaws
import Derived.ChangeSlices
import Derived.ChangeArms
import Derived.Deep.Slices
section
namespace Go.Proofs.YtkfbkjcdngipcaaMine
set_option linter.unusedVariables false
set_option linter.unusedSimpArgs false
open Go.RowKit Go.Proofs.YtkfbkjcdngipcaaW.PrintWords
def dsum : List Nat → Nat
  | [] => 0
  | n :: r => n + dsum r
mutual
def dbulk {H : Type} : DataW H → Nat
  | .lit (.string bytes) => bytes.length + 1
  | .lit _ => 1
  | .nil => 1
  | .ptr d => dbulk d + 1
  | .slice elems spare => dbulkAll elems + dbulkAll spare + 1
  | .agg parts => dbulkAll parts + 1
  | .iface _ d => dbulk d + 1
  | .map entries => dbulkEntries entries + 1
  | .held _ => 1
def dbulkAll {H : Type} : List (DataW H) → Nat
  | [] => 0
  | d :: r => dbulk d + dbulkAll r
def dbulkEntries {H : Type} : List (Lit × DataW H) → Nat
  | [] => 0
  | x :: r => dbulkEntry x + dbulkEntries r
def dbulkEntry {H : Type} : Lit × DataW H → Nat
  | (.string bytes, d) => bytes.length + dbulk d + 1
  | (_, d) => dbulk d + 1
end
def Light (l : List Nat) : Prop := ∀ n ∈ l, n ≤ reachBytes
theorem Light.left {a b : List Nat} (h : Light (a ++ b)) : Light a := fun n hn => h n (List.mem_append_left _ hn)
theorem Light.right {a b : List Nat} (h : Light (a ++ b)) : Light b := fun n hn => h n (List.mem_append_right _ hn)
def Opens {α : Type} (P : Program) (t : TypeId) (d : Kd α) (WF : α → Prop) (bk : α → Nat) (N : Nat) : Prop :=
  P.cellsOf t = d.sz ∧ ∀ {H : Type} (enc : TypeId × Value → H) (w : World) (base : Nat) (spare : Nat → Bool) (held : Bool) (fuel : Nat) (cs : List Value) (x : DataW H × List MemPlace), fuel ≤ N →
    DataW.trod enc P w base spare held fuel t cs = some x → Light (x.1.weights P t) → ∃ a, d.K w a cs ∧ WF a ∧ bk a ≤ dbulk x.1
section
variable {P : Program} {t e : TypeId}
theorem opens_int {k : IntKind} (hu : P.underlying t = some (.int k)) (hc : P.cellsOf t = 1) (N : Nat) : Opens P t (Kd.int k) (fun a => (Lit.int k a).wf = true) (fun _ => 1) N := by
  refine ⟨hc, fun enc w base spare held fuel cs x _ h _ => ?_⟩
  obtain ⟨n, rfl, rfl, hw⟩ := DataW.trod_int hu h
  exact ⟨n, rfl, hw, by simp [dbulk]⟩
theorem opens_string (hu : P.underlying t = some .string) (hc : P.cellsOf t = 1) (N : Nat) : Opens P t Kd.string (fun s => s.size ≤ reachBytes) (fun s => s.size + 1) N := by
  refine ⟨hc, fun enc w base spare held fuel cs x _ h hl => ?_⟩
  obtain ⟨s, rfl, rfl, _⟩ := DataW.trod_string hu h
  have hs : s.data.toList.length = s.size := by rw [Array.length_toList]; rfl
  refine ⟨s, rfl, ?_, by simp [dbulk, hs]⟩
  have := hl s.data.toList.length (by simp [DataW.weights])
  rwa [hs] at this
theorem weightsAll_mem {H : Type} {P : Program} {e : TypeId} : ∀ {ds : List (DataW H)} {d : DataW H}, d ∈ ds → ∀ n ∈ d.weights P e, n ∈ DataW.weightsAll P e ds
  | d0 :: ds, d, hd, n, hn => by
    simp only [DataW.weightsAll, List.mem_append]
    rcases List.mem_cons.1 hd with rfl | hd
    · exact .inl hn
    · exact .inr (weightsAll_mem hd n hn)
  | [], _, hd, _, _ => by cases hd
theorem dbulkAll_le {H : Type} {α : Type} (bk : α → Nat) : ∀ (xs : List α) (ds : List (DataW H)), xs.length = ds.length → (∀ (j : Nat) (a : α) (d : DataW H), xs[j]? = some a → ds[j]? = some d → bk a ≤ dbulk d) → dsum (xs.map bk) ≤ dbulkAll ds
  | [], [], _, _ => by simp [dsum]
  | a :: xs, d :: ds, hl, h => by
    have h0 := h 0 a d rfl rfl
    have ih := dbulkAll_le bk xs ds (by simpa using hl) (fun j a' d' ha hd => h (j + 1) a' d' ha hd)
    simp only [List.map_cons, dsum, dbulkAll]
    omega
  | [], _ :: _, hl, _ => by simp at hl
  | _ :: _, [], hl, _ => by simp at hl
theorem list_choose {α : Type} (R : Nat → α → Prop) : ∀ n, (∀ j, j < n → ∃ a, R j a) → ∃ xs : List α, xs.length = n ∧ ∀ j a, xs[j]? = some a → R j a
  | 0, _ => ⟨[], rfl, fun j a h => by simp at h⟩
  | n + 1, h => by
    obtain ⟨xs, hl, hx⟩ := list_choose R n (fun j hj => h j (by omega))
    obtain ⟨a, ha⟩ := h n (by omega)
    refine ⟨xs ++ [a], by simp [hl], fun j b hb => ?_⟩
    rcases Nat.lt_or_ge j xs.length with hj | hj
    · rw [List.getElem?_append_left hj] at hb
      exact hx j b hb
    · rw [List.getElem?_append_right hj] at hb
      have hj2 : j = n := by
        rcases Nat.eq_zero_or_pos (j - xs.length) with h0 | h0
        · omega
        · rw [List.getElem?_eq_none (by simp; omega)] at hb; cases hb
      subst hj2
      have hb2 : a = b := by simpa [hl] using hb
      subst hb2
      exact ha
theorem opens_slice {α : Type} {d : Kd α} {WF : α → Prop} {bk : α → Nat} {N : Nat} (hu : P.underlying t = some (.slice e)) (hc : P.cellsOf t = 1) (h : Opens P e d WF bk N) :
    Opens P t (Kd.slice e d) (fun l => l.length * P.bytesOf e ≤ reachBytes ∧ ∀ a ∈ l, WF a) (fun l => dsum (l.map bk) + 1) (N + 1) := by
  refine ⟨hc, fun enc w base spare held fuel cs x hf hx hl => ?_⟩
  rcases DataW.trod_slice hu hx with ⟨rfl, rfl⟩ | ⟨ad, len, cap, elems, rest, n, hn, rfl, rfl, hb, hlc, hcm, hlen, hel, _, _⟩
  · exact ⟨[], ⟨none, 0, rfl, Nat.le_refl _, Kd.C_nil d w⟩, ⟨by simp, by simp⟩, by simp [dsum, dbulk]⟩
  · obtain ⟨hcell, ho⟩ := h
    have hw : ∀ y ∈ elems.map (·.1), Light (y.weights P e) := by
      intro y hy n hn
      refine hl n ?_
      simp only [DataW.weights, hu, List.mem_cons, List.mem_append]
      exact .inr (.inl (weightsAll_mem hy n hn))
    have key : ∀ j, j < len → ∃ a : α, ∃ c : List Value, ∃ y, elems[j]? = some y ∧ c.length = d.sz ∧ d.K w a c ∧ (∀ i u, c[i]? = some u → w.cell? (ad.add (j * d.sz + i)) = some u) ∧ WF a ∧ bk a ≤ dbulk y.1 := by
      intro j hj
      have h1 := hel j hj
      have hjl : j < elems.length := by omega
      rw [List.getElem?_eq_getElem hjl] at h1
      obtain ⟨c, hc1, hc2⟩ := Option.bind_eq_some_iff.1 h1
      obtain ⟨_, hclen, hcat⟩ := World.cells?_some hc1
      obtain ⟨a, hK, hW, hB⟩ := ho enc w base spare held n c _ (by omega) hc2 (hw _ (List.mem_map_of_mem (List.getElem_mem hjl)))
      refine ⟨a, c, elems[j], List.getElem?_eq_getElem hjl, by rw [hclen, hcell], hK, fun i u hu => ?_, hW, hB⟩
      have hi : i < P.cellsOf e := by rw [← hclen]; exact (List.getElem?_eq_some_iff.1 hu).1
      rw [← hcell, ← hu, ← hcat i hi, Go.Deep.add_add]
    obtain ⟨xs, hxl, hxs⟩ := list_choose _ len key
    refine ⟨xs, ⟨some ad, cap, by rw [hxl], by rw [hxl]; exact hlc, hxl ▸ rfl, by rw [hxl]; have := hcm; have := hlc; simp only [maxLen] at *; omega, fun _ => ⟨ad, rfl, fun j p hj => ?_⟩⟩, ⟨?_, fun a ha => ?_⟩, ?_⟩
    · obtain ⟨c, y, _, h1, h2, h3, _, _⟩ := hxs j p hj
      exact ⟨c, h1, h2, h3⟩
    · have h1 := hl ((elems.map (·.1)).length + (rest.map (·.1)).length * 1 |> fun _ => ((elems.map (·.1)).length + (rest.map (·.1)).length) * P.bytesOf e) (by simp [DataW.weights, hu])
      simp only [List.length_map] at h1
      exact Nat.le_trans (Nat.mul_le_mul_right _ (by omega)) h1
    · obtain ⟨j, hj⟩ := List.mem_iff_getElem?.1 ha
      obtain ⟨c, y, _, _, _, _, h4, _⟩ := hxs j a hj
      exact h4
    · simp only [dbulk]
      have h1 := dbulkAll_le bk xs (elems.map (·.1)) (by simp [hxl, hlen]) (fun j a y ha hy => by
        obtain ⟨c, y', hy', _, _, _, _, h5⟩ := hxs j a ha
        rw [List.getElem?_map, hy'] at hy
        obtain rfl : y'.1 = y := by simpa using hy
        exact h5)
      omega
def OpensF {α : Type} (P : Program) (off : Nat) (fs : List Field) (d : Kd α) (WF : α → Prop) (bk : α → Nat) (N : Nat) : Prop :=
  ∀ {H : Type} (enc : TypeId × Value → H) (w : World) (base : Nat) (spare : Nat → Bool) (held : Bool) (fuel : Nat) (cs : List Value) (xs : List (DataW H × List MemPlace)), fuel ≤ N → cs.length = off + d.sz → xs.length = fs.length →
    (∀ (i : Nat) (f : Field), fs[i]? = some f → DataW.trod enc P w base spare held fuel f.type ((cs.drop f.offset).take (P.cellsOf f.type)) = xs[i]?) →
    Light (DataW.weightsEach P (fs.map (·.type)) (xs.map (·.1))) → ∃ a, d.K w a (cs.drop off) ∧ WF a ∧ bk a ≤ dbulkAll (xs.map (·.1))
theorem opensF_last {α : Type} {d : Kd α} {WF : α → Prop} {bk : α → Nat} {N off : Nat} {f : Field} (ho : f.offset = off) (h : Opens P f.type d WF bk N) : OpensF P off [f] d WF bk N := by
  intro H enc w base spare held fuel cs xs hf hcl hxl hx hl
  match xs, hxl with
  | [x], _ =>
    have h1 := hx 0 f rfl
    rw [ho, h.1, List.take_of_length_le (by rw [List.length_drop]; omega)] at h1
    simp only [List.map_cons, List.map_nil, DataW.weightsEach, List.append_nil] at hl
    obtain ⟨a, hK, hW, hB⟩ := h.2 enc w base spare held fuel _ x hf h1 hl
    exact ⟨a, hK, hW, by simpa [dbulkAll] using hB⟩
theorem opensF_cons {α β : Type} {d : Kd α} {d' : Kd β} {WF : α → Prop} {WF' : β → Prop} {bk : α → Nat} {bk' : β → Nat} {N off : Nat} {f : Field} {fs : List Field} (ho : f.offset = off) (h : Opens P f.type d WF bk N) (h' : OpensF P (off + d.sz) fs d' WF' bk' N) :
    OpensF P off (f :: fs) (Kd.pair d d') (fun p => WF p.1 ∧ WF' p.2) (fun p => bk p.1 + bk' p.2) N := by
  intro H enc w base spare held fuel cs xs hf hcl hxl hx hl
  match xs, hxl with
  | x :: xs, hxl =>
    have hcl' : cs.length = off + (d.sz + d'.sz) := hcl
    have h1 := hx 0 f rfl
    rw [ho, h.1] at h1
    simp only [List.map_cons, DataW.weightsEach] at hl
    obtain ⟨a, hK, hW, hB⟩ := h.2 enc w base spare held fuel _ x hf h1 hl.left
    obtain ⟨b, hK', hW', hB'⟩ := h' enc w base spare held fuel cs xs hf (by omega) (by simpa using hxl) (fun i g hg => hx (i + 1) g hg) hl.right
    refine ⟨(a, b), ⟨(cs.drop off).take d.sz, cs.drop (off + d.sz), ?_, hK, hK'⟩, ⟨hW, hW'⟩, by simp only [List.map_cons, dbulkAll]; omega⟩
    rw [← List.drop_drop, List.take_append_drop]
theorem opens_struct {α β : Type} {d : Kd α} {WF : α → Prop} {bk : α → Nat} {N : Nat} {fs : Array Field} (hu : P.underlying t = some (.struct fs)) (hc : P.cellsOf t = d.sz) (h : OpensF P 0 fs.toList d WF bk N) (f : β → α) (g : α → β) (hfg : ∀ a, f (g a) = a)
    (WF' : β → Prop) (bk' : β → Nat) (hW : ∀ a, WF a → WF' (g a)) (hB : ∀ a, bk' (g a) ≤ bk a + 1) :
    Opens P t (Kd.iso d f) WF' bk' (N + 1) := by
  refine ⟨hc, fun enc w base spare held fuel cs x hf hx hl => ?_⟩
  obtain ⟨xs, n, hn, rfl, hcl, hxl, hg⟩ := DataW.trod_struct hu hx
  obtain ⟨a, hK, hWa, hBa⟩ := h enc w base spare held n cs xs (by omega) (by omega) (by simpa using hxl) (fun i f hf => hg i f (by simpa using hf)) (by
    intro m hm
    refine hl m ?_
    simp only [DataW.weights, hu]
    exact hm)
  refine ⟨g a, ?_, hW a hWa, ?_⟩
  · show d.K w (f (g a)) cs
    rw [hfg]
    exact hK
  · have := hB a
    simp only [dbulk]
    omega
theorem Opens.reads {α : Type} {d : Kd α} {WF : α → Prop} {bk : α → Nat} (h : ∀ N, Opens P t d WF bk N) {H : Type} {enc : TypeId × Value → H} {w : World} {base : Nat} {spare : Nat → Bool} {held : Bool} {v : Value} {x : DataW H} {ps : List MemPlace}
    (hx : DataW.Trod enc P w base spare held t v x ps) (hl : Light (x.weights P t)) : ∃ a, d.K w a v.cells.toList ∧ WF a ∧ bk a ≤ dbulk x := by
  obtain ⟨fuel, hf⟩ := hx
  exact (h fuel).2 enc w base spare held fuel _ (x, ps) (Nat.le_refl _) hf hl
theorem Opens.mono {α : Type} {d : Kd α} {WF : α → Prop} {bk : α → Nat} {N M : Nat} (h : Opens P t d WF bk N) (hM : M ≤ N) : Opens P t d WF bk M := ⟨h.1, fun enc w base spare held fuel cs x hf => h.2 enc w base spare held fuel cs x (by omega)⟩
theorem light_each {H : Type} {ts : List TypeId} {ds : List (DataW H)} {j : Nat} {x : DataW H} (h : (DataW.weightsEach P ts ds).all (· ≤ reachBytes) = true) (ht : ts[j]? = some t) (hd : ds[j]? = some x) : Light (x.weights P t) := by
  intro n hn
  have := DataW.weights_mem_each ht hd n hn
  simpa using List.all_eq_true.1 h n this
end
end Go.Proofs.YtkfbkjcdngipcaaMine
end
section
namespace Go.Proofs.Ytkfbkjcdngipcaa.PTreeEquals
set_option linter.unusedVariables false
open Go.RowKit Go.Proofs.YtkfbkjcdngipcaaW.PrintWords Go.Proofs.YtkfbkjcdngipcaaMine
theorem Opens.bk0 {P : Program} {t : TypeId} {α : Type} {d : Kd α} {WF : α → Prop} {bk : α → Nat} {N : Nat} (h : Opens P t d WF bk N) : Opens P t d WF (fun _ => 0) N :=
  ⟨h.1, fun enc w base spare held fuel cs x hf hx hl => by obtain ⟨a, h1, h2, _⟩ := h.2 enc w base spare held fuel cs x hf hx hl; exact ⟨a, h1, h2, Nat.zero_le _⟩⟩
theorem Opens.imp {P : Program} {t : TypeId} {α : Type} {d d' : Kd α} {WF : α → Prop} {bk : α → Nat} {N : Nat} (h : Opens P t d WF bk N) (hs : d.sz = d'.sz) (hd : ∀ w x cs, d.K w x cs → d'.K w x cs) : Opens P t d' WF bk N :=
  ⟨by rw [← hs]; exact h.1, fun enc w base spare held fuel cs x hf hx hl => by obtain ⟨a, h1, h2, h3⟩ := h.2 enc w base spare held fuel cs x hf hx hl; exact ⟨a, hd _ _ _ h1, h2, h3⟩⟩
theorem cells_23 : Try.prog.cellsOf 23 = 3 := by kernel_rfl
theorem cells_3 : Try.prog.cellsOf 3 = 1 := by kernel_rfl
theorem opens23 (N : Nat) : Opens Try.prog 23 k23 (fun _ => True) (fun _ => 0) N := by
  refine Opens.mono (N := N + 1) ?_ (by omega)
  have hF : OpensF Try.prog 0 _ (Kd.pair (Kd.int .i64) (Kd.pair (Kd.int .i64) (Kd.int .i64))) _ _ N := (opensF_cons (f := { name := "Y", type := 3, offset := 0, embedded := false, tag := "", pkgPath := "", byteOffset := 0 }) rfl (opens_int Try.underlying3 cells_3 N) (opensF_cons (f := { name := "M", type := 3, offset := 1, embedded := false, tag := "", pkgPath := "", byteOffset := 8 }) rfl (opens_int Try.underlying3 cells_3 N) (opensF_last (f := { name := "D", type := 3, offset := 2, embedded := false, tag := "", pkgPath := "", byteOffset := 16 }) rfl (opens_int Try.underlying3 cells_3 N))))
  exact opens_struct Try.underlying23 cells_23 hF (fun x : S23 => (x.f0, x.f1, x.f2)) (fun p => ⟨p.1, p.2.1, p.2.2⟩) (fun _ => rfl) (fun _ => True) (fun _ => 0) (fun p h => trivial) (fun a => Nat.zero_le _)
theorem cells_28 : Try.prog.cellsOf 28 = 2 := by kernel_rfl
theorem opens28 (N : Nat) : Opens Try.prog 28 k28 (fun _ => True) (fun _ => 0) N := by
  refine Opens.mono (N := N + 1) ?_ (by omega)
  have hF : OpensF Try.prog 0 _ (Kd.pair (Kd.int .i64) (Kd.int .i64)) _ _ N := (opensF_cons (f := { name := "N", type := 3, offset := 0, embedded := false, tag := "", pkgPath := "", byteOffset := 0 }) rfl (opens_int Try.underlying3 cells_3 N) (opensF_last (f := { name := "Unit", type := 3, offset := 1, embedded := false, tag := "", pkgPath := "", byteOffset := 8 }) rfl (opens_int Try.underlying3 cells_3 N)))
  exact opens_struct Try.underlying28 cells_28 hF (fun x : S28 => (x.f0, x.f1)) (fun p => ⟨p.1, p.2⟩) (fun _ => rfl) (fun _ => True) (fun _ => 0) (fun p h => trivial) (fun a => Nat.zero_le _)
theorem cells_30 : Try.prog.cellsOf 30 = 13 := by kernel_rfl
theorem opens30 (N : Nat) : Opens Try.prog 30 k30 (fun _ => True) (fun _ => 0) N := by
  refine Opens.mono (N := N + 1) ?_ (by omega)
  have hF : OpensF Try.prog 0 _ (Kd.pair (Kd.int .i64) (Kd.pair (Kd.int .i64) (Kd.pair (Kd.int .i64) (Kd.pair (Kd.int .i64) (Kd.pair k23 (Kd.pair k23 (Kd.pair k28 (Kd.int .i64)))))))) _ _ N := (opensF_cons (f := { name := "Kind", type := 3, offset := 0, embedded := false, tag := "", pkgPath := "", byteOffset := 0 }) rfl (opens_int Try.underlying3 cells_3 N) (opensF_cons (f := { name := "Lo", type := 3, offset := 1, embedded := false, tag := "", pkgPath := "", byteOffset := 8 }) rfl (opens_int Try.underlying3 cells_3 N) (opensF_cons (f := { name := "Hi", type := 3, offset := 2, embedded := false, tag := "", pkgPath := "", byteOffset := 16 }) rfl (opens_int Try.underlying3 cells_3 N) (opensF_cons (f := { name := "By", type := 3, offset := 3, embedded := false, tag := "", pkgPath := "", byteOffset := 24 }) rfl (opens_int Try.underlying3 cells_3 N) (opensF_cons (f := { name := "From", type := 23, offset := 4, embedded := false, tag := "", pkgPath := "", byteOffset := 32 }) rfl (opens23 N) (opensF_cons (f := { name := "To", type := 23, offset := 7, embedded := false, tag := "", pkgPath := "", byteOffset := 56 }) rfl (opens23 N) (opensF_cons (f := { name := "Ten", type := 28, offset := 10, embedded := false, tag := "", pkgPath := "", byteOffset := 80 }) rfl (opens28 N) (opensF_last (f := { name := "Conv", type := 3, offset := 12, embedded := false, tag := "", pkgPath := "", byteOffset := 96 }) rfl (opens_int Try.underlying3 cells_3 N)))))))))
  exact opens_struct Try.underlying30 cells_30 hF (fun x : S30 => (x.f0, x.f1, x.f2, x.f3, x.f4, x.f5, x.f6, x.f7)) (fun p => ⟨p.1, p.2.1, p.2.2.1, p.2.2.2.1, p.2.2.2.2.1, p.2.2.2.2.2.1, p.2.2.2.2.2.2.1, p.2.2.2.2.2.2.2⟩) (fun _ => rfl) (fun _ => True) (fun _ => 0) (fun p h => trivial) (fun a => Nat.zero_le _)
theorem cells_9 : Try.prog.cellsOf 9 = 1 := by kernel_rfl
theorem cells_24 : Try.prog.cellsOf 24 = 1 := by kernel_rfl
theorem bytes_23 : Try.prog.bytesOf 23 = 24 := by kernel_rfl
theorem opens24 (N : Nat) : Opens Try.prog 24 (Kd.slice 23 k23) (fun l => l.length * 24 ≤ reachBytes ∧ ∀ a ∈ l, True) (fun _ => 0) N := by
  have h := Opens.mono (N := N + 1) (opens_slice Try.underlying24 cells_24 (opens23 N)) (show N ≤ N + 1 by omega)
  rw [bytes_23] at h
  exact Opens.bk0 h
theorem cells_25 : Try.prog.cellsOf 25 = 1 := by kernel_rfl
theorem bytes_9 : Try.prog.bytesOf 9 = 16 := by kernel_rfl
theorem opens25 (N : Nat) : Opens Try.prog 25 (Kd.slice 9 Kd.string) (fun l => l.length * 16 ≤ reachBytes ∧ ∀ a ∈ l, a.size ≤ reachBytes) (fun _ => 0) N := by
  have h := Opens.mono (N := N + 1) (opens_slice Try.underlying25 cells_25 (opens_string Try.underlying9 cells_9 N)) (show N ≤ N + 1 by omega)
  rw [bytes_9] at h
  exact Opens.bk0 h
theorem cells_54 : Try.prog.cellsOf 54 = 5 := by kernel_rfl
theorem cells_31 : Try.prog.cellsOf 31 = 1 := by kernel_rfl
theorem bytes_54 : Try.prog.bytesOf 54 = 80 := by kernel_rfl
theorem k54_fold {w : World} {x : S54} {cs : List Value} (h : (F54 k54).K w x cs) : k54.K w x cs := by
  obtain ⟨_, _, rfl, rfl, ⟨_, _, rfl, rfl, ⟨_, _, rfl, rfl, ⟨_, _, rfl, ⟨A3, c3, rfl, l3, g3⟩, ⟨A4, c4, rfl, l4, g4⟩⟩⟩⟩⟩ := h
  exact k54_mk w x l3 g3 l4 g4
theorem opens54 : ∀ N : Nat, Opens Try.prog 54 k54 (S54.wf) (fun _ => 0) N
  | 0 => ⟨cells_54, fun enc w base spare held fuel cs x hf hx hl => by
      obtain ⟨xs, n, hn, _⟩ := DataW.trod_struct Try.underlying54 hx
      omega⟩
  | N + 1 => by
    have hk : Opens Try.prog 31 (Kd.slice 54 k54) (fun l => l.length * 80 ≤ reachBytes ∧ ∀ a ∈ l, (S54.wf) a) (fun _ => 0) N := by
      have h := Opens.mono (N := N + 1) (opens_slice Try.underlying31 cells_31 (opens54 N)) (show N ≤ N + 1 by omega)
      rw [bytes_54] at h
      exact Opens.bk0 h
    have hF : OpensF Try.prog 0 _ (Kd.pair (Kd.int .i64) (Kd.pair (Kd.int .i64) (Kd.pair Kd.string (Kd.pair (Kd.slice 23 k23) (Kd.slice 54 k54))))) _ _ N := (opensF_cons (f := { name := "Op", type := 3, offset := 0, embedded := false, tag := "", pkgPath := "", byteOffset := 0 }) rfl (opens_int Try.underlying3 cells_3 N) (opensF_cons (f := { name := "Num", type := 3, offset := 1, embedded := false, tag := "", pkgPath := "", byteOffset := 8 }) rfl (opens_int Try.underlying3 cells_3 N) (opensF_cons (f := { name := "Name", type := 9, offset := 2, embedded := false, tag := "", pkgPath := "", byteOffset := 16 }) rfl (opens_string Try.underlying9 cells_9 N) (opensF_cons (f := { name := "Dates", type := 24, offset := 3, embedded := false, tag := "", pkgPath := "", byteOffset := 32 }) rfl (opens24 N) (opensF_last (f := { name := "Kids", type := 31, offset := 4, embedded := false, tag := "", pkgPath := "", byteOffset := 56 }) rfl hk)))))
    have h := opens_struct Try.underlying54 cells_54 hF (fun x : S54 => (x.f0, x.f1, x.f2, x.f3, x.f4)) (fun p => ⟨p.1, p.2.1, p.2.2.1, p.2.2.2.1, p.2.2.2.2⟩) (fun _ => rfl) (S54.wf) (fun _ => 0) (fun p h => (S54.wf_eq _).2 ⟨h.2.2.2.1.1, h.2.2.2.2.1, (S54.wfs_iff _).2 h.2.2.2.2.2⟩) (fun a => Nat.zero_le _)
    exact Opens.imp (d' := k54) h rfl (fun w x cs hK => k54_fold hK)
theorem opens31 (N : Nat) : Opens Try.prog 31 (Kd.slice 54 k54) (fun l => l.length * 80 ≤ reachBytes ∧ ∀ a ∈ l, (S54.wf) a) (fun _ => 0) N := by
  have h := Opens.mono (N := N + 1) (opens_slice Try.underlying31 cells_31 (opens54 N)) (show N ≤ N + 1 by omega)
  rw [bytes_54] at h
  exact Opens.bk0 h
theorem cells_34 : Try.prog.cellsOf 34 = 23 := by kernel_rfl
theorem cells_32 : Try.prog.cellsOf 32 = 1 := by kernel_rfl
theorem bytes_34 : Try.prog.bytesOf 34 = 240 := by kernel_rfl
theorem k34_fold {w : World} {x : S34} {cs : List Value} (h : (F34 k34).K w x cs) : k34.K w x cs := by
  obtain ⟨_, _, rfl, rfl, ⟨_, _, rfl, rfl, ⟨_, _, rfl, rfl, ⟨_, _, rfl, rfl, ⟨_, _, rfl, rfl, ⟨_, _, rfl, s5, ⟨_, _, rfl, s8, ⟨_, _, rfl, ⟨A21, c21, rfl, l21, g21⟩, ⟨A22, c22, rfl, l22, g22⟩⟩⟩⟩⟩⟩⟩⟩⟩ := h
  obtain rfl := k23_open s5
  obtain rfl := k30_open s8
  exact k34_mk w x l21 g21 l22 g22
theorem opens34 : ∀ N : Nat, Opens Try.prog 34 k34 (S34.wf) (fun _ => 0) N
  | 0 => ⟨cells_34, fun enc w base spare held fuel cs x hf hx hl => by
      obtain ⟨xs, n, hn, _⟩ := DataW.trod_struct Try.underlying34 hx
      omega⟩
  | N + 1 => by
    have hk : Opens Try.prog 32 (Kd.slice 34 k34) (fun l => l.length * 240 ≤ reachBytes ∧ ∀ a ∈ l, (S34.wf) a) (fun _ => 0) N := by
      have h := Opens.mono (N := N + 1) (opens_slice Try.underlying32 cells_32 (opens34 N)) (show N ≤ N + 1 by omega)
      rw [bytes_34] at h
      exact Opens.bk0 h
    have hF : OpensF Try.prog 0 _ (Kd.pair (Kd.int .i64) (Kd.pair Kd.string (Kd.pair Kd.string (Kd.pair Kd.string (Kd.pair (Kd.int .i64) (Kd.pair k23 (Kd.pair k30 (Kd.pair (Kd.slice 54 k54) (Kd.slice 34 k34))))))))) _ _ N := (opensF_cons (f := { name := "Kind", type := 3, offset := 0, embedded := false, tag := "", pkgPath := "", byteOffset := 0 }) rfl (opens_int Try.underlying3 cells_3 N) (opensF_cons (f := { name := "Name", type := 9, offset := 1, embedded := false, tag := "", pkgPath := "", byteOffset := 8 }) rfl (opens_string Try.underlying9 cells_9 N) (opensF_cons (f := { name := "Loop", type := 9, offset := 2, embedded := false, tag := "", pkgPath := "", byteOffset := 24 }) rfl (opens_string Try.underlying9 cells_9 N) (opensF_cons (f := { name := "Cur", type := 9, offset := 3, embedded := false, tag := "", pkgPath := "", byteOffset := 40 }) rfl (opens_string Try.underlying9 cells_9 N) (opensF_cons (f := { name := "Num", type := 3, offset := 4, embedded := false, tag := "", pkgPath := "", byteOffset := 56 }) rfl (opens_int Try.underlying3 cells_3 N) (opensF_cons (f := { name := "Date", type := 23, offset := 5, embedded := false, tag := "", pkgPath := "", byteOffset := 64 }) rfl (opens23 N) (opensF_cons (f := { name := "Range", type := 30, offset := 8, embedded := false, tag := "", pkgPath := "", byteOffset := 88 }) rfl (opens30 N) (opensF_cons (f := { name := "Exprs", type := 31, offset := 21, embedded := false, tag := "", pkgPath := "", byteOffset := 192 }) rfl (opens31 N) (opensF_last (f := { name := "Kids", type := 32, offset := 22, embedded := false, tag := "", pkgPath := "", byteOffset := 216 }) rfl hk)))))))))
    have h := opens_struct Try.underlying34 cells_34 hF (fun x : S34 => (x.f0, x.f1, x.f2, x.f3, x.f4, x.f5, x.f6, x.f7, x.f8)) (fun p => ⟨p.1, p.2.1, p.2.2.1, p.2.2.2.1, p.2.2.2.2.1, p.2.2.2.2.2.1, p.2.2.2.2.2.2.1, p.2.2.2.2.2.2.2.1, p.2.2.2.2.2.2.2.2⟩) (fun _ => rfl) (S34.wf) (fun _ => 0) (fun p h => (S34.wf_eq _).2 ⟨h.2.2.2.2.2.2.2.1.1, (S54.wfs_iff _).2 h.2.2.2.2.2.2.2.1.2, h.2.2.2.2.2.2.2.2.1, (S34.wfs_iff _).2 h.2.2.2.2.2.2.2.2.2⟩) (fun a => Nat.zero_le _)
    exact Opens.imp (d' := k34) h rfl (fun w x cs hK => k34_fold hK)
theorem cells_56 : Try.prog.cellsOf 56 = 7 := by kernel_rfl
theorem opens56 (N : Nat) : Opens Try.prog 56 k56 (S56.wf) (fun _ => 0) N := by
  refine Opens.mono (N := N + 1) ?_ (by omega)
  have hF : OpensF Try.prog 0 _ (Kd.pair Kd.string (Kd.pair (Kd.slice 9 Kd.string) k54)) _ _ N := (opensF_cons (f := { name := "Name", type := 9, offset := 0, embedded := false, tag := "", pkgPath := "", byteOffset := 0 }) rfl (opens_string Try.underlying9 cells_9 N) (opensF_cons (f := { name := "Params", type := 25, offset := 1, embedded := false, tag := "", pkgPath := "", byteOffset := 16 }) rfl (opens25 N) (opensF_last (f := { name := "Body", type := 54, offset := 2, embedded := false, tag := "", pkgPath := "", byteOffset := 40 }) rfl (opens54 N))))
  exact opens_struct Try.underlying56 cells_56 hF (fun x : S56 => (x.f0, x.f1, x.f2)) (fun p => ⟨p.1, p.2.1, p.2.2⟩) (fun _ => rfl) (S56.wf) (fun _ => 0) (fun p h => ⟨h.2.1.1, h.2.2⟩) (fun a => Nat.zero_le _)
theorem cells_26 : Try.prog.cellsOf 26 = 1 := by kernel_rfl
theorem bytes_56 : Try.prog.bytesOf 56 = 120 := by kernel_rfl
theorem opens26 (N : Nat) : Opens Try.prog 26 (Kd.slice 56 k56) (fun l => l.length * 120 ≤ reachBytes ∧ ∀ a ∈ l, S56.wf a) (fun _ => 0) N := by
  have h := Opens.mono (N := N + 1) (opens_slice Try.underlying26 cells_26 (opens56 N)) (show N ≤ N + 1 by omega)
  rw [bytes_56] at h
  exact Opens.bk0 h
theorem cells_36 : Try.prog.cellsOf 36 = 30 := by kernel_rfl
theorem opens36 (N : Nat) : Opens Try.prog 36 k36 (S36.wf) (fun _ => 0) N := by
  refine Opens.mono (N := N + 1) ?_ (by omega)
  have hF : OpensF Try.prog 0 _ (Kd.pair Kd.string (Kd.pair k23 (Kd.pair (Kd.slice 23 k23) (Kd.pair (Kd.slice 9 Kd.string) (Kd.pair (Kd.slice 56 k56) k34))))) _ _ N := (opensF_cons (f := { name := "Name", type := 9, offset := 0, embedded := false, tag := "", pkgPath := "", byteOffset := 0 }) rfl (opens_string Try.underlying9 cells_9 N) (opensF_cons (f := { name := "Start", type := 23, offset := 1, embedded := false, tag := "", pkgPath := "", byteOffset := 16 }) rfl (opens23 N) (opensF_cons (f := { name := "Holidays", type := 24, offset := 4, embedded := false, tag := "", pkgPath := "", byteOffset := 40 }) rfl (opens24 N) (opensF_cons (f := { name := "Names", type := 25, offset := 5, embedded := false, tag := "", pkgPath := "", byteOffset := 64 }) rfl (opens25 N) (opensF_cons (f := { name := "Defs", type := 26, offset := 6, embedded := false, tag := "", pkgPath := "", byteOffset := 88 }) rfl (opens26 N) (opensF_last (f := { name := "Body", type := 34, offset := 7, embedded := false, tag := "", pkgPath := "", byteOffset := 112 }) rfl (opens34 N)))))))
  exact opens_struct Try.underlying36 cells_36 hF (fun x : S36 => (x.f0, x.f1, x.f2, x.f3, x.f4, x.f5)) (fun p => ⟨p.1, p.2.1, p.2.2.1, p.2.2.2.1, p.2.2.2.2.1, p.2.2.2.2.2⟩) (fun _ => rfl) (S36.wf) (fun _ => 0) (fun p h => ⟨h.2.2.1.1, h.2.2.2.1.1, h.2.2.2.2.1.1, h.2.2.2.2.1.2, h.2.2.2.2.2⟩) (fun a => Nat.zero_le _)
end Go.Proofs.Ytkfbkjcdngipcaa.PTreeEquals
end
section
namespace Go.Proofs.Ytkfbkjcdngipcaa.PTreeEquals
set_option linter.unusedVariables false
open Go.RowKit Go.Proofs.YtkfbkjcdngipcaaW.PrintWords Go.Proofs.YtkfbkjcdngipcaaMine
theorem cells_40 : Try.prog.cellsOf 40 = 1 := by kernel_rfl
theorem bytes_3 : Try.prog.bytesOf 3 = 8 := by kernel_rfl
theorem opens40 (N : Nat) : Opens Try.prog 40 (Kd.slice 3 (Kd.int .i64)) (fun l => l.length * 8 ≤ reachBytes ∧ ∀ a ∈ l, (Lit.int .i64 a).wf = true) (fun _ => 0) N := by
  have h := Opens.mono (N := N + 1) (opens_slice Try.underlying40 cells_40 (opens_int Try.underlying3 cells_3 N)) (show N ≤ N + 1 by omega)
  rw [bytes_3] at h
  exact Opens.bk0 h
end Go.Proofs.Ytkfbkjcdngipcaa.PTreeEquals
end
