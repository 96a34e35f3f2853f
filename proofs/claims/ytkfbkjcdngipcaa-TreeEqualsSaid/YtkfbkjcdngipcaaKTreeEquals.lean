/- What the arguments of the law TreeEquals read as. -/
import Derived.Test.YtkfbkjcdngipcaaTEq
import Derived.Test.YtkfbkjcdngipcaaOpens
namespace Go.Proofs.Ytkfbkjcdngipcaa.PTreeEquals
set_option linter.unusedVariables false
open Go.RowKit Go.Proofs.YtkfbkjcdngipcaaW.PrintWords Go.Proofs.YtkfbkjcdngipcaaMine
theorem Opens.bk0 {P : Program} {t : TypeId} {α : Type} {d : Kd α} {WF : α → Prop} {bk : α → Nat} {N : Nat} (h : Opens P t d WF bk N) : Opens P t d WF (fun _ => 0) N :=
  ⟨h.1, fun enc w base spare held fuel cs x hf hx hl => by obtain ⟨a, h1, h2, _⟩ := h.2 enc w base spare held fuel cs x hf hx hl; exact ⟨a, h1, h2, Nat.zero_le _⟩⟩
theorem Opens.imp {P : Program} {t : TypeId} {α : Type} {d d' : Kd α} {WF : α → Prop} {bk : α → Nat} {N : Nat} (h : Opens P t d WF bk N) (hs : d.sz = d'.sz) (hd : ∀ w x cs, d.K w x cs → d'.K w x cs) : Opens P t d' WF bk N :=
  ⟨by rw [← hs]; exact h.1, fun enc w base spare held fuel cs x hf hx hl => by obtain ⟨a, h1, h2, h3⟩ := h.2 enc w base spare held fuel cs x hf hx hl; exact ⟨a, hd _ _ _ h1, h2, h3⟩⟩
theorem cells_23 : Try.prog.cellsOf 23 = 3 := by kernel_rfl
theorem cells_3 : Try.prog.cellsOf 3 = 1 := by kernel_rfl
theorem opens23 (N : Nat) : Opens Try.prog 23 k23 (fun _ => True) (fun _ => 0) N := by
  refine Opens.mono (N := N + 1) ?_ (by omega)
  have hF : OpensF Try.prog 0 _ (Kd.pair (Kd.int .i64) (Kd.pair (Kd.int .i64) (Kd.int .i64))) _ _ N := (opensF_cons (f := { name := "Y", type := 3, offset := 0, embedded := false, tag := "", pkgPath := "", byteOffset := 0 }) rfl (opens_int Try.underlying3 cells_3 N) (opensF_cons (f := { name := "M", type := 3, offset := 1, embedded := false, tag := "", pkgPath := "", byteOffset := 8 }) rfl (opens_int Try.underlying3 cells_3 N) (opensF_last (f := { name := "D", type := 3, offset := 2, embedded := false, tag := "", pkgPath := "", byteOffset := 16 }) rfl (opens_int Try.underlying3 cells_3 N))))
  exact opens_struct Try.underlying23 cells_23 hF (fun x : S23 => (x.f0, x.f1, x.f2)) (fun p => ⟨p.1, p.2.1, p.2.2⟩) (fun _ => rfl) (fun _ => True) (fun _ => 0) (fun p h => trivial) (fun a => Nat.zero_le _)
theorem cells_28 : Try.prog.cellsOf 28 = 2 := by kernel_rfl
theorem opens28 (N : Nat) : Opens Try.prog 28 k28 (fun _ => True) (fun _ => 0) N := by
  refine Opens.mono (N := N + 1) ?_ (by omega)
  have hF : OpensF Try.prog 0 _ (Kd.pair (Kd.int .i64) (Kd.int .i64)) _ _ N := (opensF_cons (f := { name := "N", type := 3, offset := 0, embedded := false, tag := "", pkgPath := "", byteOffset := 0 }) rfl (opens_int Try.underlying3 cells_3 N) (opensF_last (f := { name := "Unit", type := 3, offset := 1, embedded := false, tag := "", pkgPath := "", byteOffset := 8 }) rfl (opens_int Try.underlying3 cells_3 N)))
  exact opens_struct Try.underlying28 cells_28 hF (fun x : S28 => (x.f0, x.f1)) (fun p => ⟨p.1, p.2⟩) (fun _ => rfl) (fun _ => True) (fun _ => 0) (fun p h => trivial) (fun a => Nat.zero_le _)
theorem cells_30 : Try.prog.cellsOf 30 = 13 := by kernel_rfl
theorem opens30 (N : Nat) : Opens Try.prog 30 k30 (fun _ => True) (fun _ => 0) N := by
  refine Opens.mono (N := N + 1) ?_ (by omega)
  have hF : OpensF Try.prog 0 _ (Kd.pair (Kd.int .i64) (Kd.pair (Kd.int .i64) (Kd.pair (Kd.int .i64) (Kd.pair (Kd.int .i64) (Kd.pair k23 (Kd.pair k23 (Kd.pair k28 (Kd.int .i64)))))))) _ _ N := (opensF_cons (f := { name := "Kind", type := 3, offset := 0, embedded := false, tag := "", pkgPath := "", byteOffset := 0 }) rfl (opens_int Try.underlying3 cells_3 N) (opensF_cons (f := { name := "Lo", type := 3, offset := 1, embedded := false, tag := "", pkgPath := "", byteOffset := 8 }) rfl (opens_int Try.underlying3 cells_3 N) (opensF_cons (f := { name := "Hi", type := 3, offset := 2, embedded := false, tag := "", pkgPath := "", byteOffset := 16 }) rfl (opens_int Try.underlying3 cells_3 N) (opensF_cons (f := { name := "By", type := 3, offset := 3, embedded := false, tag := "", pkgPath := "", byteOffset := 24 }) rfl (opens_int Try.underlying3 cells_3 N) (opensF_cons (f := { name := "From", type := 23, offset := 4, embedded := false, tag := "", pkgPath := "", byteOffset := 32 }) rfl (opens23 N) (opensF_cons (f := { name := "To", type := 23, offset := 7, embedded := false, tag := "", pkgPath := "", byteOffset := 56 }) rfl (opens23 N) (opensF_cons (f := { name := "Ten", type := 28, offset := 10, embedded := false, tag := "", pkgPath := "", byteOffset := 80 }) rfl (opens28 N) (opensF_last (f := { name := "Conv", type := 3, offset := 12, embedded := false, tag := "", pkgPath := "", byteOffset := 96 }) rfl (opens_int Try.underlying3 cells_3 N)))))))))
  exact opens_struct Try.underlying30 cells_30 hF (fun x : S30 => (x.f0, x.f1, x.f2, x.f3, x.f4, x.f5, x.f6, x.f7)) (fun p => ⟨p.1, p.2.1, p.2.2.1, p.2.2.2.1, p.2.2.2.2.1, p.2.2.2.2.2.1, p.2.2.2.2.2.2.1, p.2.2.2.2.2.2.2⟩) (fun _ => rfl) (fun _ => True) (fun _ => 0) (fun p h => trivial) (fun a => Nat.zero_le _)
theorem cells_9 : Try.prog.cellsOf 9 = 1 := by kernel_rfl
theorem cells_24 : Try.prog.cellsOf 24 = 1 := by kernel_rfl
theorem bytes_23 : Try.prog.bytesOf 23 = 24 := by kernel_rfl
theorem opens24 (N : Nat) : Opens Try.prog 24 (Kd.slice 23 k23) (fun l => l.length * 24 ≤ reachBytes ∧ ∀ a ∈ l, True) (fun _ => 0) N := by
  have h := Opens.mono (N := N + 1) (opens_slice Try.underlying24 cells_24 (opens23 N)) (show N ≤ N + 1 by omega)
  rw [bytes_23] at h
  exact Opens.bk0 h
theorem cells_25 : Try.prog.cellsOf 25 = 1 := by kernel_rfl
theorem bytes_9 : Try.prog.bytesOf 9 = 16 := by kernel_rfl
theorem opens25 (N : Nat) : Opens Try.prog 25 (Kd.slice 9 Kd.string) (fun l => l.length * 16 ≤ reachBytes ∧ ∀ a ∈ l, a.size ≤ reachBytes) (fun _ => 0) N := by
  have h := Opens.mono (N := N + 1) (opens_slice Try.underlying25 cells_25 (opens_string Try.underlying9 cells_9 N)) (show N ≤ N + 1 by omega)
  rw [bytes_9] at h
  exact Opens.bk0 h
theorem cells_54 : Try.prog.cellsOf 54 = 5 := by kernel_rfl
theorem cells_31 : Try.prog.cellsOf 31 = 1 := by kernel_rfl
theorem bytes_54 : Try.prog.bytesOf 54 = 80 := by kernel_rfl
theorem k54_fold {w : World} {x : S54} {cs : List Value} (h : (F54 k54).K w x cs) : k54.K w x cs := by
  obtain ⟨_, _, rfl, rfl, ⟨_, _, rfl, rfl, ⟨_, _, rfl, rfl, ⟨_, _, rfl, ⟨A3, c3, rfl, l3, g3⟩, ⟨A4, c4, rfl, l4, g4⟩⟩⟩⟩⟩ := h
  exact k54_mk w x l3 g3 l4 g4
theorem opens54 : ∀ N : Nat, Opens Try.prog 54 k54 (S54.wf) (fun _ => 0) N
  | 0 => ⟨cells_54, fun enc w base spare held fuel cs x hf hx hl => by
      obtain ⟨xs, n, hn, _⟩ := DataW.trod_struct Try.underlying54 hx
      omega⟩
  | N + 1 => by
    have hk : Opens Try.prog 31 (Kd.slice 54 k54) (fun l => l.length * 80 ≤ reachBytes ∧ ∀ a ∈ l, (S54.wf) a) (fun _ => 0) N := by
      have h := Opens.mono (N := N + 1) (opens_slice Try.underlying31 cells_31 (opens54 N)) (show N ≤ N + 1 by omega)
      rw [bytes_54] at h
      exact Opens.bk0 h
    have hF : OpensF Try.prog 0 _ (Kd.pair (Kd.int .i64) (Kd.pair (Kd.int .i64) (Kd.pair Kd.string (Kd.pair (Kd.slice 23 k23) (Kd.slice 54 k54))))) _ _ N := (opensF_cons (f := { name := "Op", type := 3, offset := 0, embedded := false, tag := "", pkgPath := "", byteOffset := 0 }) rfl (opens_int Try.underlying3 cells_3 N) (opensF_cons (f := { name := "Num", type := 3, offset := 1, embedded := false, tag := "", pkgPath := "", byteOffset := 8 }) rfl (opens_int Try.underlying3 cells_3 N) (opensF_cons (f := { name := "Name", type := 9, offset := 2, embedded := false, tag := "", pkgPath := "", byteOffset := 16 }) rfl (opens_string Try.underlying9 cells_9 N) (opensF_cons (f := { name := "Dates", type := 24, offset := 3, embedded := false, tag := "", pkgPath := "", byteOffset := 32 }) rfl (opens24 N) (opensF_last (f := { name := "Kids", type := 31, offset := 4, embedded := false, tag := "", pkgPath := "", byteOffset := 56 }) rfl hk)))))
    have h := opens_struct Try.underlying54 cells_54 hF (fun x : S54 => (x.f0, x.f1, x.f2, x.f3, x.f4)) (fun p => ⟨p.1, p.2.1, p.2.2.1, p.2.2.2.1, p.2.2.2.2⟩) (fun _ => rfl) (S54.wf) (fun _ => 0) (fun p h => (S54.wf_eq _).2 ⟨h.2.2.2.1.1, h.2.2.2.2.1, (S54.wfs_iff _).2 h.2.2.2.2.2⟩) (fun a => Nat.zero_le _)
    exact Opens.imp (d' := k54) h rfl (fun w x cs hK => k54_fold hK)
theorem opens31 (N : Nat) : Opens Try.prog 31 (Kd.slice 54 k54) (fun l => l.length * 80 ≤ reachBytes ∧ ∀ a ∈ l, (S54.wf) a) (fun _ => 0) N := by
  have h := Opens.mono (N := N + 1) (opens_slice Try.underlying31 cells_31 (opens54 N)) (show N ≤ N + 1 by omega)
  rw [bytes_54] at h
  exact Opens.bk0 h
theorem cells_34 : Try.prog.cellsOf 34 = 23 := by kernel_rfl
theorem cells_32 : Try.prog.cellsOf 32 = 1 := by kernel_rfl
theorem bytes_34 : Try.prog.bytesOf 34 = 240 := by kernel_rfl
theorem k34_fold {w : World} {x : S34} {cs : List Value} (h : (F34 k34).K w x cs) : k34.K w x cs := by
  obtain ⟨_, _, rfl, rfl, ⟨_, _, rfl, rfl, ⟨_, _, rfl, rfl, ⟨_, _, rfl, rfl, ⟨_, _, rfl, rfl, ⟨_, _, rfl, s5, ⟨_, _, rfl, s8, ⟨_, _, rfl, ⟨A21, c21, rfl, l21, g21⟩, ⟨A22, c22, rfl, l22, g22⟩⟩⟩⟩⟩⟩⟩⟩⟩ := h
  obtain rfl := k23_open s5
  obtain rfl := k30_open s8
  exact k34_mk w x l21 g21 l22 g22
theorem opens34 : ∀ N : Nat, Opens Try.prog 34 k34 (S34.wf) (fun _ => 0) N
  | 0 => ⟨cells_34, fun enc w base spare held fuel cs x hf hx hl => by
      obtain ⟨xs, n, hn, _⟩ := DataW.trod_struct Try.underlying34 hx
      omega⟩
  | N + 1 => by
    have hk : Opens Try.prog 32 (Kd.slice 34 k34) (fun l => l.length * 240 ≤ reachBytes ∧ ∀ a ∈ l, (S34.wf) a) (fun _ => 0) N := by
      have h := Opens.mono (N := N + 1) (opens_slice Try.underlying32 cells_32 (opens34 N)) (show N ≤ N + 1 by omega)
      rw [bytes_34] at h
      exact Opens.bk0 h
    have hF : OpensF Try.prog 0 _ (Kd.pair (Kd.int .i64) (Kd.pair Kd.string (Kd.pair Kd.string (Kd.pair Kd.string (Kd.pair (Kd.int .i64) (Kd.pair k23 (Kd.pair k30 (Kd.pair (Kd.slice 54 k54) (Kd.slice 34 k34))))))))) _ _ N := (opensF_cons (f := { name := "Kind", type := 3, offset := 0, embedded := false, tag := "", pkgPath := "", byteOffset := 0 }) rfl (opens_int Try.underlying3 cells_3 N) (opensF_cons (f := { name := "Name", type := 9, offset := 1, embedded := false, tag := "", pkgPath := "", byteOffset := 8 }) rfl (opens_string Try.underlying9 cells_9 N) (opensF_cons (f := { name := "Loop", type := 9, offset := 2, embedded := false, tag := "", pkgPath := "", byteOffset := 24 }) rfl (opens_string Try.underlying9 cells_9 N) (opensF_cons (f := { name := "Cur", type := 9, offset := 3, embedded := false, tag := "", pkgPath := "", byteOffset := 40 }) rfl (opens_string Try.underlying9 cells_9 N) (opensF_cons (f := { name := "Num", type := 3, offset := 4, embedded := false, tag := "", pkgPath := "", byteOffset := 56 }) rfl (opens_int Try.underlying3 cells_3 N) (opensF_cons (f := { name := "Date", type := 23, offset := 5, embedded := false, tag := "", pkgPath := "", byteOffset := 64 }) rfl (opens23 N) (opensF_cons (f := { name := "Range", type := 30, offset := 8, embedded := false, tag := "", pkgPath := "", byteOffset := 88 }) rfl (opens30 N) (opensF_cons (f := { name := "Exprs", type := 31, offset := 21, embedded := false, tag := "", pkgPath := "", byteOffset := 192 }) rfl (opens31 N) (opensF_last (f := { name := "Kids", type := 32, offset := 22, embedded := false, tag := "", pkgPath := "", byteOffset := 216 }) rfl hk)))))))))
    have h := opens_struct Try.underlying34 cells_34 hF (fun x : S34 => (x.f0, x.f1, x.f2, x.f3, x.f4, x.f5, x.f6, x.f7, x.f8)) (fun p => ⟨p.1, p.2.1, p.2.2.1, p.2.2.2.1, p.2.2.2.2.1, p.2.2.2.2.2.1, p.2.2.2.2.2.2.1, p.2.2.2.2.2.2.2.1, p.2.2.2.2.2.2.2.2⟩) (fun _ => rfl) (S34.wf) (fun _ => 0) (fun p h => (S34.wf_eq _).2 ⟨h.2.2.2.2.2.2.2.1.1, (S54.wfs_iff _).2 h.2.2.2.2.2.2.2.1.2, h.2.2.2.2.2.2.2.2.1, (S34.wfs_iff _).2 h.2.2.2.2.2.2.2.2.2⟩) (fun a => Nat.zero_le _)
    exact Opens.imp (d' := k34) h rfl (fun w x cs hK => k34_fold hK)
theorem opens32 (N : Nat) : Opens Try.prog 32 (Kd.slice 34 k34) (fun l => l.length * 240 ≤ reachBytes ∧ ∀ a ∈ l, (S34.wf) a) (fun _ => 0) N := by
  have h := Opens.mono (N := N + 1) (opens_slice Try.underlying32 cells_32 (opens34 N)) (show N ≤ N + 1 by omega)
  rw [bytes_34] at h
  exact Opens.bk0 h
theorem cells_56 : Try.prog.cellsOf 56 = 7 := by kernel_rfl
theorem opens56 (N : Nat) : Opens Try.prog 56 k56 (S56.wf) (fun _ => 0) N := by
  refine Opens.mono (N := N + 1) ?_ (by omega)
  have hF : OpensF Try.prog 0 _ (Kd.pair Kd.string (Kd.pair (Kd.slice 9 Kd.string) k54)) _ _ N := (opensF_cons (f := { name := "Name", type := 9, offset := 0, embedded := false, tag := "", pkgPath := "", byteOffset := 0 }) rfl (opens_string Try.underlying9 cells_9 N) (opensF_cons (f := { name := "Params", type := 25, offset := 1, embedded := false, tag := "", pkgPath := "", byteOffset := 16 }) rfl (opens25 N) (opensF_last (f := { name := "Body", type := 54, offset := 2, embedded := false, tag := "", pkgPath := "", byteOffset := 40 }) rfl (opens54 N))))
  exact opens_struct Try.underlying56 cells_56 hF (fun x : S56 => (x.f0, x.f1, x.f2)) (fun p => ⟨p.1, p.2.1, p.2.2⟩) (fun _ => rfl) (S56.wf) (fun _ => 0) (fun p h => ⟨h.2.1.1, h.2.2⟩) (fun a => Nat.zero_le _)
theorem cells_26 : Try.prog.cellsOf 26 = 1 := by kernel_rfl
theorem bytes_56 : Try.prog.bytesOf 56 = 120 := by kernel_rfl
theorem opens26 (N : Nat) : Opens Try.prog 26 (Kd.slice 56 k56) (fun l => l.length * 120 ≤ reachBytes ∧ ∀ a ∈ l, S56.wf a) (fun _ => 0) N := by
  have h := Opens.mono (N := N + 1) (opens_slice Try.underlying26 cells_26 (opens56 N)) (show N ≤ N + 1 by omega)
  rw [bytes_56] at h
  exact Opens.bk0 h
theorem cells_36 : Try.prog.cellsOf 36 = 30 := by kernel_rfl
theorem opens36 (N : Nat) : Opens Try.prog 36 k36 (S36.wf) (fun _ => 0) N := by
  refine Opens.mono (N := N + 1) ?_ (by omega)
  have hF : OpensF Try.prog 0 _ (Kd.pair Kd.string (Kd.pair k23 (Kd.pair (Kd.slice 23 k23) (Kd.pair (Kd.slice 9 Kd.string) (Kd.pair (Kd.slice 56 k56) k34))))) _ _ N := (opensF_cons (f := { name := "Name", type := 9, offset := 0, embedded := false, tag := "", pkgPath := "", byteOffset := 0 }) rfl (opens_string Try.underlying9 cells_9 N) (opensF_cons (f := { name := "Start", type := 23, offset := 1, embedded := false, tag := "", pkgPath := "", byteOffset := 16 }) rfl (opens23 N) (opensF_cons (f := { name := "Holidays", type := 24, offset := 4, embedded := false, tag := "", pkgPath := "", byteOffset := 40 }) rfl (opens24 N) (opensF_cons (f := { name := "Names", type := 25, offset := 5, embedded := false, tag := "", pkgPath := "", byteOffset := 64 }) rfl (opens25 N) (opensF_cons (f := { name := "Defs", type := 26, offset := 6, embedded := false, tag := "", pkgPath := "", byteOffset := 88 }) rfl (opens26 N) (opensF_last (f := { name := "Body", type := 34, offset := 7, embedded := false, tag := "", pkgPath := "", byteOffset := 112 }) rfl (opens34 N)))))))
  exact opens_struct Try.underlying36 cells_36 hF (fun x : S36 => (x.f0, x.f1, x.f2, x.f3, x.f4, x.f5)) (fun p => ⟨p.1, p.2.1, p.2.2.1, p.2.2.2.1, p.2.2.2.2.1, p.2.2.2.2.2⟩) (fun _ => rfl) (S36.wf) (fun _ => 0) (fun p h => ⟨h.2.2.1.1, h.2.2.2.1.1, h.2.2.2.2.1.1, h.2.2.2.2.1.2, h.2.2.2.2.2⟩) (fun a => Nat.zero_le _)
end Go.Proofs.Ytkfbkjcdngipcaa.PTreeEquals
