/- A datum that is read, opened as a kind: whole numbers, bools, strings, slices, structs. -/
import Derived.Test.YtjnpfkjplpkfjaaDoorWWords
import Derived.SizedLaws
import Derived.ChangeArms
import Derived.ChangeSlices
import Derived.Deep.Slices
namespace Go.Proofs.YtjnpfkjplpkfjaaDoor.Opn
open Go.RowKit Go.Proofs.YtjnpfkjplpkfjaaDoorW.PrintWords

/-- Whatever reads as a datum of type t, within the reach, holds a value of the kind d, of which G is true. -/
structure Opn (P : Program) (t : TypeId) {α : Type} (d : Kd α) (G : α → Prop) : Prop where
  sz : P.cellsOf t = d.sz
  opn : ∀ {H : Type} {enc : TypeId × Value → H} {w : World} {base : Nat} {spare : Nat → Bool} {held : Bool} {fuel : Nat} {cs : List Value} {x : DataW H × List MemPlace},
    DataW.trod enc P w base spare held fuel t cs = some x → (∀ n ∈ x.1.weights P t, n ≤ reachBytes) → ∃ a, d.K w a cs ∧ G a
/-- The fields of a struct, from the cell 'off' on. -/
structure OpnF (P : Program) (fs : List Field) (off : Nat) {α : Type} (d : Kd α) (G : α → Prop) : Prop where
  opn : ∀ {H : Type} {enc : TypeId × Value → H} {w : World} {base : Nat} {spare : Nat → Bool} {held : Bool} {fuel : Nat} {cs : List Value} {xs : List (DataW H × List MemPlace)},
    cs.length = off + d.sz → xs.length = fs.length → (∀ (i : Nat) (f : Field), fs[i]? = some f → DataW.trod enc P w base spare held fuel f.type ((cs.drop f.offset).take (P.cellsOf f.type)) = xs[i]?) →
    (∀ n ∈ DataW.weightsEach P (fs.map (·.type)) (xs.map (·.1)), n ≤ reachBytes) → ∃ a, d.K w a (cs.drop off) ∧ G a

section
variable {P : Program} {t e : TypeId} {α β : Type} {d : Kd α} {G : α → Prop}
theorem Opn.mono {G' : α → Prop} (h : Opn P t d G) (hG : ∀ a, G a → G' a) : Opn P t d G' :=
  ⟨h.sz, fun hx hw => let ⟨a, h1, h2⟩ := h.opn hx hw; ⟨a, h1, hG a h2⟩⟩
theorem Opn.int {k : IntKind} (ht : P.underlying t = some (.int k)) (hs : P.cellsOf t = 1) : Opn P t (Kd.int k) (fun n => (Lit.int k n).wf = true) :=
  ⟨hs, fun h _ => by
    obtain ⟨n, rfl, _, hw⟩ := DataW.trod_int ht h
    exact ⟨n, rfl, hw⟩⟩
theorem Opn.bool (ht : P.underlying t = some .bool) (hs : P.cellsOf t = 1) : Opn P t Kd.bool (fun _ => True) :=
  ⟨hs, fun h _ => by
    obtain ⟨b, rfl, _⟩ := DataW.trod_bool ht h
    exact ⟨b, rfl, trivial⟩⟩
theorem Opn.string (ht : P.underlying t = some .string) (hs : P.cellsOf t = 1) : Opn P t Kd.string (fun s => s.size ≤ 140737488351232) :=
  ⟨hs, fun h hw => by
    obtain ⟨s, rfl, rfl, _⟩ := DataW.trod_string ht h
    refine ⟨s, rfl, ?_⟩
    have := hw s.data.toList.length (by simp [DataW.weights])
    simpa [reachBytes] using this⟩
theorem Opn.iso (h : Opn P t d G) (f : β → α) (g : α → β) (hfg : ∀ a, f (g a) = a) : Opn P t (Kd.iso d f) (fun b => G (f b)) :=
  ⟨h.sz, fun hx hw => by
    obtain ⟨a, h1, h2⟩ := h.opn hx hw
    exact ⟨g a, show d.K _ (f (g a)) _ by rw [hfg]; exact h1, by rw [hfg]; exact h2⟩⟩
theorem OpnF.last {f : Field} {off : Nat} (h : Opn P f.type d G) (ho : f.offset = off) : OpnF P [f] off d G :=
  ⟨fun {_ _ _ _ _ _ _ cs xs} hl hn hx hw => by
    have h1 := hx 0 f rfl
    obtain ⟨y, rfl⟩ : ∃ y, xs = [y] := by
      match xs, hn with
      | [y], _ => exact ⟨y, rfl⟩
    rw [ho, h.sz, List.take_of_length_le (by rw [List.length_drop]; omega)] at h1
    exact h.opn h1 (fun n hn => hw n (by simp [DataW.weightsEach, hn]))⟩
theorem OpnF.cons {f : Field} {fs : List Field} {off off2 : Nat} {d2 : Kd β} {G2 : β → Prop} (h : Opn P f.type d G) (ho : f.offset = off) (h2 : off2 = off + d.sz) (hf : OpnF P fs off2 d2 G2) :
    OpnF P (f :: fs) off (Kd.pair d d2) (fun p => G p.1 ∧ G2 p.2) :=
  ⟨fun {_ _ _ _ _ _ _ cs xs} hl hn hx hw => by
    have hl' : cs.length = off + (d.sz + d2.sz) := hl
    subst h2
    have h1 := hx 0 f rfl
    obtain ⟨y, ys, rfl⟩ : ∃ y ys, xs = y :: ys := by
      match xs, hn with
      | y :: ys, _ => exact ⟨y, ys, rfl⟩
    rw [ho, h.sz] at h1
    obtain ⟨a, ha, ga⟩ := h.opn h1 (fun n hn => hw n (by simp [DataW.weightsEach, hn]))
    obtain ⟨b, hb, gb⟩ := hf.opn (cs := cs) (xs := ys) (by omega) (by simpa using hn) (fun i f' hf' => by simpa using hx (i + 1) f' (by simpa using hf')) (fun n hn => hw n (by simp [DataW.weightsEach, hn]))
    refine ⟨(a, b), ⟨_, _, ?_, ha, hb⟩, ga, gb⟩
    rw [← List.drop_drop, List.take_append_drop]⟩
theorem Opn.struct {fs : Array Field} (ht : P.underlying t = some (.struct fs)) (hs : P.cellsOf t = d.sz) (h : OpnF P fs.toList 0 d G) : Opn P t d G :=
  ⟨hs, fun hx hw => by
    obtain ⟨xs, n, _, rfl, hl, hn, hf⟩ := DataW.trod_struct ht hx
    refine h.opn (by rw [hl, hs]; omega) (by simpa using hn) (fun i f hif => hf i f (by simpa using hif)) (fun m hm => hw m ?_)
    simp only [DataW.weights, ht]
    exact hm⟩
theorem weightsAll_mem {H : Type} : ∀ {l : List (DataW H)} {y : DataW H} {n : Nat}, y ∈ l → n ∈ y.weights P e → n ∈ DataW.weightsAll P e l
  | [], _, _, h, _ => by cases h
  | z :: l, y, n, h, hn => by
    simp only [DataW.weightsAll, List.mem_append]
    rcases List.mem_cons.1 h with rfl | h
    · exact .inl hn
    · exact .inr (weightsAll_mem h hn)
theorem Opn.slice {by_ : Nat} (ht : P.underlying t = some (.slice e)) (hs : P.cellsOf t = 1) (hb : P.bytesOf e = by_) (h : Opn P e d G) :
    Opn P t (Kd.slice e d) (fun l => l.length * by_ ≤ 140737488351232 ∧ ∀ a ∈ l, G a) :=
  ⟨hs, fun {H enc w base spare held fuel cs x} hx hw => by
    rcases Go.Deep.open_slice ht hx with ⟨rfl, rfl⟩ | ⟨a, len, cap, m, n, D, Pl, rfl, hb0, hl, hm, hmm, rfl, hel⟩
    · exact ⟨[], ⟨none, 0, rfl, Nat.le_refl _, rfl, by simp, fun hp => absurd hp (by simp)⟩, by simp, fun a ha => by cases ha⟩
    · have hle : len ≤ m := by rw [hmm]; split <;> omega
      simp only [DataW.weights, ht] at hw
      have hlen : (len + (m - len)) * P.bytesOf e ≤ reachBytes := hw _ (by simp)
      have each : ∀ i, i < len → ∃ a', (∃ c, c.length = d.sz ∧ d.K w a' c ∧ ∀ j u, c[j]? = some u → w.cell? (a.add (i * d.sz + j)) = some u) ∧ G a' := fun i hi => by
        obtain ⟨cs', h1, h2⟩ := hel i (by omega)
        obtain ⟨a', h3, h4⟩ := h.opn h2 (fun k hk => hw k (by
          simp only [List.mem_cons, List.mem_append]
          exact .inr (.inl (weightsAll_mem (y := D i) (List.mem_map.2 ⟨i, List.mem_range.2 hi, rfl⟩) hk))))
        obtain ⟨_, hcl, hcell⟩ := World.cells?_some h1
        refine ⟨a', ⟨cs', d.K_len h3, h3, fun j u hu => ?_⟩, h4⟩
        have hj : j < cs'.length := (List.getElem?_eq_some_iff.1 hu).1
        have := hcell j (by omega)
        rw [Go.Deep.add_add, h.sz] at this
        rw [this, hu]
      rcases Nat.eq_zero_or_pos len with rfl | h0
      · exact ⟨[], ⟨some a, cap, rfl, Nat.zero_le _, rfl, by simp, fun hp => absurd hp (by simp)⟩, by simp, fun a ha => by cases ha⟩
      classical
      obtain ⟨f, hf⟩ : ∃ f : Nat → α, ∀ i, i < len → ((∃ c, c.length = d.sz ∧ d.K w (f i) c ∧ ∀ j u, c[j]? = some u → w.cell? (a.add (i * d.sz + j)) = some u) ∧ G (f i)) := by
        obtain ⟨a0, _⟩ := each 0 h0
        exact ⟨fun i => if hi : i < len then Classical.choose (each i hi) else a0, fun i hi => by simp only [dif_pos hi]; exact Classical.choose_spec (each i hi)⟩
      refine ⟨(List.range len).map f, ⟨some a, cap, by simp, by simpa using hl, by simp, ?_, fun _ => ⟨a, rfl, fun j p hj => ?_⟩⟩, ?_, fun a' ha' => ?_⟩
      · simp only [maxLen] at hm
        simp
        omega
      · have hj' : j < len := by simpa using (List.getElem?_eq_some_iff.1 hj).1
        have : f j = p := by simpa [hj'] using hj
        subst this
        obtain ⟨⟨c, h1, h2, h3⟩, _⟩ := hf j hj'
        exact ⟨c, h1, h2, h3⟩
      · rw [hb] at hlen
        have h3 : len + (m - len) = m := by omega
        rw [h3] at hlen
        have h4 : len * by_ ≤ m * by_ := Nat.mul_le_mul_right _ hle
        simp only [reachBytes] at hlen
        simp
        omega
      · obtain ⟨i, hi, rfl⟩ := List.mem_map.1 ha'
        exact (hf i (List.mem_range.1 hi)).2⟩
end
end Go.Proofs.YtjnpfkjplpkfjaaDoor.Opn
