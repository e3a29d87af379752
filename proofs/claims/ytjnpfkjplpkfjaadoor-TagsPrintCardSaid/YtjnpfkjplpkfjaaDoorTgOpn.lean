/- The datum of items, opened: a tree. -/
import Derived.Test.YtjnpfkjplpkfjaaDoorOpn
import Derived.Test.YtjnpfkjplpkfjaaDoorTgLaw
namespace Go.Proofs.YtjnpfkjplpkfjaaDoor.Tg
open Go.RowKit Go.Proofs.YtjnpfkjplpkfjaaDoorW.PrintWords Go.Proofs.YtjnpfkjplpkfjaaDoorW.PrintLast Go.Proofs.YtjnpfkjplpkfjaaDoorW.PrintMore Go.Proofs.YtjnpfkjplpkfjaaDoor.PTagsPrint Go.Proofs.YtjnpfkjplpkfjaaDoor.Opn
set_option linter.unusedVariables false

section
variable {P : Program} {t e : TypeId} {α : Type} {d : Kd α} {G : α → Prop}
theorem slice_at {by_ : Nat} (ht : P.underlying t = some (.slice e)) (hb : P.bytesOf e = by_) (hsz : P.cellsOf e = d.sz)
    {H : Type} {enc : TypeId × Value → H} {w : World} {base : Nat} {spare : Nat → Bool} {held : Bool} {fuel : Nat} {cs : List Value} {x : DataW H × List MemPlace}
    (hx : DataW.trod enc P w base spare held fuel t cs = some x) (hw : ∀ n ∈ x.1.weights P t, n ≤ reachBytes)
    (hin : ∀ (n : Nat) (cs : List Value) (y : DataW H × List MemPlace), n < fuel → DataW.trod enc P w base spare held n e cs = some y → (∀ m ∈ y.1.weights P e, m ≤ reachBytes) → ∃ a, d.K w a cs ∧ G a) :
    ∃ l, (Kd.slice e d).K w l cs ∧ ∀ a ∈ l, G a := by
  rcases DataW.trod_slice ht hx with ⟨rfl, rfl⟩ | ⟨a, len, cap, elems, rest, n, rfl, rfl, rfl, hb0, hl, hm, hlen, hel, _, _⟩
  · exact ⟨[], ⟨none, 0, rfl, Nat.le_refl _, rfl, by simp, fun hp => absurd hp (by simp)⟩, fun a ha => by cases ha⟩
  · simp only [DataW.weights, ht] at hw
    have each : ∀ i, i < len → ∃ a', (∃ c, c.length = d.sz ∧ d.K w a' c ∧ ∀ j u, c[j]? = some u → w.cell? (a.add (i * d.sz + j)) = some u) ∧ G a' := fun i hi => by
      have h0 := hel i hi
      rw [List.getElem?_eq_getElem (by omega)] at h0
      obtain ⟨cs', h1, h2⟩ := Option.bind_eq_some_iff.1 h0
      obtain ⟨a', h3, h4⟩ := hin n cs' _ (by omega) h2 (fun k hk => hw k (by
        simp only [List.mem_cons, List.mem_append]
        exact .inr (.inl (weightsAll_mem (List.mem_map.2 ⟨_, List.getElem_mem _, rfl⟩) hk))))
      obtain ⟨_, hcl, hcell⟩ := World.cells?_some h1
      refine ⟨a', ⟨cs', d.K_len h3, h3, fun j u hu => ?_⟩, h4⟩
      have hj : j < cs'.length := (List.getElem?_eq_some_iff.1 hu).1
      have := hcell j (by omega)
      rw [Go.Deep.add_add, hsz] at this
      rw [this, hu]
    rcases Nat.eq_zero_or_pos len with h00 | h0
    · subst h00
      exact ⟨[], ⟨some a, cap, rfl, Nat.zero_le _, rfl, by simp, fun hp => absurd hp (by simp)⟩, fun a ha => by cases ha⟩
    classical
    obtain ⟨f, hf⟩ : ∃ f : Nat → α, ∀ i, i < len → ((∃ c, c.length = d.sz ∧ d.K w (f i) c ∧ ∀ j u, c[j]? = some u → w.cell? (a.add (i * d.sz + j)) = some u) ∧ G (f i)) := by
      obtain ⟨a0, _⟩ := each 0 h0
      exact ⟨fun i => if hi : i < len then Classical.choose (each i hi) else a0, fun i hi => by simp only [dif_pos hi]; exact Classical.choose_spec (each i hi)⟩
    refine ⟨(List.range len).map f, ⟨some a, cap, by simp, by simpa using hl, by simp, ?_, fun _ => ⟨a, rfl, fun j p hj => ?_⟩⟩, fun a' ha' => ?_⟩
    · simp only [maxLen] at hm
      simp
      omega
    · have hj' : j < len := by simpa using (List.getElem?_eq_some_iff.1 hj).1
      have : f j = p := by simpa [hj'] using hj
      subst this
      obtain ⟨⟨c, h1, h2, h3⟩, _⟩ := hf j hj'
      exact ⟨c, h1, h2, h3⟩
    · obtain ⟨i, hi, rfl⟩ := List.mem_map.1 ha'
      exact (hf i (List.mem_range.1 hi)).2
end
theorem okL_of : ∀ (l : List S50), (∀ a ∈ l, okI a) → okL l
  | [], _ => trivial
  | x :: l, h => ⟨h x (by simp), okL_of l (fun a ha => h a (by simp [ha]))⟩
theorem str_at {H : Type} {enc : TypeId × Value → H} {w : World} {base : Nat} {spare : Nat → Bool} {held : Bool} {fuel : Nat} {cs : List Value} {x : DataW H × List MemPlace}
    (h : DataW.trod enc Tryd.prog w base spare held fuel 9 cs = some x) (hw : ∀ n ∈ x.1.weights Tryd.prog 9, n ≤ reachBytes) : ∃ s : ByteArray, cs = [.string s] ∧ s.size ≤ 140737488351232 := by
  obtain ⟨s, rfl, rfl, _⟩ := DataW.trod_string Tryd.underlying9 h
  refine ⟨s, rfl, ?_⟩
  have := hw s.data.toList.length (by simp [DataW.weights])
  simpa [reachBytes] using this
set_option maxRecDepth 100000 in
theorem item_at {H : Type} {enc : TypeId × Value → H} {w : World} {base : Nat} {spare : Nat → Bool} {held : Bool} : ∀ (fuel : Nat) (cs : List Value) (x : DataW H × List MemPlace),
    DataW.trod enc Tryd.prog w base spare held fuel 50 cs = some x → (∀ n ∈ x.1.weights Tryd.prog 50, n ≤ reachBytes) → ∃ a, k50.K w a cs ∧ okI a := by
  intro fuel
  induction fuel using Nat.strongRecOn with
  | _ fuel ih =>
    intro cs x hx hw
    obtain ⟨xs, n, rfl, rfl, hl, hn, hf⟩ := DataW.trod_struct Tryd.underlying50 hx
    have hl5 : cs.length = 5 := by rw [hl]; kernel_rfl
    have hn5 : xs.length = 5 := hn
    match cs, hl5, xs, hn5 with
    | [c0, c1, c2, c3, c4], _, [y0, y1, y2, y3, y4], _ =>
      have q9 : Tryd.prog.cellsOf 9 = 1 := by kernel_rfl
      have q22 : Tryd.prog.cellsOf 22 = 1 := by kernel_rfl
      have f0 : DataW.trod enc Tryd.prog w base spare held n 9 (([c0, c1, c2, c3, c4].drop 0).take (Tryd.prog.cellsOf 9)) = some y0 := hf 0 _ rfl
      have f1 : DataW.trod enc Tryd.prog w base spare held n 9 (([c0, c1, c2, c3, c4].drop 1).take (Tryd.prog.cellsOf 9)) = some y1 := hf 1 _ rfl
      have f2 : DataW.trod enc Tryd.prog w base spare held n 9 (([c0, c1, c2, c3, c4].drop 2).take (Tryd.prog.cellsOf 9)) = some y2 := hf 2 _ rfl
      have f3 : DataW.trod enc Tryd.prog w base spare held n 9 (([c0, c1, c2, c3, c4].drop 3).take (Tryd.prog.cellsOf 9)) = some y3 := hf 3 _ rfl
      have f4 : DataW.trod enc Tryd.prog w base spare held n 22 (([c0, c1, c2, c3, c4].drop 4).take (Tryd.prog.cellsOf 22)) = some y4 := hf 4 _ rfl
      rw [q9] at f0 f1 f2 f3
      rw [q22] at f4
      simp at f0 f1 f2 f3 f4
      simp only [DataW.weights, Tryd.underlying50] at hw
      have hw' : ∀ m ∈ DataW.weightsEach Tryd.prog [9, 9, 9, 9, 22] [y0.1, y1.1, y2.1, y3.1, y4.1], m ≤ reachBytes := hw
      obtain ⟨s0, h0, z0⟩ := str_at f0 (fun m hm => hw' m (by simp [DataW.weightsEach, hm]))
      obtain ⟨s1, h1, z1⟩ := str_at f1 (fun m hm => hw' m (by simp [DataW.weightsEach, hm]))
      obtain ⟨s2, h2, z2⟩ := str_at f2 (fun m hm => hw' m (by simp [DataW.weightsEach, hm]))
      obtain ⟨s3, h3, z3⟩ := str_at f3 (fun m hm => hw' m (by simp [DataW.weightsEach, hm]))
      obtain ⟨l, ⟨A4, k4, h4, hc4, g4⟩, hG⟩ := slice_at (d := k50) (G := okI) (by_ := 88) Tryd.underlying22 (by kernel_rfl) (by kernel_rfl) f4 (fun m hm => hw' m (by simp [DataW.weightsEach, hm])) (fun n' cs' y hn' hy hwy => ih n' (by omega) cs' y hy hwy)
      simp at h0 h1 h2 h3 h4
      subst h0 h1 h2 h3 h4
      exact ⟨⟨s0, s1, s2, s3, l⟩, k50_mk w ⟨s0, s1, s2, s3, l⟩ hc4 g4, ⟨z0, z1, z2, z3, okL_of l hG⟩⟩
theorem items_at {H : Type} {enc : TypeId × Value → H} {w : World} {base : Nat} {spare : Nat → Bool} {held : Bool} {fuel : Nat} {cs : List Value} {x : DataW H × List MemPlace}
    (hx : DataW.trod enc Tryd.prog w base spare held fuel 22 cs = some x) (hw : ∀ n ∈ x.1.weights Tryd.prog 22, n ≤ reachBytes) : ∃ l, (Kd.slice 50 k50).K w l cs ∧ okL l := by
  obtain ⟨l, h1, h2⟩ := slice_at (d := k50) (G := okI) (by_ := 88) Tryd.underlying22 (by kernel_rfl) (by kernel_rfl) hx hw (fun n cs y _ hy hwy => item_at n cs y hy hwy)
  exact ⟨l, h1, okL_of l h2⟩
end Go.Proofs.YtjnpfkjplpkfjaaDoor.Tg
