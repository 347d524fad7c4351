/- How an argument that can be read as data (numbers, bools, strings, slices, structs, arrays, in each other) is laid open for the printed contracts: its pure value, and what its cells say. Over any program. -/
import Derived.Test.YtachglfhgcdobaaWWords
import Derived.SizedLaws
import Derived.DataElems
import Derived.Deep.Slices
import Derived.OpenShut
namespace Go.Proofs.YtachglfhgcdobaaOpen
open Go.RowKit Go.Proofs.YtachglfhgcdobaaW.PrintWords
set_option linter.unusedVariables false

theorem choose_list {α : Type} {Q : Nat → α → Prop} : ∀ n, (∀ i, i < n → ∃ x, Q i x) → ∃ xs : List α, xs.length = n ∧ ∀ (i : Nat) (x : α), xs[i]? = some x → Q i x
  | 0, _ => ⟨[], rfl, fun i x h => by simp at h⟩
  | n + 1, h => by
    obtain ⟨xs, hl, hq⟩ := choose_list n (fun i hi => h i (by omega))
    obtain ⟨x, hx⟩ := h n (by omega)
    refine ⟨xs ++ [x], by simp [hl], fun i y hy => ?_⟩
    rcases Nat.lt_or_ge i xs.length with hlt | hge
    · rw [List.getElem?_append_left hlt] at hy; exact hq i y hy
    · rw [List.getElem?_append_right hge] at hy
      have : i - xs.length = 0 := by
        rcases Nat.eq_zero_or_pos (i - xs.length) with h0 | h0
        · exact h0
        · rw [List.getElem?_eq_none (by simp; omega)] at hy; cases hy
      rw [this] at hy
      simp at hy
      subst hy
      have : i = n := by omega
      subst this
      exact hx

/-- Whatever can be read at this type is a value of this kind, and well formed. -/
def Opens {α : Type} (P : Program) (t : TypeId) (d : Kd α) (wf : α → Prop) : Prop :=
  ∀ (H : Type) (enc : TypeId × Value → H) (W : World) (fuel : Nat) (cs : List Value) (dd : DataW H) (ps : List MemPlace),
    DataW.trod enc P W 0 (fun _ => true) true fuel t cs = some (dd, ps) → (∀ n ∈ dd.weights P t, n ≤ reachBytes) → ∃ x, d.K W x cs ∧ wf x

section
variable {P : Program} {t : TypeId}
theorem Opens.int {k : IntKind} (hu : P.underlying t = some (.int k)) : Opens P t (Kd.int k) (fun x => (Lit.int k x).wf = true) := by
  intro H enc W fuel cs dd ps h hz
  obtain ⟨n, rfl, _, hw⟩ := DataW.trod_int hu h
  exact ⟨n, rfl, hw⟩
theorem Opens.bool (hu : P.underlying t = some .bool) : Opens P t Kd.bool (fun _ => True) := by
  intro H enc W fuel cs dd ps h hz
  obtain ⟨n, rfl, _⟩ := DataW.trod_bool hu h
  exact ⟨n, rfl, trivial⟩
theorem Opens.string (hu : P.underlying t = some .string) : Opens P t Kd.string (fun x => x.size ≤ 140737488351232) := by
  intro H enc W fuel cs dd ps h hz
  obtain ⟨n, rfl, hx, hw⟩ := DataW.trod_string hu h
  obtain ⟨rfl, _⟩ := Prod.mk.inj hx
  refine ⟨n, rfl, ?_⟩
  have := hz n.data.toList.length (by simp [DataW.weights])
  rw [Array.length_toList] at this
  exact this
theorem Opens.iso {α β : Type} {d : Kd α} {wf : α → Prop} (h : Opens P t d wf) (f : β → α) (g : α → β) (hg : ∀ y, f (g y) = y) : Opens P t (Kd.iso d f) (fun x => wf (f x)) := by
  intro H enc W fuel cs dd ps hh hz
  obtain ⟨x, hK, hw⟩ := h H enc W fuel cs dd ps hh hz
  exact ⟨g x, by show d.K W (f (g x)) cs; rw [hg]; exact hK, by show wf (f (g x)); rw [hg]; exact hw⟩
theorem Opens.weaken {α : Type} {d : Kd α} {wf wf' : α → Prop} (h : Opens P t d wf) (hw : ∀ x, wf x → wf' x) : Opens P t d wf' := by
  intro H enc W fuel cs dd ps hh hz
  obtain ⟨x, hK, hx⟩ := h H enc W fuel cs dd ps hh hz
  exact ⟨x, hK, hw x hx⟩
theorem weightsAll_mem {H : Type} {e : TypeId} : ∀ {ds : List (DataW H)} {d : DataW H}, d ∈ ds → ∀ n ∈ d.weights P e, n ∈ DataW.weightsAll P e ds
  | d0 :: ds, d, hd, n, hn => by
    rw [DataW.weightsAll, List.mem_append]
    rcases List.mem_cons.1 hd with rfl | hd
    · exact .inl hn
    · exact .inr (weightsAll_mem hd n hn)
theorem Opens.slice {α : Type} {d : Kd α} {wf : α → Prop} {e : TypeId} {B : Nat} (hu : P.underlying t = some (.slice e)) (h : Opens P e d wf) (hc : P.cellsOf e = d.sz) (hB : P.bytesOf e = B) :
    Opens P t (Kd.slice e d) (fun xs => xs.length * B ≤ 140737488351232 ∧ ∀ x ∈ xs, wf x) := by
  intro H enc W fuel cs dd ps hh hz
  rcases Deep.open_slice hu hh with ⟨rfl, _⟩ | ⟨a, len, cap, m, n, D, Pl, rfl, _, hl, hm, hmm, hx, hel⟩
  · exact ⟨[], ⟨none, 0, rfl, Nat.le_refl _, rfl, by simp, fun h0 => absurd h0 (by simp)⟩, by simp, by simp⟩
  obtain ⟨rfl, _⟩ := Prod.mk.inj hx
  simp only [if_true] at hmm
  subst hmm
  have hw1 : (len + (m - len)) * P.bytesOf e ≤ reachBytes := hz _ (by simp [DataW.weights, hu])
  have key : ∀ i, i < len → ∃ x, wf x ∧ ∃ c, c.length = d.sz ∧ d.K W x c ∧ ∀ j u, c[j]? = some u → W.cell? (a.add (i * d.sz + j)) = some u := by
    intro i hi
    obtain ⟨cs', h1, h2⟩ := hel i (by omega)
    obtain ⟨x, hK, hw⟩ := h H enc W n cs' (D i) (Pl i) h2 (fun n hn => hz n (by
      simp only [DataW.weights, hu, List.mem_cons, List.mem_append]
      exact .inr (.inl (weightsAll_mem (List.mem_map.2 ⟨i, by simpa using hi, rfl⟩) n hn))))
    obtain ⟨_, hlen, hcell⟩ := World.cells?_some h1
    refine ⟨x, hw, cs', by rw [hlen, hc], hK, fun j u hu' => ?_⟩
    have hj : j < P.cellsOf e := by rw [← hlen]; exact (List.getElem?_eq_some_iff.1 hu').1
    have := hcell j hj
    rw [Addr.add_add, hc] at this
    rw [this, hu']
  obtain ⟨xs, hxl, hxs⟩ := choose_list len key
  subst hxl
  refine ⟨xs, ⟨some a, m, rfl, hl, rfl, by unfold maxLen at hm; omega, fun _ => ⟨a, rfl, fun j p hj => (hxs j p hj).2⟩⟩, ?_, ?_⟩
  · rw [hB] at hw1
    exact Nat.le_trans (Nat.mul_le_mul_right _ (by omega)) hw1
  · intro x hx
    obtain ⟨i, hi⟩ := List.getElem?_of_mem hx
    exact (hxs i x hi).1

/-- The parts of a struct (or array), one behind the other. -/
def OpensP {α : Type} (P : Program) (o : Nat) (L : List (TypeId × Nat)) (e : Nat) (d : Kd α) (wf : α → Prop) : Prop :=
  ∀ (H : Type) (enc : TypeId × Value → H) (W : World) (n : Nat) (cs : List Value) (xs : List (DataW H × List MemPlace)), cs.length = e → xs.length = L.length →
    (∀ (i : Nat) (f : TypeId × Nat), L[i]? = some f → DataW.trod enc P W 0 (fun _ => true) true n f.1 ((cs.drop f.2).take (P.cellsOf f.1)) = xs[i]?) →
    (∀ k ∈ DataW.weightsEach P (L.map (·.1)) (xs.map (·.1)), k ≤ reachBytes) → ∃ x, d.K W x (cs.drop o) ∧ wf x
theorem OpensP.one {α : Type} {d : Kd α} {wf : α → Prop} {o s e : Nat} (h : Opens P t d wf) (hs : P.cellsOf t = s) (he : o + s = e) : OpensP P o [(t, o)] e d wf := by
  subst he hs
  intro H enc W n cs xs hcs hxs hf hz
  have h1 := hf 0 (t, o) rfl
  rw [List.take_of_length_le (by show (cs.drop o).length ≤ P.cellsOf t; rw [List.length_drop]; omega)] at h1
  rw [List.getElem?_eq_getElem (by rw [hxs]; exact Nat.zero_lt_one)] at h1
  match xs, hxs with
  | [x0], _ =>
    exact h H enc W n _ x0.1 x0.2 (by simpa using h1) (fun k hk => hz k (by simp [DataW.weightsEach, hk]))
theorem OpensP.cons {α β : Type} {d : Kd α} {d2 : Kd β} {wf : α → Prop} {wf2 : β → Prop} {o s o2 e : Nat} {L : List (TypeId × Nat)} (h : Opens P t d wf) (hs : P.cellsOf t = s) (he : o + s = o2) (h2 : OpensP P o2 L e d2 wf2) :
    OpensP P o ((t, o) :: L) e (Kd.pair d d2) (fun x => wf x.1 ∧ wf2 x.2) := by
  subst he hs
  intro H enc W n cs xs hcs hxs hf hz
  match xs, hxs with
  | x0 :: xs, hxs =>
    have h1 := hf 0 (t, o) rfl
    obtain ⟨x, hK, hw⟩ := h H enc W n _ x0.1 x0.2 (by simpa using h1) (fun k hk => hz k (by simp [DataW.weightsEach, hk]))
    obtain ⟨y, hK2, hw2⟩ := h2 H enc W n cs xs hcs (by simpa using hxs) (fun i f hi => by simpa using hf (i + 1) f (by simpa using hi)) (fun k hk => hz k (by simp only [List.map_cons, DataW.weightsEach, List.mem_append]; exact .inr hk))
    refine ⟨(x, y), ⟨_, _, ?_, hK, hK2⟩, hw, hw2⟩
    rw [← List.drop_drop, List.take_append_drop]
theorem Opens.struct {α : Type} {d : Kd α} {wf : α → Prop} {fs : Array Field} {L : List (TypeId × Nat)} {e : Nat} (hu : P.underlying t = some (.struct fs)) (hL : fs.toList.map (fun f => (f.type, f.offset)) = L) (hc : P.cellsOf t = e) (h : OpensP P 0 L e d wf) : Opens P t d wf := by
  intro H enc W fuel cs dd ps hh hz
  obtain ⟨xs, n, rfl, hx, hcs, hxs, hf⟩ := DataW.trod_struct hu hh
  obtain ⟨rfl, _⟩ := Prod.mk.inj hx
  subst hL
  obtain ⟨x, hK, hw⟩ := h H enc W n cs xs (by rw [hcs, hc]) (by simpa using hxs) (fun i f hi => by
    rw [List.getElem?_map, Option.map_eq_some_iff] at hi
    obtain ⟨g, hg, rfl⟩ := hi
    exact hf i g (by simpa using hg)) (fun k hk => hz k (by
      simp only [DataW.weights, hu]
      rw [List.map_map] at hk
      exact hk))
  exact ⟨x, by simpa using hK, hw⟩
theorem okWide_agg_struct {W : World} {r : Reach} {base : Nat} {v : Value} {fs : Array Field} (hu : P.underlying t = some (.struct fs)) (h : Value.okWide P W r base t v) : ∃ cs, v = .agg cs := by
  unfold Value.okWide at h
  rw [hu] at h
  obtain ⟨cs, h, _⟩ := h
  exact ⟨cs, h⟩
theorem okWide_agg_array {W : World} {r : Reach} {base : Nat} {v : Value} {n : Nat} {e : TypeId} (hu : P.underlying t = some (.array n e)) (h : Value.okWide P W r base t v) : ∃ cs, v = .agg cs := by
  unfold Value.okWide at h
  rw [hu] at h
  obtain ⟨cs, h, _⟩ := h
  exact ⟨cs, h⟩
theorem weightsEach_rep {H : Type} {e : TypeId} : ∀ (ds : List (DataW H)), DataW.weightsEach P (List.replicate ds.length e) ds = DataW.weightsAll P e ds
  | [] => by simp [DataW.weightsEach, DataW.weightsAll]
  | d :: ds => by rw [List.length_cons, List.replicate_succ, DataW.weightsEach, DataW.weightsAll, weightsEach_rep ds]
theorem Opens.array {α : Type} {d : Kd α} {wf : α → Prop} {n : Nat} {e : TypeId} {L : List (TypeId × Nat)} {z : Nat} (hu : P.underlying t = some (.array n e)) (hL : (List.range n).map (fun i => (e, i * P.cellsOf e)) = L) (hc : P.cellsOf t = z) (h : OpensP P 0 L z d wf) : Opens P t d wf := by
  intro H enc W fuel cs dd ps hh hz
  obtain ⟨xs, m, rfl, hx, hcs, hxs, hf⟩ := DataW.trod_array hu hh
  obtain ⟨rfl, _⟩ := Prod.mk.inj hx
  subst hL
  obtain ⟨x, hK, hw⟩ := h H enc W m cs xs (by rw [hcs, hc]) (by simpa using hxs) (fun i f hi => by
    rw [List.getElem?_map, Option.map_eq_some_iff] at hi
    obtain ⟨g, hg, rfl⟩ := hi
    obtain ⟨hlt, hg⟩ := List.getElem?_eq_some_iff.1 hg
    simp at hg hlt
    subst hg
    exact hf i hlt) (fun k hk => hz k (by
      simp only [DataW.weights, hu]
      rw [List.map_map] at hk
      rw [← weightsEach_rep]
      have : List.map ((fun x => x.1) ∘ fun i => (e, i * P.cellsOf e)) (List.range n) = List.replicate (xs.map (·.1)).length e := by
        rw [List.length_map, hxs]
        apply List.ext_getElem
        · simp
        · intro i h1 h2; simp
      rw [this] at hk
      exact hk))
  exact ⟨x, by simpa using hK, hw⟩
end
end Go.Proofs.YtachglfhgcdobaaOpen
