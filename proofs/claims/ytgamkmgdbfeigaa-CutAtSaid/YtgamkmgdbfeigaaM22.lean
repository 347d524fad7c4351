/- How an argument that can be read as data (numbers, truth values, slices, structs, arrays, in each other) is laid open for the machine. -/
import Derived.Test.YtgamkmgdbfeigaaM21
import Derived.SizedLaws
import Derived.DataElems
import Derived.Deep.Slices
import Derived.OpenShut
namespace Go.Proofs.YtgamkmgdbfeigaaM
open Go Go.RowKit
set_option linter.unusedVariables false

/-- Some cells of the machine stand for some cells of a world, before any row is made. -/
def RepC (W : World) (vs : List V) (cs : List Value) : Prop := vs.length = cs.length ∧ ∀ (t : Nat) (v : V) (c : Value), vs[t]? = some v → cs[t]? = some c → c.oneCell' = true ∧ Rep W (fun k => k < W.heap.size) noRho v c

theorem RepC.one {W : World} {v : V} {c : Value} (h1 : c.oneCell' = true) (h : Rep W (fun k => k < W.heap.size) noRho v c) : RepC W [v] [c] := by
  refine ⟨rfl, fun t v' c' hv hc => ?_⟩
  match t with
  | 0 => cases hv; cases hc; exact ⟨h1, h⟩
  | t + 1 => simp at hv

theorem RepC.append {W : World} {vs vs' : List V} {cs cs' : List Value} (h : RepC W vs cs) (h' : RepC W vs' cs') : RepC W (vs ++ vs') (cs ++ cs') := by
  refine ⟨by rw [List.length_append, List.length_append, h.1, h'.1], fun t v c hv hc => ?_⟩
  by_cases ht : t < vs.length
  · rw [List.getElem?_append_left ht] at hv
    rw [List.getElem?_append_left (by rw [← h.1]; exact ht)] at hc
    exact h.2 t v c hv hc
  · rw [List.getElem?_append_right (by omega)] at hv
    rw [List.getElem?_append_right (by rw [← h.1]; omega), ← h.1] at hc
    exact h'.2 _ v c hv hc

def wrapV (ag : Bool) (l : List V) : V := bif ag then .ag l else l.headD .un

/-- Whatever can be read at this type is of this kind, and well formed. -/
def Opens {α : Type} (P : Program) (t : TypeId) (sz : Nat) (enc : α → List V) (wf : α → Prop) : Prop :=
  ∀ (H : Type) (hc : TypeId × Value → H) (W : World) (fuel : Nat) (cs : List Value) (dd : DataW H) (ps : List MemPlace),
    DataW.trod hc P W 0 (fun _ => true) true fuel t cs = some (dd, ps) → (∀ n ∈ dd.weights P t, n ≤ reachBytes) → ∃ x, (enc x).length = sz ∧ RepC W (enc x) cs ∧ wf x

theorem choose_list {α : Type} {Q : Nat → α → Prop} : ∀ n, (∀ i, i < n → ∃ x, Q i x) → ∃ xs : List α, xs.length = n ∧ ∀ (i : Nat) (x : α), xs[i]? = some x → Q i x
  | 0, _ => ⟨[], rfl, fun i x h => by simp at h⟩
  | n + 1, h => by
    obtain ⟨xs, hl, hq⟩ := choose_list n (fun i hi => h i (by omega))
    obtain ⟨x, hx⟩ := h n (by omega)
    refine ⟨xs ++ [x], by simp [hl], fun i y hy => ?_⟩
    rcases Nat.lt_or_ge i xs.length with hlt | hge
    · rw [List.getElem?_append_left hlt] at hy; exact hq i y hy
    · rw [List.getElem?_append_right hge] at hy
      have : i - xs.length = 0 := by
        rcases Nat.eq_zero_or_pos (i - xs.length) with h0 | h0
        · exact h0
        · rw [List.getElem?_eq_none (by simp; omega)] at hy; cases hy
      rw [this] at hy
      simp at hy
      subst hy
      have : i = n := by omega
      subst this
      exact hx

theorem cell_lt {W : World} {A : Addr} {v : Value} (h : W.cell? A = some v) : A.block < W.heap.size := by
  unfold World.cell? at h
  cases hb : W.heap[A.block]? with
  | none => rw [hb] at h; simp at h
  | some b => exact (Array.getElem?_eq_some_iff.1 hb).1

section
variable {P : Program} {t : TypeId}
theorem Opens.int {k : IntKind} (hu : P.underlying t = some (.int k)) : Opens P t 1 (fun n : Int => [.i k n]) (fun x => (Lit.int k x).wf = true) := by
  intro H enc W fuel cs dd ps h hz
  obtain ⟨n, rfl, _, hw⟩ := DataW.trod_int hu h
  exact ⟨n, rfl, .one rfl (.i _ _), hw⟩
theorem Opens.bool (hu : P.underlying t = some .bool) : Opens P t 1 (fun b : Bool => [.b b]) (fun _ => True) := by
  intro H enc W fuel cs dd ps h hz
  obtain ⟨n, rfl, _⟩ := DataW.trod_bool hu h
  exact ⟨n, rfl, .one rfl (.b _), trivial⟩
theorem Opens.iso {α β : Type} {sz : Nat} {enc : α → List V} {wf : α → Prop} (h : Opens P t sz enc wf) (enc' : β → List V) (wf' : β → Prop) (g : α → β) (he : ∀ x, enc' (g x) = enc x) (hw : ∀ x, wf x → wf' (g x)) : Opens P t sz enc' wf' := by
  intro H hc W fuel cs dd ps hh hz
  obtain ⟨x, hl, hK, hx⟩ := h H hc W fuel cs dd ps hh hz
  exact ⟨g x, by rw [he]; exact hl, by rw [he]; exact hK, hw x hx⟩
theorem weightsAll_mem {H : Type} {e : TypeId} : ∀ {ds : List (DataW H)} {d : DataW H}, d ∈ ds → ∀ n ∈ d.weights P e, n ∈ DataW.weightsAll P e ds
  | d0 :: ds, d, hd, n, hn => by
    rw [DataW.weightsAll, List.mem_append]
    rcases List.mem_cons.1 hd with rfl | hd
    · exact .inl hn
    · exact .inr (weightsAll_mem hd n hn)
theorem Opens.slice {α : Type} {sz : Nat} {enc : α → List V} {wf : α → Prop} {e : TypeId} {B : Nat} (ag : Bool) (hu : P.underlying t = some (.slice e)) (h : Opens P e sz enc wf) (hc : P.cellsOf e = sz) (hB : P.bytesOf e = B) (hsz : 0 < sz) (hag : ∀ x, (wrapV ag (enc x)).cells = enc x) :
    Opens P t 1 (fun xs : List α => [.sl sz (xs.map fun x => wrapV ag (enc x))]) (fun xs => xs.length * B ≤ 140737488351232 ∧ ∀ x ∈ xs, wf x) := by
  intro H hc' W fuel cs dd ps hh hz
  rcases Deep.open_slice hu hh with ⟨rfl, _⟩ | ⟨a, len, cap, m, n, D, Pl, rfl, _, hl, hm, hmm, hx, hel⟩
  · exact ⟨[], rfl, .one rfl (.sl (fun _ _ => .bool true) rfl (Nat.le_refl _) (fun j e h => by simp at h) (fun h => absurd h (by simp)) (fun j t h => absurd h (by simp)) (fun j t e c h => by simp at h)), by simp, by simp⟩
  obtain ⟨rfl, _⟩ := Prod.mk.inj hx
  simp only [if_true] at hmm
  subst hmm
  have hw1 : (len + (m - len)) * P.bytesOf e ≤ reachBytes := hz _ (by simp [DataW.weights, hu])
  have key : ∀ i, i < len → ∃ x, (enc x).length = sz ∧ wf x ∧ ∃ c : List Value, RepC W (enc x) c ∧ ∀ j u, c[j]? = some u → W.cell? (a.add (i * sz + j)) = some u := by
    intro i hi
    obtain ⟨cs', h1, h2⟩ := hel i (by omega)
    obtain ⟨x, hxl, hK, hw⟩ := h H hc' W n cs' (D i) (Pl i) h2 (fun n hn => hz n (by
      simp only [DataW.weights, hu, List.mem_cons, List.mem_append]
      exact .inr (.inl (weightsAll_mem (List.mem_map.2 ⟨i, by simpa using hi, rfl⟩) n hn))))
    obtain ⟨_, hlen, hcell⟩ := World.cells?_some h1
    refine ⟨x, hxl, hw, cs', hK, fun j u hu' => ?_⟩
    have hj : j < P.cellsOf e := by rw [← hlen]; exact (List.getElem?_eq_some_iff.1 hu').1
    have := hcell j hj
    rw [Addr.add_add, hc] at this
    rw [this, hu']
  obtain ⟨xs, hxl, hxs⟩ := choose_list len key
  subst hxl
  -- the cells as a function
  have hmap : ∀ (j : Nat) (e : V), (xs.map fun x => wrapV ag (enc x))[j]? = some e → ∃ x, xs[j]? = some x ∧ e = wrapV ag (enc x) := by
    intro j e he
    rw [List.getElem?_map, Option.map_eq_some_iff] at he
    obtain ⟨x, h1, h2⟩ := he
    exact ⟨x, h1, h2.symm⟩
  have hcellv : ∀ j k, j < xs.length → k < sz → ∃ u, W.cell? (a.add (j * sz + k)) = some u ∧ u.oneCell' = true ∧ ∀ x c, xs[j]? = some x → (enc x)[k]? = some c → Rep W (fun k => k < W.heap.size) noRho c u := by
    intro j k hj hk
    obtain ⟨hl1, _, c, hR, hcell⟩ := hxs j xs[j] (List.getElem?_eq_getElem hj)
    obtain ⟨hlen, hR⟩ := hR
    have hkc : k < c.length := by omega
    have hke : k < (enc xs[j]).length := by omega
    obtain ⟨h1, h2⟩ := hR k (enc xs[j])[k] c[k] (List.getElem?_eq_getElem hke) (List.getElem?_eq_getElem hkc)
    refine ⟨c[k], hcell k _ (List.getElem?_eq_getElem hkc), h1, fun x c' hx hc' => ?_⟩
    rw [List.getElem?_eq_getElem hj] at hx
    cases hx
    rw [List.getElem?_eq_getElem hke] at hc'
    cases hc'
    exact h2
  refine ⟨xs, rfl, .one rfl ?_, ?_, ?_⟩
  · refine .sl (fun j k => (W.cell? (a.add (j * sz + k))).getD (.bool true)) (by simp) (by omega) (fun j e he => ?_) (fun hne => ?_) (fun j k hj hk => ?_) fun j k e c he hc0 => ?_
    · obtain ⟨x, hx, rfl⟩ := hmap j e he
      rw [hag]
      exact (hxs j x hx).1
    · refine ⟨a, rfl, ?_, fun j k hj hk => ?_⟩
      · obtain ⟨u, hu', _⟩ := hcellv 0 0 hne hsz
        have := cell_lt hu'
        rwa [add_block] at this
      · obtain ⟨u, hu', _⟩ := hcellv j k hj hk
        rw [hu']; rfl
    · obtain ⟨u, hu', h1, _⟩ := hcellv j k hj hk
      rw [hu']; exact h1
    · obtain ⟨x, hx, rfl⟩ := hmap j e he
      rw [hag] at hc0
      have hj : j < xs.length := (List.getElem?_eq_some_iff.1 hx).1
      have hk : k < sz := by rw [← (hxs j x hx).1]; exact (List.getElem?_eq_some_iff.1 hc0).1
      obtain ⟨u, hu', _, h2⟩ := hcellv j k hj hk
      rw [hu']
      exact h2 x c hx hc0
  · rw [hB] at hw1
    exact Nat.le_trans (Nat.mul_le_mul_right _ (by omega)) hw1
  · intro x hx
    obtain ⟨i, hi⟩ := List.getElem?_of_mem hx
    exact (hxs i x hi).2.1

/-- The parts of a struct (or array), one behind the other. -/
def OpensP {α : Type} (P : Program) (o : Nat) (L : List (TypeId × Nat)) (e : Nat) (enc : α → List V) (wf : α → Prop) : Prop :=
  ∀ (H : Type) (hc : TypeId × Value → H) (W : World) (n : Nat) (cs : List Value) (xs : List (DataW H × List MemPlace)), cs.length = e → xs.length = L.length →
    (∀ (i : Nat) (f : TypeId × Nat), L[i]? = some f → DataW.trod hc P W 0 (fun _ => true) true n f.1 ((cs.drop f.2).take (P.cellsOf f.1)) = xs[i]?) →
    (∀ k ∈ DataW.weightsEach P (L.map (·.1)) (xs.map (·.1)), k ≤ reachBytes) → ∃ x, o + (enc x).length = e ∧ RepC W (enc x) (cs.drop o) ∧ wf x
theorem OpensP.one {α : Type} {enc : α → List V} {wf : α → Prop} {o s e : Nat} (h : Opens P t s enc wf) (hs : P.cellsOf t = s) (he : o + s = e) : OpensP P o [(t, o)] e enc wf := by
  subst he hs
  intro H hc W n cs xs hcs hxs hf hz
  have h1 := hf 0 (t, o) rfl
  rw [List.take_of_length_le (by show (cs.drop o).length ≤ P.cellsOf t; rw [List.length_drop]; omega)] at h1
  rw [List.getElem?_eq_getElem (by rw [hxs]; exact Nat.zero_lt_one)] at h1
  match xs, hxs with
  | [x0], _ =>
    obtain ⟨x, hl, hK, hw⟩ := h H hc W n _ x0.1 x0.2 (by simpa using h1) (fun k hk => hz k (by simp [DataW.weightsEach, hk]))
    exact ⟨x, by rw [hl], hK, hw⟩
theorem OpensP.cons {α β : Type} {enc : α → List V} {enc2 : β → List V} {wf : α → Prop} {wf2 : β → Prop} {o s o2 e : Nat} {L : List (TypeId × Nat)} (h : Opens P t s enc wf) (hs : P.cellsOf t = s) (he : o + s = o2) (h2 : OpensP P o2 L e enc2 wf2) :
    OpensP P o ((t, o) :: L) e (fun x : α × β => enc x.1 ++ enc2 x.2) (fun x => wf x.1 ∧ wf2 x.2) := by
  subst he hs
  intro H hc W n cs xs hcs hxs hf hz
  match xs, hxs with
  | x0 :: xs, hxs =>
    have h1 := hf 0 (t, o) rfl
    obtain ⟨x, hl, hK, hw⟩ := h H hc W n _ x0.1 x0.2 (by simpa using h1) (fun k hk => hz k (by simp [DataW.weightsEach, hk]))
    obtain ⟨y, hl2, hK2, hw2⟩ := h2 H hc W n cs xs hcs (by simpa using hxs) (fun i f hi => by simpa using hf (i + 1) f (by simpa using hi)) (fun k hk => hz k (by simp only [List.map_cons, DataW.weightsEach, List.mem_append]; exact .inr hk))
    refine ⟨(x, y), by show o + (enc x ++ enc2 y).length = _; rw [List.length_append]; omega, ?_, hw, hw2⟩
    have := hK.append hK2
    rwa [← List.drop_drop, List.take_append_drop] at this
theorem Opens.struct {α : Type} {enc : α → List V} {wf : α → Prop} {fs : Array Field} {L : List (TypeId × Nat)} {e : Nat} (hu : P.underlying t = some (.struct fs)) (hL : fs.toList.map (fun f => (f.type, f.offset)) = L) (hc : P.cellsOf t = e) (h : OpensP P 0 L e enc wf) : Opens P t e enc wf := by
  intro H enc W fuel cs dd ps hh hz
  obtain ⟨xs, n, rfl, hx, hcs, hxs, hf⟩ := DataW.trod_struct hu hh
  obtain ⟨rfl, _⟩ := Prod.mk.inj hx
  subst hL
  obtain ⟨x, hl, hK, hw⟩ := h H enc W n cs xs (by rw [hcs, hc]) (by simpa using hxs) (fun i f hi => by
    rw [List.getElem?_map, Option.map_eq_some_iff] at hi
    obtain ⟨g, hg, rfl⟩ := hi
    exact hf i g (by simpa using hg)) (fun k hk => hz k (by
      simp only [DataW.weights, hu]
      rw [List.map_map] at hk
      exact hk))
  exact ⟨x, by omega, by simpa using hK, hw⟩
theorem weightsEach_rep {H : Type} {e : TypeId} : ∀ (ds : List (DataW H)), DataW.weightsEach P (List.replicate ds.length e) ds = DataW.weightsAll P e ds
  | [] => by simp [DataW.weightsEach, DataW.weightsAll]
  | d :: ds => by rw [List.length_cons, List.replicate_succ, DataW.weightsEach, DataW.weightsAll, weightsEach_rep ds]
theorem Opens.array {α : Type} {enc : α → List V} {wf : α → Prop} {n : Nat} {e : TypeId} {L : List (TypeId × Nat)} {z : Nat} (hu : P.underlying t = some (.array n e)) (hL : (List.range n).map (fun i => (e, i * P.cellsOf e)) = L) (hc : P.cellsOf t = z) (h : OpensP P 0 L z enc wf) : Opens P t z enc wf := by
  intro H enc W fuel cs dd ps hh hz
  obtain ⟨xs, m, rfl, hx, hcs, hxs, hf⟩ := DataW.trod_array hu hh
  obtain ⟨rfl, _⟩ := Prod.mk.inj hx
  subst hL
  obtain ⟨x, hl, hK, hw⟩ := h H enc W m cs xs (by rw [hcs, hc]) (by simpa using hxs) (fun i f hi => by
    rw [List.getElem?_map, Option.map_eq_some_iff] at hi
    obtain ⟨g, hg, rfl⟩ := hi
    obtain ⟨hlt, hg⟩ := List.getElem?_eq_some_iff.1 hg
    simp at hg hlt
    subst hg
    exact hf i hlt) (fun k hk => hz k (by
      simp only [DataW.weights, hu]
      rw [List.map_map] at hk
      rw [← weightsEach_rep]
      have : List.map ((fun x => x.1) ∘ fun i => (e, i * P.cellsOf e)) (List.range n) = List.replicate (xs.map (·.1)).length e := by
        rw [List.length_map, hxs]
        apply List.ext_getElem
        · simp
        · intro i h1 h2; simp
      rw [this] at hk
      exact hk))
  exact ⟨x, by omega, by simpa using hK, hw⟩
theorem okWide_agg_struct {W : World} {r : Reach} {base : Nat} {v : Value} {fs : Array Field} (hu : P.underlying t = some (.struct fs)) (h : Value.okWide P W r base t v) : ∃ cs, v = .agg cs := by
  unfold Value.okWide at h
  rw [hu] at h
  obtain ⟨cs, h, _⟩ := h
  exact ⟨cs, h⟩
theorem okWide_agg_array {W : World} {r : Reach} {base : Nat} {v : Value} {n : Nat} {e : TypeId} (hu : P.underlying t = some (.array n e)) (h : Value.okWide P W r base t v) : ∃ cs, v = .agg cs := by
  unfold Value.okWide at h
  rw [hu] at h
  obtain ⟨cs, h, _⟩ := h
  exact ⟨cs, h⟩

/-- An argument, laid open. -/
theorem Opens.agg {α : Type} {sz : Nat} {enc : α → List V} {wf : α → Prop} (h : Opens P t sz enc wf) {H : Type} {hc : TypeId × Value → H} {W : World} {v : Value} {dd : DataW H} {ps : List MemPlace}
    (hv : ∃ cs, v = .agg cs) (hk : ∃ fuel, DataW.trod hc P W 0 (fun _ => true) true fuel t v.cells.toList = some (dd, ps)) (hz : ∀ n ∈ dd.weights P t, n ≤ reachBytes) : ∃ x, Rep W (fun k => k < W.heap.size) noRho (.ag (enc x)) v ∧ wf x := by
  obtain ⟨cs, rfl⟩ := hv
  obtain ⟨fuel, hk⟩ := hk
  obtain ⟨x, hl, ⟨hl2, hR⟩, hw⟩ := h H hc W fuel _ dd ps hk hz
  refine ⟨x, ?_, hw⟩
  have e : (Value.agg cs).cells.toList = cs.toList := rfl
  rw [e] at hl2 hR
  refine .ag (by rw [hl2, Array.length_toList]) (fun t u hu => ?_) fun t c u hc' hu => ?_
  · have ht : t < (enc x).length := by rw [hl2, Array.length_toList]; exact (Array.getElem?_eq_some_iff.1 hu).1
    exact (hR t _ u (List.getElem?_eq_getElem ht) (by rw [Array.getElem?_toList]; exact hu)).1
  · exact (hR t c u hc' (by rw [Array.getElem?_toList]; exact hu)).2
theorem Opens.cell {α : Type} {sz : Nat} {enc : α → List V} {wf : α → Prop} (h : Opens P t sz enc wf) {H : Type} {hc : TypeId × Value → H} {W : World} {v : Value} {dd : DataW H} {ps : List MemPlace} (f : α → V) (hf : ∀ x, enc x = [f x])
    (hv : v.cells = #[v]) (hk : ∃ fuel, DataW.trod hc P W 0 (fun _ => true) true fuel t v.cells.toList = some (dd, ps)) (hz : ∀ n ∈ dd.weights P t, n ≤ reachBytes) : ∃ x, Rep W (fun k => k < W.heap.size) noRho (f x) v ∧ wf x := by
  obtain ⟨fuel, hk⟩ := hk
  obtain ⟨x, hl, ⟨_, hR⟩, hw⟩ := h H hc W fuel _ dd ps hk hz
  refine ⟨x, ?_, hw⟩
  rw [hf, hv] at hR
  exact (hR 0 (f x) v rfl rfl).2
end
end Go.Proofs.YtgamkmgdbfeigaaM
