/- Regions whose operations may come in any order that their edges leave open: the run. -/
import Derived.Test.YtgamkmgdbfeigaaM11
namespace Go.Proofs.YtgamkmgdbfeigaaM
open Go Go.RowKit

/-- How many are still missing. -/
def miss (f : Nat → Bool) : Nat → Nat
  | 0 => 0
  | n + 1 => (bif f n then 0 else 1) + miss f n

theorem miss_step {f g : Nat → Bool} {i : Nat} (hi : f i = false) (hg : ∀ j, j ≠ i → g j = f j) (hgi : g i = true) : ∀ n, i < n → miss g n + 1 = miss f n
  | 0, h => by omega
  | n + 1, h => by
    unfold miss
    by_cases hn : i = n
    · subst hn
      have : ∀ m, m ≤ i → miss g m = miss f m := by
        intro m
        induction m with
        | zero => intro _; rfl
        | succ m ih => intro hm; unfold miss; rw [hg m (by omega), ih (by omega)]
      rw [hi, hgi, this i (Nat.le_refl _)]
      simp; omega
    · rw [hg n (fun h => hn h.symm), ← miss_step hi hg hgi n (by omega)]
      omega

theorem miss_all {f : Nat → Bool} : ∀ n, miss f n = 0 → ∀ j, j < n → f j = true
  | 0, _, j, hj => by omega
  | n + 1, h, j, hj => by
    unfold miss at h
    cases hf : f n with
    | true =>
      rw [hf] at h
      by_cases hn : j = n
      · rw [hn, hf]
      · exact miss_all n (by simpa using h) j (by omega)
    | false => rw [hf] at h; simp at h

theorem apartB_spec {τ : Env} : ∀ {ps : List (Nat × Nat)}, apartB τ ps = true → ∀ a b, (a, b) ∈ ps → ∃ m es i o m' es' i' o', look τ a = .pt m es i o ∧ look τ b = .pt m' es' i' o' ∧ m ≠ m'
  | [], _, a, b, h => by cases h
  | (x, y) :: r, h, a, b, hm => by
    unfold apartB at h
    rw [Bool.and_eq_true] at h
    rcases List.mem_cons.1 hm with hm | hm
    · cases hm
      obtain ⟨h1, _⟩ := h
      split at h1
      · rename_i h2 h3
        refine ⟨_, _, _, _, _, _, _, _, h2, h3, fun h => ?_⟩
        subst h
        simp at h1
      · cases h1
    · exact apartB_spec h.2 a b hm

section
variable {P : Program} {imm : Nat → Prop} {ops : Array Oper} {l : List Fl} {S : Nat → St}

/-- A run's states, one behind the other. -/
def Steps (P : Program) (l : List Fl) (S : Nat → St) : Prop := ∀ i x, l[i]? = some x → OpS P x (S i) (S (i + 1)) ∨ SkS x (S i) (S (i + 1))

def IsOp (P : Program) (l : List Fl) (S : Nat → St) (i : Nat) : Prop := ∃ x, l[i]? = some x ∧ OpS P x (S i) (S (i + 1))

/-- Operation j may write the row b. -/
def Wr (P : Program) (l : List Fl) (S : Nat → St) (j b : Nat) : Prop := ∃ x, l[j]? = some x ∧ OpS P x (S j) (S (j + 1)) ∧ (b ∈ x.op.writes (S j).τ (S j).H ∨ ((S j).H.length ≤ b ∧ b < (S (j + 1)).H.length))

theorem Steps.len (hS : Steps P l S) {i : Nat} (hi : i < l.length) : (S i).H.length ≤ (S (i + 1)).H.length := by
  rcases hS i l[i] (by simp [hi]) with ⟨_, _, _, h, _⟩ | ⟨E, _, h, _⟩
  · exact h
  · rw [h]; simp

theorem Steps.mono (hS : Steps P l S) {i : Nat} : ∀ {k : Nat}, i ≤ k → k ≤ l.length → (S i).H.length ≤ (S k).H.length
  | 0, h, _ => by have : i = 0 := by omega
                  subst this; exact Nat.le_refl _
  | k + 1, h, hk => by
    rcases Nat.lt_or_ge k i with h' | h'
    · have : i = k + 1 := by omega
      subst this; exact Nat.le_refl _
    · exact Nat.le_trans (hS.mono h' (by omega)) (hS.len (by omega))

/-- Two steps that make the same row are one. -/
theorem Steps.same (hS : Steps P l S) {i j b : Nat} (hi : i < l.length) (hj : j < l.length) (h1 : (S i).H.length ≤ b) (h2 : b < (S (i + 1)).H.length) (h3 : (S j).H.length ≤ b) (h4 : b < (S (j + 1)).H.length) : i = j := by
  rcases Nat.lt_trichotomy i j with h | h | h
  · have := hS.mono (i := i + 1) (k := j) (by omega) (by omega); omega
  · exact h
  · have := hS.mono (i := j + 1) (k := i) (by omega) (by omega); omega

theorem Steps.tau (hS : Steps P l S) {t i : Nat} : ∀ {k : Nat}, i ≤ k → k ≤ l.length → (∀ j x, i ≤ j → j < k → l[j]? = some x → x.dst ≠ some t) → look (S k).τ t = .un ∨ look (S k).τ t = look (S i).τ t
  | 0, h, _, _ => by have : i = 0 := by omega
                     subst this; exact .inr rfl
  | k + 1, h, hk, hd => by
    rcases Nat.lt_or_ge k i with h' | h'
    · have : i = k + 1 := by omega
      subst this; exact .inr rfl
    · have ih := hS.tau h' (by omega) fun j x h1 h2 h3 => hd j x h1 (by omega) h3
      have hx : l[k]? = some l[k] := by simp [show k < l.length by omega]
      have hne := hd k l[k] h' (by omega) hx
      rcases hS k _ hx with ⟨v, _, _, _, _, _, _, _, _, he⟩ | ⟨E, _, _, he⟩
      · rcases he t with h1 | h1
        · exact .inl h1
        · rw [h1, look_put, if_neg hne]; exact ih
      · rcases he t with h1 | h1
        · exact .inl h1
        · rw [h1, look_put, if_neg hne]; exact ih

theorem Steps.heap (hS : Steps P l S) {b i : Nat} (hb : b < (S i).H.length) : ∀ {k : Nat}, i ≤ k → k ≤ l.length → (∀ j, i ≤ j → j < k → ¬ Wr P l S j b) → hget (S k).H b = hget (S i).H b
  | 0, h, _, _ => by have : i = 0 := by omega
                     subst this; rfl
  | k + 1, h, hk, hd => by
    rcases Nat.lt_or_ge k i with h' | h'
    · have : i = k + 1 := by omega
      subst this; rfl
    · have ih := hS.heap hb h' (by omega) fun j h1 h2 => hd j h1 (by omega)
      have hx : l[k]? = some l[k] := by simp [show k < l.length by omega]
      have hne := hd k h' (by omega)
      have hlt : b < (S k).H.length := Nat.lt_of_lt_of_le hb (hS.mono h' (by omega))
      rcases hS k _ hx with hop | ⟨E, _, he, _⟩
      · obtain ⟨v, _, _, _, hkp, _⟩ := id hop
        rw [hkp b hlt fun hw => hne ⟨_, hx, hop, .inl hw⟩, ih]
      · rw [← ih]
        unfold hget
        rw [he, List.getElem?_append_left hlt]

theorem drawB_at {ps : List (Nat × Nat)} {bs : List Nat} (h : drawB ps l bs = true) {i j : Nat} {x y : Fl} (hij : i < j) (hx : l[i]? = some x) (hy : l[j]? = some y) (hb : (bs.getD j 0).testBit i = false) : freeT x y = true ∧ free ps l i j x.op.mk y.op.mk = true := by
  have hj : j < l.length := (List.getElem?_eq_some_iff.1 hy).1
  have h1 := List.all_eq_true.1 h j (by simp [hj])
  have h2 := List.all_eq_true.1 h1 i (by simp [hij])
  rw [hb, hx, hy] at h2
  simpa using h2

/-- Two operations that no edge orders look at nothing that the other writes. -/
theorem free_apart {ps : List (Nat × Nat)} (hS : Steps P l S) (hap : apartB (S l.length).τ ps = true) {i j : Nat} {x y : Fl} (hx : l[i]? = some x) (hy : l[j]? = some y)
    (hnx : x.op.nkOk (S i).τ) (hny : y.op.nkOk (S j).τ) (hf : free ps l i j x.op.mk y.op.mk = true) :
    (∀ b ∈ x.op.writes (S i).τ (S i).H, b ∉ y.op.touch (S j).τ (S j).H) ∧ ∀ b ∈ y.op.writes (S j).τ (S j).H, b ∉ x.op.touch (S i).τ (S i).H := by
  have sx := mk_spec x.op (S i).τ (S i).H hnx
  have sy := mk_spec y.op (S j).τ (S j).H hny
  have wx := writes_touch x.op (S i).τ (S i).H
  have wy := writes_touch y.op (S j).τ (S j).H
  have hlate : ∀ {m t : Nat}, m ≤ l.length → late l m t = true → look (S l.length).τ t = .un ∨ look (S l.length).τ t = look (S m).τ t := by
    intro m t hm hl
    refine hS.tau hm (Nat.le_refl _) fun k z h1 h2 hz hzt => ?_
    have := List.all_eq_true.1 hl z (by
      rw [List.mem_iff_getElem?]
      exact ⟨k - m, by rw [List.getElem?_drop, show m + (k - m) = k by omega]; exact hz⟩)
    rw [hzt] at this
    simp at this
  have hil : i ≤ l.length := Nat.le_of_lt (List.getElem?_eq_some_iff.1 hx).1
  have hjl : j ≤ l.length := Nat.le_of_lt (List.getElem?_eq_some_iff.1 hy).1
  have key : ∀ {a c : Nat}, ((ps.contains (a, c) || ps.contains (c, a)) && late l i a && late l j c) = true → ∀ b ∈ (look (S i).τ a).tid, b ∉ (look (S j).τ c).tid := by
    intro a c h b hb hb'
    simp only [Bool.and_eq_true, Bool.or_eq_true] at h
    obtain ⟨⟨hp, hla⟩, hlc⟩ := h
    have : ∃ m es i' o m' es' i'' o', look (S l.length).τ a = .pt m es i' o ∧ look (S l.length).τ c = .pt m' es' i'' o' ∧ m ≠ m' := by
      rcases hp with hp | hp
      · exact apartB_spec hap a c (List.contains_iff_mem.1 hp)
      · obtain ⟨m, es, i', o, m', es', i'', o', h1, h2, h3⟩ := apartB_spec hap c a (List.contains_iff_mem.1 hp)
        exact ⟨m', es', i'', o', m, es, i', o, h2, h1, fun h => h3 h.symm⟩
    obtain ⟨m, es, i', o, m', es', i'', o', h1, h2, h3⟩ := this
    rcases hlate hil hla with h4 | h4
    · rw [h1] at h4; cases h4
    rcases hlate hjl hlc with h5 | h5
    · rw [h2] at h5; cases h5
    rw [← h4, h1] at hb
    rw [← h5, h2] at hb'
    simp only [V.tid, List.mem_singleton] at hb hb'
    exact h3 (hb.symm.trans hb')
  revert sx sy hf
  cases hmx : x.op.mk <;> cases hmy : y.op.mk <;> simp only [free] <;> intro hf sx sy
  all_goals first
    | (cases hf; done)
    | (obtain ⟨_, sx1, sx2⟩ := sx; rw [sx1, sx2]; exact ⟨fun b h => (by cases h), fun b _ h => (by cases h)⟩)
    | (obtain ⟨_, sy1, sy2⟩ := sy; rw [sy1, sy2]; exact ⟨fun b _ h => (by cases h), fun b h => (by cases h)⟩)
    | (obtain ⟨sx1, sx2⟩ := sx; rw [sx1, sx2]; exact ⟨fun b h => (by cases h), fun b _ h => (by cases h)⟩)
    | (obtain ⟨sy1, sy2⟩ := sy; rw [sy1, sy2]; exact ⟨fun b _ h => (by cases h), fun b h => (by cases h)⟩)
    | (obtain ⟨sx1, sx2⟩ := sx; obtain ⟨sy1, sy2⟩ := sy; rw [sx2, sy2]; exact ⟨fun b h => by (cases h), fun b h => by (cases h)⟩)
    | (obtain ⟨sx1, sx2⟩ := sx; rw [sx2, sy]; exact ⟨fun b h => by (cases h), fun b h => by (cases h)⟩)
    | (obtain ⟨sy1, sy2⟩ := sy; rw [sx, sy2]; exact ⟨fun b h => by (cases h), fun b h => by (cases h)⟩)
    | (rw [sx, sy]; exact ⟨fun b h => by (cases h), fun b h => by (cases h)⟩)
    | (obtain ⟨sx1, sx2⟩ := sx; obtain ⟨sy1, sy2⟩ := sy; rw [sx1, sx2, sy1, sy2]; exact ⟨fun b h => by (cases h), fun b h h' => key hf b h' h⟩)
    | (obtain ⟨sx1, sx2⟩ := sx; obtain ⟨sy1, sy2⟩ := sy; rw [sx1, sx2, sy1, sy2]; exact ⟨fun b h h' => key hf b h h', fun b h => by (cases h)⟩)
    | (obtain ⟨sx1, sx2⟩ := sx; obtain ⟨sy1, sy2⟩ := sy; rw [sx1, sx2, sy1, sy2]; exact ⟨fun b h h' => key hf b h h', fun b h h' => key hf b h' h⟩)

theorem free_all {ps : List (Nat × Nat)} {i j : Nat} {x y : Mk} (hf : free ps l i j x y = true) : (x = .all → y = .pure) ∧ (y = .all → x = .pure) := by
  cases x <;> cases y <;> simp [free] at hf ⊢
end

end Go.Proofs.YtgamkmgdbfeigaaM
