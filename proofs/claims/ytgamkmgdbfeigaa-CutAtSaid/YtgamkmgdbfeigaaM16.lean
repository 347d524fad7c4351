/- At a loop's head: rows numbered anew. -/
import Derived.Test.YtgamkmgdbfeigaaM15
namespace Go.Proofs.YtgamkmgdbfeigaaM
open Go Go.RowKit

def Pre (o O : Olds) : Prop := ∀ (k : Nat) (q : Option Nat × Nat × Nat), o[k]? = some q → O[k]? = some q
theorem Pre.refl (o : Olds) : Pre o o := fun _ _ h => h
theorem Pre.trans {a b c : Olds} (h : Pre a b) (h' : Pre b c) : Pre a c := fun k q hk => h' k q (h k q hk)
theorem Pre.app (o t : Olds) : Pre o (o ++ t) := fun k q hk => by
  rw [List.getElem?_append_left (List.getElem?_eq_some_iff.1 hk).1]; exact hk

/-- Each row stands once among those that have been met. -/
def GoodO (base : Nat) (o : Olds) : Prop := ∀ (k b ty es : Nat), o[k]? = some (some b, ty, es) → base ≤ b ∧ ∀ (k' ty' es' : Nat), o[k']? = some (some b, ty', es') → k = k'

/-- A row's new number. -/
def Map (base : Nat) (O : Olds) (b b' : Nat) : Prop := (b < base ∧ b' = b) ∨ ∃ k ty es, O[k]? = some (some b, ty, es) ∧ b' = base + k

inductive Ren (base : Nat) (O : Olds) : V → V → Prop
  | un (v : V) : Ren base O v .un
  | b (x : Bool) : Ren base O (.b x) (.b x)
  | i (k : IntKind) (n : Int) : Ren base O (.i k n) (.i k n)
  | p (x : Value) : Ren base O (.p x) (.p x)
  | sl (es : Nat) (xs : List V) : Ren base O (.sl es xs) (.sl es xs)
  | ip (cs : List V) : Ren base O (.ip cs) (.ip cs)
  | rf {b b' : Nat} (es off ln : Nat) (h : Map base O b b') : Ren base O (.rf b es off ln) (.rf b' es off ln)
  | pt {b b' : Nat} (es i off : Nat) (h : Map base O b b') : Ren base O (.pt b es i off) (.pt b' es i off)
  | nl {k ty es : Nat} (h : O[k]? = some (none, ty, es)) : Ren base O (.nl ty es) (.rf (base + k) es 0 0)
  | ag {cs cs' : List V} (hl : cs'.length = cs.length) (h : ∀ (t : Nat) (c c' : V), cs[t]? = some c → cs'[t]? = some c' → Ren base O c c') : Ren base O (.ag cs) (.ag cs')
  | fn (f : Nat) {cs cs' : List V} (hl : cs'.length = cs.length) (h : ∀ (t : Nat) (c c' : V), cs[t]? = some c → cs'[t]? = some c' → Ren base O c c') : Ren base O (.fn f cs) (.fn f cs')

section
variable {base : Nat} {O : Olds}

theorem posOf_some {b : Nat} : ∀ {o : Olds} {j k : Nat}, posOf b o j = some k → j ≤ k ∧ ∃ ty es, o[k - j]? = some (some b, ty, es)
  | [], j, k, h => by cases h
  | (some b', ty, es) :: r, j, k, h => by
    unfold posOf at h
    cases hb : Nat.beq b b' with
    | true =>
      rw [hb] at h
      cases h
      rw [Nat.eq_of_beq_eq_true hb]
      exact ⟨Nat.le_refl _, ty, es, by simp⟩
    | false =>
      rw [hb] at h
      obtain ⟨h1, ty', es', h2⟩ := posOf_some h
      refine ⟨by omega, ty', es', ?_⟩
      rw [show k - j = (k - (j + 1)) + 1 by omega]
      simpa using h2
  | (none, ty, es) :: r, j, k, h => by
    unfold posOf at h
    obtain ⟨h1, ty', es', h2⟩ := posOf_some h
    refine ⟨by omega, ty', es', ?_⟩
    rw [show k - j = (k - (j + 1)) + 1 by omega]
    simpa using h2

theorem posOf_none {b : Nat} : ∀ {o : Olds} {j : Nat}, posOf b o j = none → ∀ (k ty es : Nat), o[k]? ≠ some (some b, ty, es)
  | [], j, _, k, ty, es, h => by simp at h
  | (some b', ty', es') :: r, j, hp, k, ty, es, h => by
    unfold posOf at hp
    cases hb : Nat.beq b b' with
    | true => rw [hb] at hp; cases hp
    | false =>
      rw [hb] at hp
      cases k with
      | zero =>
        simp at h
        rw [h.1, Nat.beq_refl] at hb
        cases hb
      | succ k => exact posOf_none hp k ty es (by simpa using h)
  | (none, ty', es') :: r, j, hp, k, ty, es, h => by
    unfold posOf at hp
    cases k with
    | zero => simp at h
    | succ k => exact posOf_none hp k ty es (by simpa using h)

/-- What a step of the renumbering keeps. -/
structure RStep (base : Nat) (o o' : Olds) : Prop where
  pre : Pre o o'
  good : GoodO base o → GoodO base o'

theorem RStep.refl (o : Olds) : RStep base o o := ⟨Pre.refl o, fun h => h⟩
theorem RStep.trans {a b c : Olds} (h : RStep base a b) (h' : RStep base b c) : RStep base a c := ⟨h.pre.trans h'.pre, fun g => h'.good (h.good g)⟩

theorem good_app {o : Olds} {q : Option Nat × Nat × Nat} (hg : GoodO base o) (hq : ∀ b, q.1 = some b → base ≤ b ∧ ∀ (k ty es : Nat), o[k]? ≠ some (some b, ty, es)) : GoodO base (o ++ [q]) := by
  intro k b ty es hk
  have hget : ∀ {k : Nat} {p : Option Nat × Nat × Nat}, (o ++ [q])[k]? = some p → o[k]? = some p ∨ (k = o.length ∧ p = q) := by
    intro k p h
    rcases Nat.lt_trichotomy k o.length with h' | h' | h'
    · rw [List.getElem?_append_left h'] at h; exact .inl h
    · subst h'; simp at h; exact .inr ⟨rfl, h.symm⟩
    · rw [List.getElem?_eq_none (by simp; omega)] at h; cases h
  rcases hget hk with h | ⟨h1, h2⟩
  · obtain ⟨g1, g2⟩ := hg k b ty es h
    refine ⟨g1, fun k' ty' es' hk' => ?_⟩
    rcases hget hk' with h' | ⟨h1', h2'⟩
    · exact g2 k' ty' es' h'
    · exact absurd h ((hq b (by rw [← h2'])).2 k ty es)
  · obtain ⟨g1, g2⟩ := hq b (by rw [← h2])
    refine ⟨g1, fun k' ty' es' hk' => ?_⟩
    rcases hget hk' with h' | ⟨h1', h2'⟩
    · exact absurd h' (g2 k' ty' es')
    · rw [h1, h1']

theorem cId_ok (b : Nat) (o : Olds) : RStep base o (cId base b o).2 ∧ (Pre (cId base b o).2 O → Map base O b (cId base b o).1) := by
  unfold cId
  cases hb : Nat.blt b base with
  | true =>
    simp only [cond_true]
    exact ⟨.refl o, fun _ => .inl ⟨by simpa [Nat.blt_eq] using hb, rfl⟩⟩
  | false =>
    simp only [cond_false]
    have hb' : base ≤ b := by
      rcases Nat.lt_or_ge b base with h | h
      · have : Nat.blt b base = true := by simpa [Nat.blt_eq] using h
        rw [hb] at this; cases this
      · exact h
    cases hp : posOf b o 0 with
    | some k =>
      obtain ⟨_, ty, es, h⟩ := posOf_some hp
      exact ⟨.refl o, fun hO => .inr ⟨k, ty, es, hO _ _ (by simpa using h), rfl⟩⟩
    | none =>
      refine ⟨⟨Pre.app _ _, fun g => good_app g fun b' hb'' => ?_⟩, fun hO => .inr ⟨o.length, 0, 0, hO _ _ (by simp), rfl⟩⟩
      cases hb''
      exact ⟨hb', posOf_none hp⟩

theorem cL_ok (v : V) (o : Olds) : RStep base o (cL base v o).2 ∧ (Pre (cL base v o).2 O → Ren base O v (cL base v o).1) := by
  cases v with
  | rf b es off ln => exact ⟨(cId_ok (O := O) b o).1, fun hO => .rf es off ln ((cId_ok b o).2 hO)⟩
  | pt b es i off => exact ⟨(cId_ok (O := O) b o).1, fun hO => .pt es i off ((cId_ok b o).2 hO)⟩
  | nl ty es => exact ⟨⟨Pre.app _ _, fun g => good_app g fun b hb => by cases hb⟩, fun hO => .nl (hO _ _ (List.getElem?_concat_length ..))⟩
  | un => exact ⟨.refl o, fun _ => .un _⟩
  | b x => exact ⟨.refl o, fun _ => .b _⟩
  | i k n => exact ⟨.refl o, fun _ => .i _ _⟩
  | p x => exact ⟨.refl o, fun _ => .p _⟩
  | ag cs => exact ⟨.refl o, fun _ => .un _⟩
  | tu cs => exact ⟨.refl o, fun _ => .un _⟩
  | sl es xs => exact ⟨.refl o, fun _ => .sl _ _⟩
  | ip cs => exact ⟨.refl o, fun _ => .ip _⟩
  | fn f cs => exact ⟨.refl o, fun _ => .un _⟩

theorem cLs_ok : ∀ (vs : List V) (o : Olds), RStep base o (cLs base vs o).2 ∧ (cLs base vs o).1.length = vs.length ∧ (Pre (cLs base vs o).2 O → ∀ (t : Nat) (c c' : V), vs[t]? = some c → (cLs base vs o).1[t]? = some c' → Ren base O c c')
  | [], o => ⟨.refl o, rfl, fun _ t c c' h => by simp at h⟩
  | v :: vs, o => by
    obtain ⟨h1, h2⟩ := cL_ok (base := base) (O := O) v o
    obtain ⟨h3, h4, h5⟩ := cLs_ok vs (cL base v o).2
    refine ⟨h1.trans h3, by simp [cLs, h4], fun hO t c c' hc hc' => ?_⟩
    cases t with
    | zero =>
      simp [cLs] at hc hc'
      subst hc; subst hc'
      exact h2 (h3.pre.trans hO)
    | succ t => exact h5 hO t c c' (by simpa using hc) (by simpa [cLs] using hc')

theorem cV_ok (v : V) (o : Olds) : RStep base o (cV base v o).2 ∧ (Pre (cV base v o).2 O → Ren base O v (cV base v o).1) ∧
    ((∀ cs, v ≠ .tu cs) → (cV base v o).1.cells.length = v.cells.length ∧ (Pre (cV base v o).2 O → ∀ (t : Nat) (c c' : V), v.cells[t]? = some c → (cV base v o).1.cells[t]? = some c' → Ren base O c c')) := by
  have one : ∀ {c v' : V} {t : Nat} {x y : V}, Ren base O c v' → [c][t]? = some x → [v'][t]? = some y → Ren base O x y := by
    intro c v' t x y h hx hy
    cases t with
    | zero => simp at hx hy; subst hx; subst hy; exact h
    | succ t => simp at hx
  cases v with
  | ag cs =>
    obtain ⟨h1, h2, h3⟩ := cLs_ok (base := base) (O := O) cs o
    exact ⟨h1, fun hO => .ag h2 (h3 hO), fun _ => ⟨h2, fun hO => h3 hO⟩⟩
  | fn f cs =>
    obtain ⟨h1, h2, h3⟩ := cLs_ok (base := base) (O := O) cs o
    exact ⟨h1, fun hO => .fn f h2 (h3 hO), fun _ => ⟨rfl, fun hO t c c' hc hc' => one (.fn f h2 (h3 hO)) hc hc'⟩⟩
  | tu cs => exact ⟨.refl o, fun _ => .un _, fun h => absurd rfl (h cs)⟩
  | un => exact ⟨.refl o, fun _ => .un _, fun _ => ⟨rfl, fun _ t c c' hc _ => by simp [V.cells] at hc⟩⟩
  | rf b es off ln => exact ⟨(cL_ok (O := O) (.rf b es off ln) o).1, (cL_ok (.rf b es off ln) o).2, fun _ => ⟨rfl, fun hO t c c' hc hc' => one ((cL_ok (.rf b es off ln) o).2 hO) hc hc'⟩⟩
  | pt b es i off => exact ⟨(cL_ok (O := O) (.pt b es i off) o).1, (cL_ok (.pt b es i off) o).2, fun _ => ⟨rfl, fun hO t c c' hc hc' => one ((cL_ok (.pt b es i off) o).2 hO) hc hc'⟩⟩
  | nl ty es => exact ⟨(cL_ok (O := O) (.nl ty es) o).1, (cL_ok (.nl ty es) o).2, fun _ => ⟨rfl, fun hO t c c' hc hc' => one ((cL_ok (.nl ty es) o).2 hO) hc hc'⟩⟩
  | b x => exact ⟨.refl o, fun _ => .b _, fun _ => ⟨rfl, fun _ t c c' hc hc' => one (.b _) hc hc'⟩⟩
  | i k n => exact ⟨.refl o, fun _ => .i _ _, fun _ => ⟨rfl, fun _ t c c' hc hc' => one (.i _ _) hc hc'⟩⟩
  | p x => exact ⟨.refl o, fun _ => .p _, fun _ => ⟨rfl, fun _ t c c' hc hc' => one (.p _) hc hc'⟩⟩
  | sl es xs => exact ⟨.refl o, fun _ => .sl _ _, fun _ => ⟨rfl, fun _ t c c' hc hc' => one (.sl _ _) hc hc'⟩⟩
  | ip cs => exact ⟨.refl o, fun _ => .ip _, fun _ => ⟨rfl, fun _ t c c' hc hc' => one (.ip _) hc hc'⟩⟩

theorem cEnv_ok {τ : Env} : ∀ (ts : List Nat) (o : Olds), RStep base o (cEnv base τ ts o).2 ∧ (Pre (cEnv base τ ts o).2 O → ∀ t, look (cEnv base τ ts o).1 t = .un ∨ Ren base O (look τ t) (look (cEnv base τ ts o).1 t))
  | [], o => ⟨.refl o, fun _ t => .inl rfl⟩
  | t' :: ts, o => by
    obtain ⟨h1, h2, _⟩ := cV_ok (base := base) (O := O) (look τ t') o
    obtain ⟨h3, h4⟩ := cEnv_ok (τ := τ) ts (cV base (look τ t') o).2
    refine ⟨h1.trans h3, fun hO t => ?_⟩
    have := look_put (cEnv base τ ts (cV base (look τ t') o).2).1 (some t') (cV base (look τ t') o).1 t
    simp only [put] at this
    unfold cEnv
    rw [this]
    split
    · rename_i h
      cases h
      exact .inr (h2 (h3.pre.trans hO))
    · exact h4 hO t

/-- A row, a box, renumbered. -/
inductive BRen (base : Nat) (O : Olds) : Option Blk → Option Blk → Prop
  | none : BRen base O none none
  | row (ty es : Nat) (sc : Bool) (xs : List V) : BRen base O (some (.row ty es sc xs)) (some (.row ty es sc xs))
  | box (ty es : Nat) {v v' : V} (hl : (∀ cs, v ≠ .tu cs) → v'.cells.length = v.cells.length) (h : (∀ cs, v ≠ .tu cs) → ∀ (t : Nat) (c c' : V), v.cells[t]? = some c → v'.cells[t]? = some c' → Ren base O c c') : BRen base O (some (.box ty es v)) (some (.box ty es v'))

theorem cBlk_ok (B : Option Blk) (o : Olds) : RStep base o (cBlk base B o).2 ∧ (Pre (cBlk base B o).2 O → BRen base O B (cBlk base B o).1) := by
  cases B with
  | none => exact ⟨.refl o, fun _ => .none⟩
  | some B =>
    cases B with
    | row ty es sc xs => exact ⟨.refl o, fun _ => .row ty es sc xs⟩
    | box ty es v =>
      obtain ⟨h1, _, h3⟩ := cV_ok (base := base) (O := O) v o
      exact ⟨h1, fun hO => .box ty es (fun h => (h3 h).1) fun h => (h3 h).2 hO⟩

theorem cBlks_ok : ∀ (Bs : Hp) (o : Olds), RStep base o (cBlks base Bs o).2 ∧ (cBlks base Bs o).1.length = Bs.length ∧ (Pre (cBlks base Bs o).2 O → ∀ (j : Nat) (B B' : Option Blk), Bs[j]? = some B → (cBlks base Bs o).1[j]? = some B' → BRen base O B B')
  | [], o => ⟨.refl o, rfl, fun _ j B B' h => by simp at h⟩
  | B :: Bs, o => by
    obtain ⟨h1, h2⟩ := cBlk_ok (base := base) (O := O) B o
    obtain ⟨h3, h4, h5⟩ := cBlks_ok Bs (cBlk base B o).2
    refine ⟨h1.trans h3, by simp [cBlks, h4], fun hO j C C' hc hc' => ?_⟩
    cases j with
    | zero =>
      simp [cBlks] at hc hc'
      subst hc; subst hc'
      exact h2 (h3.pre.trans hO)
    | succ j => exact h5 hO j C C' (by simpa using hc) (by simpa [cBlks] using hc')

theorem cNew_ok {H : Hp} : ∀ (n k : Nat) (o : Olds), RStep base o (cNew base H n k o).2 ∧ (Pre (cNew base H n k o).2 O → ∀ (j : Nat) (B' : Option Blk), (cNew base H n k o).1[j]? = some B' → ∃ q, O[k + j]? = some q ∧ BRen base O (oldBlk H q) B')
  | 0, k, o => ⟨.refl o, fun _ j B' h => by simp [cNew] at h⟩
  | n + 1, k, o => by
    unfold cNew
    cases hq : o[k]? with
    | none => exact ⟨.refl o, fun _ j B' h => by simp at h⟩
    | some q =>
      simp only
      obtain ⟨h1, h2⟩ := cBlk_ok (base := base) (O := O) (oldBlk H q) o
      obtain ⟨h3, h4⟩ := cNew_ok (H := H) n (k + 1) (cBlk base (oldBlk H q) o).2
      refine ⟨h1.trans h3, fun hO j B' hj => ?_⟩
      cases j with
      | zero =>
        simp at hj
        subst hj
        exact ⟨q, (h1.pre.trans (h3.pre.trans hO)) k q hq, h2 (h3.pre.trans hO)⟩
      | succ j =>
        obtain ⟨q', hq', hb⟩ := h4 hO j B' (by simpa using hj)
        exact ⟨q', by rw [← hq']; congr 1; omega, hb⟩
end
end Go.Proofs.YtgamkmgdbfeigaaM
