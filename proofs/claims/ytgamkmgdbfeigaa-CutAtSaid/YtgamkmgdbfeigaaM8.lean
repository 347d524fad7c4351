/- What the machine's judgements say of the program: a single operation. -/
import Derived.Test.YtgamkmgdbfeigaaM7
namespace Go.Proofs.YtgamkmgdbfeigaaM
open Go Go.RowKit

/-- Does an operation touch all of memory (a call that is handed it)? -/
def O.all : O → Bool
  | .call _ byref _ _ => byref
  | .callv _ byref _ _ => byref
  | _ => false

/-- An operation, said of the program. -/
def StpOK (P : Program) (o : O) (τ : Env) (H : Hp) (v : V) (H' : Hp) : Prop :=
  ∀ (o' : Oper), trO P o' = some o.norm → ∀ (imm : Nat → Prop) (w : World) (ρ : Rho) (η : Nat → Option Blk) (a : Act) (next : Act → World → Prop) (Q : Exit → Act → World → Prop), Inv imm w ρ η →
    (∀ n ∈ o.tmps, Rep w (okB imm w ρ) ρ (look τ n) (a.tmps.getD n undef)) → (∀ b ∈ o.touch τ H, η b = hget H b) → (∀ b, H.length ≤ b → b < H'.length → ρ b = none) →
    (o.all = true → (∀ b, H.length ≤ b → ρ b = none) ∧ ∀ b, η b = hget H b) →
    (∀ x w' ρ', Rep w' (okB imm w' ρ') ρ' v x → Ext w ρ w' ρ' → Inv imm w' ρ' (upd (o.writes τ H) η H H') → (∀ b, ρ b = none → ρ' b ≠ none → H.length ≤ b ∧ b < H'.length) → next (a.put o'.dst x) w') →
    o'.wp P a w next Q

section
variable {P : Program}

theorem StepTo.wp {imm : Nat → Prop} {w w' : World} {ρ ρ' : Rho} {η' : Nat → Option Blk} {o' : Oper} {a : Act} {v : V} {lo hi : Nat} {x : Value} {next : Act → World → Prop} {Q : Exit → Act → World → Prop} (h : StepTo P imm o' a w ρ v lo hi η' x w' ρ') (hn : next (a.put o'.dst x) w') : o'.wp P a w next Q := by
  unfold Oper.wp
  rcases h.run with hr | ⟨hr, rfl⟩
  · rw [hr]; exact hn
  · rw [hr]; exact hn

theorem norm_pure {o : O} (h : o.isPure = true) : o.norm = o := by cases o <;> first | rfl | cases h

theorem tmps_norm (o : O) : o.norm.tmps = o.tmps := by cases o <;> rfl

def opTag : Op → Nat
  | .alloc _ => 1
  | .box _ _ => 1
  | .buildSlice _ _ _ => 2
  | .load _ _ => 3
  | .store _ _ _ => 4
  | .makeSlice _ _ _ => 5
  | .call c => match c.callee with
    | .builtin .append => 6
    | .builtin .copy => 7
    | .value (.func _) => 8
    | .value (.tmp _) => 9
    | _ => 0
  | _ => 0

def oTag : O → Nat
  | .box _ _ _ => 1
  | .bsl _ _ _ _ => 2
  | .ld _ _ _ => 3
  | .st _ _ _ _ => 4
  | .mks _ _ _ _ _ _ => 5
  | .app _ _ _ _ _ => 6
  | .cpy _ _ _ => 7
  | .call _ _ _ _ => 8
  | .callv _ _ _ _ => 9
  | _ => 0

theorem ifS {α : Type} {b : Bool} {x : Option α} {y : α} (h : (bif b then x else none) = some y) : x = some y := by
  cases b with
  | false => cases h
  | true => exact h

theorem ifN {α : Type} {b : Bool} {x : Option α} {y : α} (h : (bif b then none else x) = some y) : x = some y := by
  cases b with
  | false => exact h
  | true => cases h

theorem tag_ok {o' : Oper} {o : O} (ht : trO P o' = some o) : opTag o'.op = oTag o := by
  unfold trO at ht
  cases hop : o'.op <;> simp only [hop] at ht
  case binOp op t x y yt =>
    cases hi : isIntT P t with
    | true =>
      rw [hi] at ht
      obtain ⟨_, _, ht⟩ := bindS ht
      obtain ⟨_, _, rfl⟩ := mapS ht
      rfl
    | false =>
      rw [hi] at ht
      simp only [cond_false] at ht
      cases op <;> simp only at ht <;> first | (cases ht; done) | (obtain ⟨_, _, ht⟩ := bindS ht; obtain ⟨_, _, ht⟩ := bindS ht; have ht := ifN ht; obtain ⟨_, _, ht⟩ := bindS ht; obtain ⟨_, _, rfl⟩ := mapS ht; rfl)
  case makeFunc fn first caps =>
    cases fn <;> simp only at ht <;> try (cases ht; done)
    have ht := ifS ht
    obtain ⟨_, _, rfl⟩ := mapS ht
    rfl
  case slice t x lo hi mx =>
    cases mx <;> simp only at ht <;> try (cases ht; done)
    obtain ⟨_, _, ht⟩ := bindS ht
    obtain ⟨_, _, ht⟩ := bindS ht
    obtain ⟨_, _, ht⟩ := bindS ht
    obtain ⟨_, _, ht⟩ := bindS ht
    obtain ⟨_, _, rfl⟩ := mapS ht
    rfl
  case call c =>
    cases hc : c.callee with
    | value f =>
      simp only [hc] at ht
      cases f <;> simp only at ht <;> first | (cases ht; done) | (obtain ⟨l, hl, rfl⟩ := mapS ht; simp only [opTag, hc]; rfl)
    | invoke r m => simp only [hc] at ht; cases ht
    | builtin b =>
      simp only [hc] at ht
      cases b <;> simp only at ht <;> try (cases ht; done)
      case append =>
        split at ht
        · have ht := ifS ht
          obtain ⟨_, _, ht⟩ := bindS ht
          obtain ⟨_, _, ht⟩ := bindS ht
          obtain ⟨_, _, ht⟩ := bindS ht
          have ht := ifS ht
          obtain ⟨_, _, ht⟩ := bindS ht
          obtain ⟨_, _, rfl⟩ := mapS ht
          simp only [opTag, hc]; rfl
        · cases ht
      case copy =>
        split at ht
        · obtain ⟨_, _, ht⟩ := bindS ht
          obtain ⟨_, _, ht⟩ := bindS ht
          obtain ⟨_, _, ht⟩ := bindS ht
          obtain ⟨_, _, rfl⟩ := mapS ht
          simp only [opTag, hc]; rfl
        · cases ht
      all_goals
        split at ht
        · obtain ⟨_, _, ht⟩ := bindS ht
          obtain ⟨_, _, rfl⟩ := mapS ht
          simp only [opTag, hc]; rfl
        · cases ht
  case indexAddr t x i =>
    split at ht
    · obtain ⟨_, _, ht⟩ := bindS ht
      obtain ⟨_, _, ht⟩ := bindS ht
      obtain ⟨_, _, rfl⟩ := mapS ht
      rfl
    · have ht := ifN ht
      obtain ⟨_, _, ht⟩ := bindS ht
      obtain ⟨_, _, ht⟩ := bindS ht
      obtain ⟨_, _, rfl⟩ := mapS ht
      rfl
    · cases ht
  case index t x i =>
    split at ht
    · obtain ⟨_, _, ht⟩ := bindS ht
      obtain ⟨_, _, ht⟩ := bindS ht
      obtain ⟨_, _, ht⟩ := bindS ht
      obtain ⟨_, _, rfl⟩ := mapS ht
      rfl
    · cases ht
  case convert s d x =>
    split at ht
    · obtain ⟨_, _, rfl⟩ := mapS ht
      rfl
    · cases ht
  case build t parts =>
    obtain ⟨_, _, ht⟩ := bindS ht
    split at ht
    · obtain ⟨_, _, ht⟩ := bindS ht
      obtain ⟨_, _, rfl⟩ := mapS ht
      rfl
    · obtain ⟨_, _, ht⟩ := bindS ht
      obtain ⟨_, _, rfl⟩ := mapS ht
      rfl
    · cases ht
  case buildSlice t n parts =>
    obtain ⟨_, _, ht⟩ := bindS ht
    obtain ⟨_, _, ht⟩ := bindS ht
    have ht := ifS ht
    obtain ⟨_, _, rfl⟩ := mapS ht
    rfl
  case makeSlice t l c =>
    obtain ⟨_, _, ht⟩ := bindS ht
    obtain ⟨_, _, ht⟩ := bindS ht
    obtain ⟨_, _, ht⟩ := bindS ht
    obtain ⟨_, _, ht⟩ := bindS ht
    have ht := ifS ht
    obtain ⟨_, _, ht⟩ := bindS ht
    obtain ⟨_, _, rfl⟩ := mapS ht
    rfl
  all_goals first
    | (cases ht; done)
    | (obtain ⟨_, _, rfl⟩ := mapS ht; rfl)
    | (obtain ⟨_, _, ht⟩ := bindS ht; obtain ⟨_, _, rfl⟩ := mapS ht; rfl)
    | (obtain ⟨_, _, ht⟩ := bindS ht; obtain ⟨_, _, ht⟩ := bindS ht; obtain ⟨_, _, rfl⟩ := mapS ht; rfl)
    | (obtain ⟨_, _, ht⟩ := bindS ht; obtain ⟨_, _, ht⟩ := bindS ht; obtain ⟨_, _, ht⟩ := bindS ht; obtain ⟨_, _, rfl⟩ := mapS ht; rfl)

theorem evP_ok {o : O} {τ : Env} {H H' : Hp} {v : V} (he : o.evP τ H = some (v, H')) : StpOK P o τ H v H' := by
  intro o' ht imm w ρ η a next Q hI hr hp hn _ hnext
  by_cases hk : o.isPure = true
  · rw [norm_pure hk] at ht
    obtain ⟨rfl, x, hx, hrep⟩ := pure_step (w := w) (ok := okB imm w ρ) (ρ := ρ) ht hk he hr
    have hw : o.writes τ H' = [] := by cases o <;> first | rfl | cases hk
    unfold Oper.wp
    rw [hx]
    refine hnext x w ρ hrep (Ext.refl _ _) ?_ fun b h1 h2 => absurd h1 h2
    rw [hw, upd_nil]
    exact hI
  · have ht0 := ht
    cases o with
    | box ty es x =>
      have hop : (∃ e, o'.op = .alloc e) ∨ ∃ e x, o'.op = .box e x := by
        have := tag_ok ht
        cases hop : o'.op <;> rw [hop] at this <;> first | (exact .inl ⟨_, rfl⟩) | (exact .inr ⟨_, _, rfl⟩) | (cases this; done) | (simp only [opTag] at this; split at this <;> cases this)
      obtain ⟨y, w', ρ', h⟩ := box_step hI hop ht he hr hn
      exact h.wp (hnext _ _ _ h.rep h.ext h.inv h.new)
    | bsl nk ty es ps =>
      obtain ⟨t, n, parts, hop⟩ : ∃ t n parts, o'.op = .buildSlice t n parts := by
        have := tag_ok ht
        cases hop : o'.op <;> rw [hop] at this <;> first | (exact ⟨_, _, _, rfl⟩) | (cases this; done) | (simp only [opTag] at this; split at this <;> cases this)
      obtain ⟨y, w', ρ', h⟩ := bsl_step hI hop ht he hr hp hn
      exact h.wp (hnext _ _ _ h.rep h.ext h.inv h.new)
    | ld g sz x =>
      obtain ⟨t, pl, hop⟩ : ∃ t pl, o'.op = .load t pl := by
        have := tag_ok ht
        cases hop : o'.op <;> rw [hop] at this <;> first | (exact ⟨_, _, rfl⟩) | (cases this; done) | (simp only [opTag] at this; split at this <;> cases this)
      obtain ⟨rfl, y, h⟩ := ld_step hI hop ht he hr hp
      exact h.wp (hnext _ _ _ h.rep h.ext h.inv h.new)
    | st nk sz x y =>
      obtain ⟨t, pl, va, hop⟩ : ∃ t pl va, o'.op = .store t pl va := by
        have := tag_ok ht
        cases hop : o'.op <;> rw [hop] at this <;> first | (exact ⟨_, _, _, rfl⟩) | (cases this; done) | (simp only [opTag] at this; split at this <;> cases this)
      obtain ⟨z, w', ρ', h⟩ := st_step hI hop ht he hr hp
      exact h.wp (hnext _ _ _ h.rep h.ext h.inv h.new)
    | app ty es by_ s x =>
      obtain ⟨c, hop, hc⟩ : ∃ c, o'.op = .call c ∧ c.callee = .builtin .append := by
        have := tag_ok ht
        cases hop : o'.op <;> rw [hop] at this <;> first | (cases this; done) | skip
        rename_i c
        refine ⟨c, rfl, ?_⟩
        simp only [opTag] at this
        split at this <;> first | (cases this; done) | assumption
      obtain ⟨z, w', ρ', h⟩ := app_step hI hop hc ht he hr hp hn
      exact h.wp (hnext _ _ _ h.rep h.ext h.inv h.new)
    | mks ty es by_ z l c =>
      obtain ⟨t, lo, co, hop⟩ : ∃ t lo co, o'.op = .makeSlice t lo co := by
        have := tag_ok ht
        cases hop : o'.op <;> rw [hop] at this <;> first | (exact ⟨_, _, _, rfl⟩) | (cases this; done) | (simp only [opTag] at this; split at this <;> cases this)
      obtain ⟨y, w', ρ', h⟩ := mks_step hI hop ht he hr hn
      exact h.wp (hnext _ _ _ h.rep h.ext h.inv h.new)
    | cpy es d s => cases he
    | call nk br f xs => cases he
    | callv nk br g xs => cases he
    | _ => first | exact absurd rfl hk | cases he
end

end Go.Proofs.YtgamkmgdbfeigaaM
