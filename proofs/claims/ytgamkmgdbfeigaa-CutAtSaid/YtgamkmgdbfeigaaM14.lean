/- A region's run in the machine, as a row of operations. -/
import Derived.Test.YtgamkmgdbfeigaaM13
namespace Go.Proofs.YtgamkmgdbfeigaaM
open Go Go.RowKit

theorem some_pair {α β : Type} {p : Option α} {f : α → β} {H H' : Hp} {v : β} (h : (p.map fun x => (f x, H)) = some (v, H')) : H' = H := by
  cases p with
  | none => cases h
  | some x => cases h; rfl

theorem pure_same {o : O} {τ : Env} {H H' : Hp} {v : V} (he : o.evP τ H = some (v, H')) (hp : o.isPure = true) : H' = H := by
  cases o <;> first | (cases hp; done) | skip
  all_goals simp only [O.evP] at he
  case mov => cases he; rfl
  case pick => split at he <;> first | (cases he; done) | (cases he; rfl)
  case bld => exact some_pair (f := fun cs => V.ag cs) he
  case bin => exact some_pair (f := fun v => v) he
  case eq => 
    obtain ⟨_, _, he⟩ := bindS he
    obtain ⟨_, _, he⟩ := bindS he
    obtain ⟨_, _, he⟩ := mapS he
    cases he; rfl
  case un => exact some_pair (f := fun v => v) he
  case cv => split at he <;> first | (cases he; done) | (cases he; rfl)
  case fa => split at he <;> first | (cases he; done) | (cases he; rfl)
  case fld => 
    split at he
    · exact some_pair (f := fun v => v) he
    · cases he
  case ia =>
    split at he
    · rename_i b es' off ln k n _ _
      cases hb : Nat.beq _ es' with
      | false => rw [hb] at he; cases he
      | true =>
        rw [hb] at he
        simp only [cond_true] at he
        split at he
        · cases he; rfl
        · cases he
    · rename_i es' xs k n _ _
      cases hb : Nat.beq _ es' with
      | false => rw [hb] at he; cases he
      | true =>
        rw [hb] at he
        simp only [cond_true] at he
        split at he
        · obtain ⟨_, _, he⟩ := mapS he
          cases he; rfl
        · cases he
    · cases he
  case iaa =>
    split at he
    · split at he
      · cases he; rfl
      · cases he
    · split at he
      · cases he; rfl
      · cases he
    · cases he
  case ix =>
    split at he
    · split at he
      · exact some_pair (f := fun v => v) he
      · cases he
    · cases he
  case sub =>
    split at he
    · obtain ⟨_, _, he⟩ := bindS he
      obtain ⟨_, _, he⟩ := bindS he
      split at he
      · cases he; rfl
      · cases he
    · obtain ⟨_, _, he⟩ := bindS he
      obtain ⟨_, _, he⟩ := bindS he
      split at he
      · cases he; rfl
      · cases he
    · cases he
  case ext =>
    split at he
    · exact some_pair (f := fun v => v) he
    · cases he
  case mf => cases he; rfl
  case len => split at he <;> first | (cases he; done) | (cases he; rfl)
  case mm =>
    split at he
    · rename_i k a k' c _ _
      cases hd : decide (k = k') with
      | false => rw [hd] at he; cases he
      | true => rw [hd] at he; simp only [cond_true] at he; cases he; rfl
    · cases he
  case nck => split at he <;> first | (cases he; done) | (cases he; rfl)

theorem hget_app {H E : Hp} {b : Nat} (hb : b < H.length) : hget (H ++ E) b = hget H b := by
  unfold hget
  rw [List.getElem?_append_left hb]

theorem condS {c : Bool} {α : Type} {x : Option α} {y : α} (h : (bif c then x else none) = some y) : c = true ∧ x = some y := by
  cases c with
  | false => cases h
  | true => exact ⟨rfl, h⟩

theorem evP_bad {o : O} {τ : Env} {H H' : Hp} {v : V} (he : o.evP τ H = some (v, H')) : o.isBad = false := by
  cases o <;> first | rfl | cases he

/-- What an operation leaves alone. -/
theorem evP_facts {o : O} {τ : Env} {H H' : Hp} {v : V} (he : o.evP τ H = some (v, H')) : H.length ≤ H'.length ∧ (∀ b, b < H.length → b ∉ o.writes τ H → hget H' b = hget H b) ∧ o.nkOk τ ∧ (o.isPure = true → H' = H) := by
  by_cases hp : o.isPure = true
  · have := pure_same he hp
    subst this
    refine ⟨Nat.le_refl _, fun _ _ _ => rfl, ?_, fun _ => rfl⟩
    cases o <;> first | (cases hp; done) | trivial
  · refine (fun h => ⟨h.1, h.2.1, h.2.2, fun h => absurd h hp⟩ : (H.length ≤ H'.length ∧ (∀ b, b < H.length → b ∉ o.writes τ H → hget H' b = hget H b) ∧ o.nkOk τ) → _) ?_
    cases o <;> first | (exact absurd rfl hp) | skip
    all_goals simp only [O.evP] at he
    case box ty es x =>
      obtain ⟨_, he⟩ := condS he
      cases he
      exact ⟨by simp, fun b hb _ => hget_app hb, trivial⟩
    case bsl nk ty es ps =>
      obtain ⟨hc, he⟩ := condS he
      cases he
      refine ⟨by simp [killH_length], fun b hb hw => ?_, ?_⟩
      · rw [hget_app (by rw [killH_length]; exact hb), hget_kill]
        exact if_neg hw
      · simp only [Bool.and_eq_true, Bool.or_eq_true, Bool.not_eq_true'] at hc
        cases nk with
        | false => trivial
        | true => exact List.isEmpty_iff.1 (hc.2.resolve_left (by simp))
    case ld g sz x =>
      have hh : H' = H := by
        split at he
        · split at he
          · obtain ⟨_, he⟩ := condS he
            obtain ⟨_, _, he⟩ := bindS he
            exact some_pair (f := fun v => v) he
          · obtain ⟨_, he⟩ := condS he
            exact some_pair (f := fun v => v) he
          · cases he
        · exact some_pair (f := fun v => v) he
        · cases he
      subst hh
      exact ⟨Nat.le_refl _, fun _ _ _ => rfl, trivial⟩
    case st nk sz a x =>
      split at he
      · rename_i b es' i off ha
        obtain ⟨_, he⟩ := condS he
        split at he
        · obtain ⟨_, _, he⟩ := bindS he
          obtain ⟨hc, he⟩ := condS he
          cases he
          refine ⟨by simp [killH_length], fun k hk hw => ?_, ?_⟩
          · have hw' : k ≠ b ∧ k ∉ (x.ev τ).ids := by
              simp only [O.writes, O.touch, ha, V.tid, List.mem_append, List.mem_singleton, not_or] at hw
              exact hw
            unfold hget
            rw [List.getElem?_set_ne (fun h => hw'.1 h.symm)]
            have := hget_kill (x.ev τ).ids H k
            unfold hget at this
            rw [this, if_neg hw'.2]
          · simp only [Bool.and_eq_true, Bool.or_eq_true, Bool.not_eq_true'] at hc
            cases nk with
            | false => trivial
            | true => exact List.isEmpty_iff.1 (hc.2.resolve_left (by simp))
        · obtain ⟨hc, he⟩ := condS he
          cases he
          refine ⟨by simp, fun k hk hw => ?_, ?_⟩
          · have hw' : k ≠ b := by
              simp only [O.writes, O.touch, ha, V.tid, List.mem_append, List.mem_singleton, not_or] at hw
              exact hw.1
            unfold hget
            rw [List.getElem?_set_ne (fun h => hw' h.symm)]
          · simp only [Bool.and_eq_true, Bool.or_eq_true, Bool.not_eq_true'] at hc
            cases nk with
            | false => trivial
            | true => exact List.isEmpty_iff.1 (hc.2.resolve_left (by simp))
        · cases he
      · cases he
    case call => cases he
    case callv => cases he
    case app ty es by_ s x =>
      obtain ⟨ys, _, he⟩ := bindS he
      split at he
      · split at he
        · cases he
          exact ⟨by simp, fun b hb _ => hget_app hb, trivial⟩
        · cases he
      · rename_i b es'' off ln hs
        split at he
        · obtain ⟨_, he⟩ := condS he
          split at he
          · cases he
            refine ⟨by simp, fun k hk hw => ?_, trivial⟩
            have hw' : k ≠ b := by
              simp only [O.writes, hs, V.tid, List.mem_singleton] at hw
              exact hw
            rw [hget_app (by simpa using hk), hget_set_none, if_neg hw']
          · cases he
        · cases he
      · cases he
    case mks ty es by_ z l c =>
      split at he
      · split at he
        · cases he
          exact ⟨by simp, fun b hb _ => hget_app hb, trivial⟩
        · cases he
      · cases he
    case cpy => cases he
    case bad => cases he
end Go.Proofs.YtgamkmgdbfeigaaM
