/- From the machine to a law's row. -/
import Derived.Test.YtgamkmgdbfeigaaM20
import Derived.Below
namespace Go.Proofs.YtgamkmgdbfeigaaM
open Go Go.RowKit

section
variable {P : Program} {F : Nat → Option Fn} {X : Contracts}

theorem noRho_alive (k : Nat) : ¬ aliveB noRho k := by
  rintro ⟨b, v, ty, es, h, _⟩
  cases h

theorem noRho_inv (w : World) : Inv (fun _ => True) w noRho (hget []) :=
  ⟨fun b b' v v' ty ty' es es' k h => (by cases h), fun b h => (by cases h), fun b v ty es h => (by cases h), fun _ _ => trivial, fun _ _ => trivial⟩

theorem frR_true {H : Hp} {v : V} (h : frR H v = .b true) : v = .b true := by
  cases v <;> simp only [frR, frz, frL, reduceCtorEq] at h
  · exact h
  · split at h
    · rename_i ty es' sc xs hB
      revert h
      cases Nat.beq _ es' <;> intro h <;> cases h
    · cases h
  · split at h
    · rename_i ty es' v hB
      revert h
      cases (Nat.beq _ es' && (Nat.beq _ 0 && v.scal)) <;> intro h <;> cases h
    · cases h

/-- A law's function that answers with true. -/
theorem ret_calls (hm : P.follows .mixedOrders = true) (hF : Reads P F) (hX : ∀ f xs H R, X f xs H R → FnOK P f xs H R) {f : Nat} {xs : List V} (h : Ret F X f xs (.b true)) (vs : List Value) (W : World) (hl : vs.length = xs.length)
    (hr : ∀ (t : Nat) (x : V) (v : Value), xs[t]? = some x → vs[t]? = some v → Rep W (fun k => k < W.heap.size) noRho x v) : Calls P f vs.toArray W fun e w' => e = .returned (.bool true) ∧ Below W.heap.size W w' := by
  obtain ⟨_, h2⟩ : FnOK P f xs [] fun r H' => frR H' r = .b true ∧ frsR H' r = true := J.sound hm hF hX h
  refine (h2 (fun _ => True) W noRho vs (noRho_inv W) (fun _ _ => rfl) hl fun t x v hx hv => (hr t x v hx hv).mono (fun k hk => ⟨trivial, hk, noRho_alive k⟩) (fun _ _ => rfl) (rhoLe.refl _)).mono ?_
  rintro e w' ⟨v, r, H', ρ', rfl, ⟨hR, _⟩, hrep, hE, _⟩
  have := frR_true hR
  subst this
  have hv : v = .bool true := hrep.bool
  subst hv
  exact ⟨rfl, hE.os, hE.tape, hE.output, hE.size, fun k hk => hE.heap k hk (noRho_alive k)⟩

/-- A function of the library, whose contract is given: it answers with a value made of scalars, and leaves all as it was. -/
theorem FnOK.lib {f : Nat} {xs : List V} {H : Hp} {r : V} {y : Value} (hc : callable P f) (hr : ∀ (w : World) (ok : Nat → Prop) (ρ : Rho), Rep w ok ρ r y)
    (hx : ∀ (w : World) (ok : Nat → Prop) (ρ : Rho) (vs : List Value), vs.length = xs.length → (∀ (t : Nat) (x : V) (v : Value), xs[t]? = some x → vs[t]? = some v → Rep w ok ρ x v) → Calls P f vs.toArray w fun e w' => e = .returned y ∧ w' = w) :
    FnOK P f xs H fun v H' => v = r ∧ H' = H := by
  refine ⟨hc, fun imm w ρ vs hI hf hl hrep => (hx w _ ρ vs hl hrep).mono ?_⟩
  rintro e w' ⟨rfl, rfl⟩
  exact ⟨y, r, H, ρ, rfl, ⟨rfl, rfl⟩, hr _ _ _, Ext.refl _ _, hI, hf, Nat.le_refl _, fun _ _ h => h⟩
end
end Go.Proofs.YtgamkmgdbfeigaaM
