/- The evaluator's answers are so. -/
import Derived.Test.YtgamkmgdbfeigaaM24
namespace Go.Proofs.YtgamkmgdbfeigaaM
open Go Go.RowKit
section
variable {F : Nat → Option Fn} {X : Contracts}

theorem frsR_of {cal : Cal} (hc : CalOk F X cal) {f : Nat} {xs : List V} {r : V} {H' : Hp} (h : cal f xs [] = some (r, H')) (fr : Bool) (hf : fr = true → frsR H' r = true) : J F X (.fn f xs [] fun r1 H1 => frR H1 r1 = frR H' r ∧ (fr = true → frsR H1 r1 = true)) :=
  J.mono (hc _ _ _ _ _ h) fun _ _ ⟨h1, h2⟩ => by subst h1; subst h2; exact ⟨rfl, hf⟩

theorem evO_ok {cal : Cal} (hc : CalOk F X cal) {o : O} {τ : Env} {H : Hp} {v : V} {H' : Hp} {g : Option Hp} (h : evO cal o τ H = some (v, H', g)) :
    J F X (.stp o τ H v H') ∧ ((o.touch τ H).all fun b => Nat.blt b H.length) = true ∧ ∀ E, g = some E → H' = H ++ E := by
  have hp : ∀ {o : O}, (bif (o.touch τ H).all (fun b => Nat.blt b H.length) then (o.evP τ H).map fun q => (q.1, q.2, grown o τ H q.2) else none) = some (v, H', g) → J F X (.stp o τ H v H') ∧ ((o.touch τ H).all fun b => Nat.blt b H.length) = true ∧ ∀ E, g = some E → H' = H ++ E := by
    intro o h
    obtain ⟨h1, h⟩ := condS h
    rw [Option.map_eq_some_iff] at h
    obtain ⟨⟨v1, H1⟩, h2, h3⟩ := h
    cases h3
    exact ⟨.pure h2, h1, fun E hE => grown_ok h2 hE⟩
  have hrange : ((List.range H.length).all fun b => Nat.blt b H.length) = true := List.all_eq_true.2 fun b hb => by simpa [Nat.blt_eq] using hb
  cases o <;> try exact hp h
  case call nk byref f xs =>
    cases byref with
    | false =>
      simp only [evO] at h
      obtain ⟨ht, h⟩ := condS h
      split at h
      · rename_i r H1 hcal
        cases hfr : frsR H1 r with
        | true =>
          rw [hfr, cond_true] at h
          cases h
          exact ⟨J.call (nk := nk) true (frsR_of hc hcal true fun _ => hfr) (by cases nk <;> rfl), ht, fun E hE => by cases hE; simp⟩
        | false =>
          rw [hfr, cond_false] at h
          cases hids : (xs.flatMap fun x => (x.ev τ).ids).isEmpty with
          | true =>
            rw [hids, cond_true] at h
            cases h
            have e : H = (bif false then H else killH H (xs.flatMap fun x => (x.ev τ).ids)) := by rw [List.isEmpty_iff.1 hids]; rfl
            refine ⟨?_, ht, fun E hE => by cases hE; simp⟩
            have := J.call (F := F) (X := X) (nk := nk) (H := H) (τ := τ) (xs := xs) false (frsR_of hc hcal false fun h => by cases h) (by cases nk <;> simp [hids])
            rwa [← e] at this
          | false =>
            rw [hids, cond_false] at h
            cases nk with
            | true => cases h
            | false =>
              cases h
              exact ⟨J.call (nk := false) false (frsR_of hc hcal false fun h => by cases h) rfl, ht, fun E hE => by cases hE⟩
      · cases h
    | true =>
      simp only [evO] at h
      split at h
      · rename_i r H1 hcal
        obtain ⟨hl, h⟩ := condS h
        cases h
        exact ⟨J.callr (hc _ _ _ _ _ hcal) (Nat.le_of_ble_eq_true hl), hrange, fun E hE => by cases hE⟩
      · cases h
  case callv nk byref g xs =>
    cases byref with
    | false =>
      simp only [evO] at h
      split at h
      · rename_i f caps hg
        obtain ⟨ht, h⟩ := condS h
        have hids0 : (g.ev τ).ids = caps.flatMap idL := by rw [hg]; rfl
        have ht' : (((xs.flatMap fun x => (x.ev τ).ids) ++ (g.ev τ).ids).all fun b => Nat.blt b H.length) = true := by rw [hids0]; exact ht
        split at h
        · rename_i r H1 hcal
          cases hfr : frsR H1 r with
          | true =>
            rw [hfr, cond_true] at h
            cases h
            exact ⟨J.callv (nk := nk) f caps true hg (frsR_of hc hcal true fun _ => hfr) (by cases nk <;> rfl), ht', fun E hE => by cases hE; simp⟩
          | false =>
            rw [hfr, cond_false] at h
            cases hids : ((xs.flatMap fun x => (x.ev τ).ids) ++ caps.flatMap idL).isEmpty with
            | true =>
              rw [hids, cond_true] at h
              cases h
              have e : H = (bif false then H else killH H ((xs.flatMap fun x => (x.ev τ).ids) ++ caps.flatMap idL)) := by rw [List.isEmpty_iff.1 hids]; rfl
              refine ⟨?_, ht', fun E hE => by cases hE; simp⟩
              have := J.callv (F := F) (X := X) (nk := nk) (H := H) (τ := τ) (xs := xs) f caps false hg (frsR_of hc hcal false fun h => by cases h) (by cases nk <;> simp [hids])
              rwa [← e] at this
            | false =>
              rw [hids, cond_false] at h
              cases nk with
              | true => cases h
              | false =>
                cases h
                exact ⟨J.callv (nk := false) f caps false hg (frsR_of hc hcal false fun h => by cases h) rfl, ht', fun E hE => by cases hE⟩
        · cases h
      · cases h
    | true =>
      simp only [evO] at h
      split at h
      · rename_i f caps hg
        split at h
        · rename_i r H1 hcal
          obtain ⟨hl, h⟩ := condS h
          cases h
          exact ⟨J.callvr f caps hg (hc _ _ _ _ _ hcal) (Nat.le_of_ble_eq_true hl), hrange, fun E hE => by cases hE⟩
        · cases h
      · cases h

theorem evR_ok {cal : Cal} (hc : CalOk F X cal) : ∀ (r : R) (b : Nat) (τ : Env) (H : Hp) (τ' : Env) (H' : Hp) (g : Option Hp), evR cal r τ H = some (τ', H', g) → J F X (.run r ⟨b, τ, H⟩ ⟨b, τ', H'⟩) ∧ ∀ E, g = some E → H' = H ++ E
  | .done, b, τ, H, τ', H', g, h => by
    cases h
    exact ⟨.done, fun E hE => by cases hE; simp⟩
  | .op d o r, b, τ, H, τ', H', g, h => by
    simp only [evR] at h
    obtain ⟨⟨v, H1, g1⟩, h1, h⟩ := bindS h
    rw [Option.map_eq_some_iff] at h
    obtain ⟨⟨τ2, H2, g2⟩, h2, h3⟩ := h
    cases h3
    obtain ⟨a1, a2, a3⟩ := evO_ok hc h1
    obtain ⟨b1, b2⟩ := evR_ok hc r b _ _ _ _ _ h2
    refine ⟨.op v H1 a1 a2 b1, fun E hE => ?_⟩
    obtain ⟨E1, e1, hE⟩ := bindS hE
    rw [Option.map_eq_some_iff] at hE
    obtain ⟨E2, e2, rfl⟩ := hE
    rw [b2 E2 e2, a3 E1 e1, List.append_assoc]
  | .sc c want its d res r, b, τ, H, τ', H', g, h => by
    simp only [evR] at h
    split at h
    · rename_i x hx
      cases hxw : (x == want) with
      | true =>
        rw [hxw, cond_true] at h
        obtain ⟨⟨τ1, H1, g1⟩, h1, h⟩ := bindS h
        split at h
        · rename_i y hy
          rw [Option.map_eq_some_iff] at h
          obtain ⟨⟨τ2, H2, g2⟩, h2, h3⟩ := h
          cases h3
          obtain ⟨a1, a2⟩ := evR_ok hc its b _ _ _ _ _ h1
          obtain ⟨b1, b2⟩ := evR_ok hc r b _ _ _ _ _ h2
          refine ⟨.scT y ⟨b, τ1, H1⟩ (by rw [hx, eq_of_beq hxw]) a1 hy b1, fun E2 hE2 => ?_⟩
          obtain ⟨E, hE, hE2⟩ := bindS hE2
          rw [Option.map_eq_some_iff] at hE2
          obtain ⟨E3, e3, rfl⟩ := hE2
          have hH : H1 = H ++ E := a2 E hE
          rw [b2 E3 e3]
          show H1 ++ E3 = _
          rw [hH, List.append_assoc]
        · cases h
      | false =>
        rw [hxw, cond_false] at h
        obtain ⟨b1, b2⟩ := evR_ok hc r b _ _ _ _ _ h
        have : x = !want := by cases x <;> cases want <;> first | rfl | cases hxw
        exact ⟨.scF x hx this b1, b2⟩
    · cases h

theorem evC_ok {cal : Cal} (hc : CalOk F X cal) : ∀ (n : Nat) (c : C) (s : St) (e : Ex) (s' : St), evC cal n c s = some (e, s') → J F X (.wp c s fun e1 s1 => e1 = e ∧ s1 = s')
  | 0, c, s, e, s', h => by simp [evC] at h
  | n + 1, .skip, s, e, s', h => by simp only [evC] at h; cases h; exact .skip ⟨rfl, rfl⟩
  | n + 1, .reg d ps r, s, e, s', h => by
    simp only [evC] at h
    obtain ⟨⟨τ1, H1, g1⟩, h1, h⟩ := bindS h
    obtain ⟨h2, h⟩ := condS h
    cases h
    exact .reg (evR_ok hc r s.base _ _ _ _ _ h1).1 h2 ⟨rfl, rfl⟩
  | n + 1, .seq a b, s, e, s', h => by
    simp only [evC] at h
    obtain ⟨⟨e1, s1⟩, h1, h⟩ := bindS h
    have ha := evC_ok hc n a s e1 s1 h1
    cases e1 with
    | nrm =>
      have hb := evC_ok hc n b s1 e s' h
      exact .seq _ ha (fun s2 ⟨_, hs⟩ => by rw [hs]; exact hb) (fun id s2 ⟨he, _⟩ => by cases he) fun s2 ⟨he, _⟩ => by cases he
    | exit id =>
      cases h
      exact .seq _ ha (fun s2 ⟨he, _⟩ => by cases he) (fun id s2 h => h) fun s2 h => h
    | ret =>
      cases h
      exact .seq _ ha (fun s2 ⟨he, _⟩ => by cases he) (fun id s2 h => h) fun s2 h => h
  | n + 1, .cnd c x y, s, e, s', h => by
    simp only [evC] at h
    split at h
    · rename_i hc1
      exact .cnd true hc1 (fun _ => evC_ok hc n x s e s' h) fun h => by cases h
    · rename_i hc1
      exact .cnd false hc1 (fun h => by cases h) fun _ => evC_ok hc n y s e s' h
    · cases h
  | n + 1, .blk id c, s, e, s', h => by
    simp only [evC] at h
    rw [Option.map_eq_some_iff] at h
    obtain ⟨⟨e1, s1⟩, h1, h⟩ := h
    have ha := evC_ok hc n c s e1 s1 h1
    cases e1 with
    | nrm =>
      cases h
      exact .blk _ ha (fun s2 h => h) (fun j s2 ⟨he, _⟩ => by cases he) fun s2 ⟨he, _⟩ => by cases he
    | exit j =>
      simp only at h
      by_cases hj : j = id
      · rw [if_pos hj] at h
        cases h
        refine .blk _ ha (fun s2 ⟨he, _⟩ => by cases he) (fun k s2 ⟨he, hs⟩ => ?_) fun s2 ⟨he, _⟩ => by cases he
        cases he
        rw [if_pos hj]; exact ⟨rfl, hs⟩
      · rw [if_neg hj] at h
        cases h
        refine .blk _ ha (fun s2 ⟨he, _⟩ => by cases he) (fun k s2 ⟨he, hs⟩ => ?_) fun s2 ⟨he, _⟩ => by cases he
        cases he
        rw [if_neg hj]; exact ⟨rfl, hs⟩
    | ret =>
      cases h
      exact .blk _ ha (fun s2 ⟨he, _⟩ => by cases he) (fun j s2 ⟨he, _⟩ => by cases he) fun s2 h => h
  | n + 1, .loop keep c, s, e, s', h => by
    simp only [evC] at h
    obtain ⟨⟨e1, s1⟩, h1, h⟩ := bindS h
    have ha := evC_ok hc n c _ e1 s1 h1
    cases e1 with
    | nrm =>
      have hb := evC_ok hc n (.loop keep c) s1 e s' h
      refine .loop (.lp _ ha (fun s2 ⟨_, hs⟩ => ?_) (fun id s2 ⟨he, _⟩ => by cases he) fun s2 ⟨he, _⟩ => by cases he)
      rw [hs]
      cases hb with
      | loop hb => exact hb
    | exit id =>
      cases h
      exact .loop (.lp _ ha (fun s2 ⟨he, _⟩ => by cases he) (fun id s2 h => h) fun s2 h => h)
    | ret =>
      cases h
      exact .loop (.lp _ ha (fun s2 ⟨he, _⟩ => by cases he) (fun id s2 h => h) fun s2 h => h)
  | n + 1, .exit id, s, e, s', h => by simp only [evC] at h; cases h; exact .exit ⟨rfl, rfl⟩
  | n + 1, .ret, s, e, s', h => by simp only [evC] at h; cases h; exact .ret ⟨rfl, rfl⟩

theorem evF_ok {XE : Cal} (hX : CalOk F X XE) : ∀ n, CalOk F X (evF F XE n)
  | 0 => fun f xs H v H' h => by simp [evF] at h
  | n + 1 => fun f xs H v H' h => by
    simp only [evF] at h
    split at h
    · rename_i q hq
      cases h
      exact hX _ _ _ _ _ hq
    · obtain ⟨fn, hf, h⟩ := bindS h
      obtain ⟨hn, h⟩ := condS h
      obtain ⟨⟨e, s'⟩, h1, h⟩ := bindS h
      have ha := evC_ok (evF_ok hX n) n fn.body _ e s' h1
      have key : (∀ id, e ≠ .exit id) → (fn.result s').map (fun v => (v, s'.H)) = some (v, H') → J F X (.fn f xs H fun r H1 => r = v ∧ H1 = H') := by
        intro he h
        rw [Option.map_eq_some_iff] at h
        obtain ⟨v1, h2, h3⟩ := h
        cases h3
        refine .fn fn _ hf (Nat.eq_of_beq_eq_true hn) ha (fun id s ⟨h4, _⟩ => he id h4.symm) fun e1 s1 ⟨_, h5⟩ => ?_
        rw [h5]
        exact ⟨v, h2, rfl, rfl⟩
      cases e with
      | nrm => exact key (fun id h => by cases h) h
      | exit id => cases h
      | ret => exact key (fun id h => by cases h) h

/-- Does a run answer with true? -/
def isT : Option (V × Hp) → Bool
  | some (.b true, _) => true
  | _ => false
theorem evF_true {XE : Cal} (hX : CalOk F X XE) (n : Nat) {f : Nat} {xs : List V} (h : isT (evF F XE n f xs []) = true) : Ret F X f xs (.b true) := by
  cases hr : evF F XE n f xs [] with
  | none => rw [hr] at h; cases h
  | some q =>
    obtain ⟨v, H'⟩ := q
    rw [hr] at h
    have hv : v = .b true := by
      cases v <;> simp only [isT, reduceCtorEq] at h
      rename_i x
      cases x
      · cases h
      · rfl
    subst hv
    exact J.mono (evF_ok hX n _ _ _ _ _ hr) fun _ _ ⟨h1, h2⟩ => by subst h1; exact ⟨rfl, rfl⟩
end
end Go.Proofs.YtgamkmgdbfeigaaM
