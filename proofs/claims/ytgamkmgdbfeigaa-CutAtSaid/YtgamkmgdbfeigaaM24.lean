/- Runs with nothing left open: an evaluator for the machine, and what it says is so. Calls by reference, worked out where they stand. -/
import Derived.Test.YtgamkmgdbfeigaaM23
namespace Go.Proofs.YtgamkmgdbfeigaaM
open Go Go.RowKit
section
variable {F : Nat → Option Fn} {X : Contracts}

/-- Contracts that leave nothing open. -/
def DetX (X : Contracts) : Prop := ∀ f xs H R0, X f xs H R0 → ∃ v H', R0 v H' ∧ ∀ r H1, R0 r H1 → r = v ∧ H1 = H'

def Jd.det (F : Nat → Option Fn) (X : Contracts) : Jd → Prop
  | .fn f xs H R => ∃ v H', J F X (.fn f xs H fun r H1 => r = v ∧ H1 = H') ∧ R v H'
  | .wp c s Q => ∃ e s', J F X (.wp c s fun e1 s1 => e1 = e ∧ s1 = s') ∧ Q e s'
  | .lp keep c s Q => ∃ e s', J F X (.lp keep c s fun e1 s1 => e1 = e ∧ s1 = s') ∧ Q e s'
  | _ => True

theorem J.det (hX : DetX X) {j : Jd} (h : J F X j) : j.det F X := by
  induction h with
  | fn fn Q hf hn h hx hr ih =>
    obtain ⟨e, s', h1, h2⟩ := ih
    obtain ⟨v, h3, h4⟩ := hr e s' h2
    refine ⟨v, s'.H, .fn fn _ hf hn h1 (fun id s ⟨he, hs⟩ => hx id s (by rw [he, hs]; exact h2)) (fun e1 s1 ⟨he, hs⟩ => ?_), h4⟩
    subst hs
    exact ⟨v, h3, rfl, rfl⟩
  | ext R0 h hR =>
    obtain ⟨v, H', h1, h2⟩ := hX _ _ _ _ h
    exact ⟨v, H', .ext R0 h h2, hR v H' h1⟩
  | skip h => exact ⟨_, _, .skip ⟨rfl, rfl⟩, h⟩
  | reg h hp hq => exact ⟨_, _, .reg h hp ⟨rfl, rfl⟩, hq⟩
  | seq Q1 h hn he hr ih ihn =>
    obtain ⟨e, s', h1, h2⟩ := ih
    cases e with
    | nrm =>
      obtain ⟨e2, s2, h3, h4⟩ := ihn s' h2
      exact ⟨e2, s2, .seq _ h1 (fun s1 ⟨_, hs⟩ => by rw [hs]; exact h3) (fun id s1 ⟨he, _⟩ => by cases he) (fun s1 ⟨he, _⟩ => by cases he), h4⟩
    | exit id =>
      exact ⟨.exit id, s', .seq _ h1 (fun s1 ⟨he, _⟩ => by cases he) (fun id s1 h => h) (fun s1 h => h), he id s' h2⟩
    | ret =>
      exact ⟨.ret, s', .seq _ h1 (fun s1 ⟨he, _⟩ => by cases he) (fun id s1 h => h) (fun s1 h => h), hr s' h2⟩
  | cnd t hc ht hf iht ihf =>
    cases t with
    | true =>
      obtain ⟨e, s', h1, h2⟩ := iht rfl
      exact ⟨e, s', .cnd true hc (fun _ => h1) (fun h => by cases h), h2⟩
    | false =>
      obtain ⟨e, s', h1, h2⟩ := ihf rfl
      exact ⟨e, s', .cnd false hc (fun h => by cases h) (fun _ => h1), h2⟩
  | @blk id c s Q Q1 h hn he hr ih =>
    obtain ⟨e, s', h1, h2⟩ := ih
    cases e with
    | nrm => exact ⟨.nrm, s', .blk _ h1 (fun s1 h => h) (fun j s1 ⟨he, _⟩ => by cases he) (fun s1 ⟨he, _⟩ => by cases he), hn s' h2⟩
    | exit j =>
      have := he j s' h2
      by_cases hj : j = id
      · rw [if_pos hj] at this
        refine ⟨.nrm, s', .blk _ h1 (fun s1 ⟨he, _⟩ => by cases he) (fun k s1 ⟨he, hs⟩ => ?_) (fun s1 ⟨he, _⟩ => by cases he), this⟩
        cases he
        rw [if_pos hj]; exact ⟨rfl, hs⟩
      · rw [if_neg hj] at this
        refine ⟨.exit j, s', .blk _ h1 (fun s1 ⟨he, _⟩ => by cases he) (fun k s1 ⟨he, hs⟩ => ?_) (fun s1 ⟨he, _⟩ => by cases he), this⟩
        cases he
        rw [if_neg hj]; exact ⟨rfl, hs⟩
    | ret => exact ⟨.ret, s', .blk _ h1 (fun s1 ⟨he, _⟩ => by cases he) (fun j s1 ⟨he, _⟩ => by cases he) (fun s1 h => h), hr s' h2⟩
  | loop h ih =>
    obtain ⟨e, s', h1, h2⟩ := ih
    exact ⟨e, s', .loop h1, h2⟩
  | exit h => exact ⟨_, _, .exit ⟨rfl, rfl⟩, h⟩
  | ret h => exact ⟨_, _, .ret ⟨rfl, rfl⟩, h⟩
  | lp Q1 h hn he hr ih ihn =>
    obtain ⟨e, s', h1, h2⟩ := ih
    cases e with
    | nrm =>
      obtain ⟨e2, s2, h3, h4⟩ := ihn s' h2
      exact ⟨e2, s2, .lp _ h1 (fun s1 ⟨_, hs⟩ => by rw [hs]; exact h3) (fun id s1 ⟨he, _⟩ => by cases he) (fun s1 ⟨he, _⟩ => by cases he), h4⟩
    | exit id =>
      exact ⟨.exit id, s', .lp _ h1 (fun s1 ⟨he, _⟩ => by cases he) (fun id s1 h => h) (fun s1 h => h), he id s' h2⟩
    | ret =>
      exact ⟨.ret, s', .lp _ h1 (fun s1 ⟨he, _⟩ => by cases he) (fun id s1 h => h) (fun s1 h => h), hr s' h2⟩
  | done => trivial
  | op => trivial
  | sc => trivial
  | scF => trivial
  | scT => trivial
  | pure => trivial
  | call => trivial
  | callr => trivial
  | callv => trivial
  | callvr => trivial

/-! ### Calls by reference -/
variable {all : Bool} {b : Nat} {τ τ' : Env} {H H' : Hp} {Q : Ex → St → Prop}
/-- A function that works on the caller's memory: what it answers and leaves behind. -/
def RetR (F : Nat → Option Fn) (X : Contracts) (f : Nat) (xs : List V) (H : Hp) (v : V) (H' : Hp) : Prop := J F X (.fn f xs H fun r H1 => r = v ∧ H1 = H')
def LeOk (H H' : Hp) : Prop := H.length ≤ H'.length
theorem le_ok {H H' : Hp} (h : Nat.ble H.length H'.length = true) : LeOk H H' := Nat.le_of_ble_eq_true h
theorem wpr_callr {d : Option Nat} {nk : Bool} {f : Nat} {xs : List A} {r : R} {K : Env → Hp → Prop} {v : V} {ys : List V} (hy : (xs.map fun x => x.ev τ) = ys) (h : RetR F X f ys H v H') (hl : LeOk H H') (hK : wpr F X all r (put τ d v) H' K) :
    wpr F X all (.op d (.call nk true f xs) r) τ H K := by
  subst hy
  exact ⟨v, H', h, hl, hK⟩
/-- The same, the callee's code worked out where the call stands. -/
theorem wpr_inl (hX : DetX X) {d : Option Nat} {nk : Bool} {f np : Nat} {res : List Res} {c : C} {xs : List A} {r : R} {K : Env → Hp → Prop} {ys : List V} (hy : (xs.map fun x => x.ev τ) = ys) (hf : F f = some ⟨np, res, c⟩) (hn : ys.length = np)
    (h : wpc F X all c H.length (envOf 0 ys) H (finQ res fun v H' => LeOk H H' ∧ wpr F X all r (put τ d v) H' K)) : wpr F X all (.op d (.call nk true f xs) r) τ H K := by
  subst hy
  obtain ⟨v, H', h1, h2, h3⟩ := J.det hX (fn_rule all hf hn h)
  exact ⟨v, H', h1, h2, h3⟩
theorem wpr_inlv (hX : DetX X) {d : Option Nat} {nk : Bool} {g : A} {f np : Nat} {caps : List V} {res : List Res} {c : C} {xs : List A} {r : R} {K : Env → Hp → Prop} {ys : List V} (hg : g.ev τ = .fn f caps) (hy : ((xs.map fun x => x.ev τ) ++ caps) = ys) (hf : F f = some ⟨np, res, c⟩) (hn : ys.length = np)
    (h : wpc F X all c H.length (envOf 0 ys) H (finQ res fun v H' => LeOk H H' ∧ wpr F X all r (put τ d v) H' K)) : wpr F X all (.op d (.callv nk true g xs) r) τ H K := by
  subst hy
  obtain ⟨v, H', h1, h2, h3⟩ := J.det hX (fn_rule all hf hn h)
  unfold wpr
  simp only [opW, hg]
  exact ⟨v, H', h1, h2, h3⟩
theorem wpr_callvv {d : Option Nat} {nk : Bool} {g : A} {f : Nat} {caps : List V} {xs : List A} {r : R} {K : Env → Hp → Prop} {v : V} {ys : List V} (hg : g.ev τ = .fn f caps) (hy : ((xs.map fun x => frz H (x.ev τ)) ++ caps.map (frL H)) = ys) (h : Ret F X f ys v)
    (ht : (((xs.flatMap fun x => (x.ev τ).ids) ++ caps.flatMap idL).all fun b => Nat.blt b H.length) = true) (hK : wpr F X all r (put τ d v) H K) :
    wpr F X all (.op d (.callv nk false g xs) r) τ H K := by
  subst hy
  unfold wpr
  simp only [opW, hg]
  exact ⟨ht, CallW.ret h hK⟩
theorem wpr_callvr {d : Option Nat} {nk : Bool} {g : A} {f : Nat} {caps : List V} {xs : List A} {r : R} {K : Env → Hp → Prop} {v : V} {ys : List V} (hg : g.ev τ = .fn f caps) (hy : ((xs.map fun x => x.ev τ) ++ caps) = ys) (h : RetR F X f ys H v H') (hl : LeOk H H') (hK : wpr F X all r (put τ d v) H' K) :
    wpr F X all (.op d (.callv nk true g xs) r) τ H K := by
  subst hy
  unfold wpr
  simp only [opW, hg]
  exact ⟨v, H', h, hl, hK⟩

/-! ### An evaluator -/
abbrev Cal := Nat → List V → Hp → Option (V × Hp)

/-- What an operation that only makes new memory has made. -/
def grown (o : O) (τ : Env) (H : Hp) (H' : Hp) : Option Hp := match o with
  | .box _ _ _ | .mks _ _ _ _ _ _ => some (H'.drop H.length)
  | .bsl _ _ _ parts => bif (parts.flatMap fun x => (x.ev τ).ids).isEmpty then some (H'.drop H.length) else none
  | .ld _ _ _ => some []
  | o => bif o.isPure then some [] else none

/-- One operation: its value, the memory behind it, and what is new, where the rest is as it was. -/
def evO (cal : Cal) (o : O) (τ : Env) (H : Hp) : Option (V × Hp × Option Hp) := match o with
  | .call nk false f xs => bif (xs.flatMap fun x => (x.ev τ).ids).all (fun b => Nat.blt b H.length) then
      match cal f (xs.map fun x => frz H (x.ev τ)) [] with
      | some (r, H') => bif frsR H' r then some (frR H' r, H, some []) else
          bif (xs.flatMap fun x => (x.ev τ).ids).isEmpty then some (frR H' r, H, some []) else bif nk then none else some (frR H' r, killH H (xs.flatMap fun x => (x.ev τ).ids), none)
      | none => none
    else none
  | .call _ true f xs => match cal f (xs.map fun x => x.ev τ) H with
    | some (r, H') => bif Nat.ble H.length H'.length then some (r, H', none) else none
    | none => none
  | .callv nk false g xs => match g.ev τ with
    | .fn f caps => bif ((xs.flatMap fun x => (x.ev τ).ids) ++ caps.flatMap idL).all (fun b => Nat.blt b H.length) then
        match cal f ((xs.map fun x => frz H (x.ev τ)) ++ caps.map (frL H)) [] with
        | some (r, H') => bif frsR H' r then some (frR H' r, H, some []) else
            bif ((xs.flatMap fun x => (x.ev τ).ids) ++ caps.flatMap idL).isEmpty then some (frR H' r, H, some []) else bif nk then none else some (frR H' r, killH H ((xs.flatMap fun x => (x.ev τ).ids) ++ caps.flatMap idL), none)
        | none => none
      else none
    | _ => none
  | .callv _ true g xs => match g.ev τ with
    | .fn f caps => match cal f ((xs.map fun x => x.ev τ) ++ caps) H with
      | some (r, H') => bif Nat.ble H.length H'.length then some (r, H', none) else none
      | none => none
    | _ => none
  | o => bif (o.touch τ H).all (fun b => Nat.blt b H.length) then (o.evP τ H).map fun q => (q.1, q.2, grown o τ H q.2) else none

def evR (cal : Cal) : R → Env → Hp → Option (Env × Hp × Option Hp)
  | .done, τ, H => some (τ, H, some [])
  | .op d o r, τ, H => (evO cal o τ H).bind fun q => (evR cal r (put τ d q.1) q.2.1).map fun p => (p.1, p.2.1, q.2.2.bind fun E => p.2.2.map fun E' => E ++ E')
  | .sc c want its d res r, τ, H => match look τ c with
    | .b x => bif (x == want) then (evR cal its τ H).bind fun q => match res.ev q.1 with
        | .b y => (evR cal r ((d, .b y) :: kill τ its.dsts) q.2.1).map fun p => (p.1, p.2.1, q.2.2.bind fun E => p.2.2.map fun E' => E ++ E')
        | _ => none
      else evR cal r ((d, .b (!want)) :: kill τ its.dsts) H
    | _ => none

def evC (cal : Cal) : Nat → C → St → Option (Ex × St)
  | 0, _, _ => none
  | _ + 1, .skip, s => some (.nrm, s)
  | _ + 1, .reg _ ps r, s => (evR cal r s.τ s.H).bind fun q => bif apartB q.1 ps then some (.nrm, ⟨s.base, q.1, q.2.1⟩) else none
  | n + 1, .seq a b, s => (evC cal n a s).bind fun q => match q.1 with
    | .nrm => evC cal n b q.2
    | e => some (e, q.2)
  | n + 1, .cnd c x y, s => match c.ev s.τ with
    | .b true => evC cal n x s
    | .b false => evC cal n y s
    | _ => none
  | n + 1, .blk id c, s => (evC cal n c s).map fun q => match q.1 with
    | .exit j => if j = id then (.nrm, q.2) else (.exit j, q.2)
    | e => (e, q.2)
  | n + 1, .loop keep c, s => (evC cal n c (canon keep s)).bind fun q => match q.1 with
    | .nrm => evC cal n (.loop keep c) q.2
    | e => some (e, q.2)
  | _ + 1, .exit id, s => some (.exit id, s)
  | _ + 1, .ret, s => some (.ret, s)

def evF (F : Nat → Option Fn) (XE : Cal) : Nat → Cal
  | 0, _, _, _ => none
  | n + 1, f, xs, H => match XE f xs H with
    | some q => some q
    | none => (F f).bind fun fn => bif Nat.beq xs.length fn.np then (evC (evF F XE n) n fn.body ⟨H.length, envOf 0 xs, H⟩).bind fun q => match q.1 with
        | .exit _ => none
        | _ => (fn.result q.2).map fun v => (v, q.2.H)
      else none

def CalOk (F : Nat → Option Fn) (X : Contracts) (cal : Cal) : Prop := ∀ f xs H v H', cal f xs H = some (v, H') → J F X (.fn f xs H fun r H1 => r = v ∧ H1 = H')

theorem killH_nil (H : Hp) : killH H [] = H := rfl
theorem grown_ok {o : O} {τ : Env} {H H' E : Hp} {v : V} (h : o.evP τ H = some (v, H')) (hg : grown o τ H H' = some E) : H' = H ++ E := by
  have hp : o.isPure = true → H' = H := fun hp => pure_same h hp
  cases o <;> simp only [grown, O.isPure, cond_true, cond_false, Option.some.injEq, reduceCtorEq] at hg <;> first | (subst hg; rw [List.append_nil]; exact hp rfl) | skip
  case box ty es x =>
    simp only [O.evP] at h
    obtain ⟨_, h⟩ := condS h
    cases h
    rw [← hg, List.drop_left]
  case bsl nk ty es parts =>
    obtain ⟨h0, hg⟩ := condS hg
    simp only [O.evP] at h
    obtain ⟨_, h⟩ := condS h
    cases h
    rw [List.isEmpty_iff.1 h0, killH_nil] at hg
    cases hg
    rw [List.isEmpty_iff.1 h0, killH_nil, List.drop_left]
  case ld g sz a =>
    subst hg
    rw [List.append_nil]
    exact ld_same h
  case mks ty es by_ z l c =>
    simp only [O.evP] at h
    split at h
    · split at h
      · cases h
        rw [← hg, List.drop_left]
      · cases h
    · cases h
end
end Go.Proofs.YtgamkmgdbfeigaaM
