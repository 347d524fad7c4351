/- How proofs on the machine go: what is to be shown of a piece of code, worked out by its form. -/
import Derived.Test.YtgamkmgdbfeigaaM18
namespace Go.Proofs.YtgamkmgdbfeigaaM
open Go Go.RowKit

section
variable {F : Nat → Option Fn} {X : Contracts}

/-- A function called by value answers v, made of nothing that was there before. -/
def Ret (F : Nat → Option Fn) (X : Contracts) (f : Nat) (xs : List V) (v : V) : Prop := J F X (.fn f xs [] fun r H' => frR H' r = v ∧ frsR H' r = true)

/-- A call by value. -/
def CallW (F : Nat → Option Fn) (X : Contracts) (nk : Bool) (f : Nat) (xs : List V) (ids : List Nat) (H : Hp) (K : V → Hp → Prop) : Prop :=
  ∃ v fr, J F X (.fn f xs [] fun r H' => frR H' r = v ∧ (fr = true → frsR H' r = true)) ∧ (bif nk then fr || ids.isEmpty else true) = true ∧ K v (bif fr then H else killH H ids)

/-- A call that works on the caller's memory. -/
def CallR (F : Nat → Option Fn) (X : Contracts) (f : Nat) (xs : List V) (H : Hp) (K : V → Hp → Prop) : Prop :=
  ∃ v H', J F X (.fn f xs H fun r H1 => r = v ∧ H1 = H') ∧ H.length ≤ H'.length ∧ K v H'

/-- An operation that calls nothing. -/
def PureW (r : Option (V × Hp)) (t : Bool) (K : V → Hp → Prop) : Prop := ∃ v H', r = some (v, H') ∧ t = true ∧ K v H'

def opW (F : Nat → Option Fn) (X : Contracts) (τ : Env) (H : Hp) (o : O) (K : V → Hp → Prop) : Prop := match o with
  | .call nk false f xs => ((xs.flatMap fun x => (x.ev τ).ids).all fun b => Nat.blt b H.length) = true ∧ CallW F X nk f (xs.map fun x => frz H (x.ev τ)) (xs.flatMap fun x => (x.ev τ).ids) H K
  | .call _ true f xs => CallR F X f (xs.map fun x => x.ev τ) H K
  | .callv nk false g xs => match g.ev τ with
    | .fn f caps => (((xs.flatMap fun x => (x.ev τ).ids) ++ caps.flatMap idL).all fun b => Nat.blt b H.length) = true ∧ CallW F X nk f ((xs.map fun x => frz H (x.ev τ)) ++ caps.map (frL H)) ((xs.flatMap fun x => (x.ev τ).ids) ++ caps.flatMap idL) H K
    | _ => False
  | .callv _ true g xs => match g.ev τ with
    | .fn f caps => CallR F X f ((xs.map fun x => x.ev τ) ++ caps) H K
    | _ => False
  | o => PureW (o.evP τ H) ((o.touch τ H).all fun b => Nat.blt b H.length) K

/-- A part that is carried out on a condition: carry it out in any case, or leave it out. -/
def ScW (x want : Bool) (A B T : Prop) : Prop := A ∨ (x = (!want) ∧ B) ∨ (x = want ∧ T)

def wpr (F : Nat → Option Fn) (X : Contracts) (all : Bool) : R → Env → Hp → (Env → Hp → Prop) → Prop
  | .done, τ, H, K => K τ H
  | .op d o r, τ, H, K => opW F X τ H o fun v H' => wpr F X all r (put τ d v) H' K
  | .sc c want its d res r, τ, H, K => match look τ c with
    | .b x => bif all then wpr F X all its τ H (fun τ1 H1 => ∃ y E, res.ev τ1 = .b y ∧ H1 = H ++ E ∧ wpr F X all r ((d, .b (bif want then x && y else x || y)) :: kill τ its.dsts) H1 K)
      else ScW x want (wpr F X all its τ H (fun τ1 H1 => ∃ y E, res.ev τ1 = .b y ∧ H1 = H ++ E ∧ wpr F X all r ((d, .b (bif want then x && y else x || y)) :: kill τ its.dsts) H1 K)) (wpr F X all r ((d, .b (!want)) :: kill τ its.dsts) H K) (wpr F X all its τ H (fun τ1 H1 => ∃ y, res.ev τ1 = .b y ∧ wpr F X all r ((d, .b y) :: kill τ its.dsts) H1 K))
    | _ => False

/-- What comes behind a piece of code. -/
def seqK (b : St → Prop) (Q : Ex → St → Prop) : Ex → St → Prop
  | .nrm, s => b s
  | .exit id, s => Q (.exit id) s
  | .ret, s => Q .ret s

def blkK (id : Nat) (Q : Ex → St → Prop) : Ex → St → Prop
  | .nrm, s => Q .nrm s
  | .exit j, s => if j = id then Q .nrm s else Q (.exit j) s
  | .ret, s => Q .ret s

def wpc (F : Nat → Option Fn) (X : Contracts) (all : Bool) : C → Nat → Env → Hp → (Ex → St → Prop) → Prop
  | .skip, b, τ, H, Q => Q .nrm ⟨b, τ, H⟩
  | .reg _ ps r, b, τ, H, Q => wpr F X all r τ H fun τ' H' => apartB τ' ps = true ∧ Q .nrm ⟨b, τ', H'⟩
  | .seq x y, b, τ, H, Q => wpc F X all x b τ H (seqK (fun s => wpc F X all y s.base s.τ s.H Q) Q)
  | .cnd c x y, b, τ, H, Q => match c.ev τ with
    | .b t => (t = true → wpc F X all x b τ H Q) ∧ (t = false → wpc F X all y b τ H Q)
    | _ => False
  | .blk id c, b, τ, H, Q => wpc F X all c b τ H (blkK id Q)
  | .loop keep c, b, τ, H, Q => J F X (.lp keep c (canon keep ⟨b, τ, H⟩) Q)
  | .exit id, b, τ, H, Q => Q (.exit id) ⟨b, τ, H⟩
  | .ret, b, τ, H, Q => Q .ret ⟨b, τ, H⟩

theorem opW_J {τ : Env} {H : Hp} {o : O} {K : V → Hp → Prop} (h : opW F X τ H o K) : ∃ v H', J F X (.stp o τ H v H') ∧ ((o.touch τ H).all fun b => Nat.blt b H.length) = true ∧ K v H' := by
  have hp : ∀ {o : O}, PureW (o.evP τ H) ((o.touch τ H).all fun b => Nat.blt b H.length) K → ∃ v H', J F X (.stp o τ H v H') ∧ ((o.touch τ H).all fun b => Nat.blt b H.length) = true ∧ K v H' := by
    rintro o ⟨v, H', h1, h2, h3⟩
    exact ⟨v, H', .pure h1, h2, h3⟩
  have hrange : ((List.range H.length).all fun b => Nat.blt b H.length) = true := List.all_eq_true.2 fun b hb => by simpa [Nat.blt_eq] using hb
  cases o <;> try exact hp h
  case call nk byref f xs =>
    cases byref with
    | false =>
      obtain ⟨ht, v, fr, h1, h2, h3⟩ := h
      exact ⟨v, _, .call fr h1 h2, ht, h3⟩
    | true =>
      obtain ⟨v, H', h1, h2, h3⟩ := h
      exact ⟨v, _, .callr h1 h2, hrange, h3⟩
  case callv nk byref g xs =>
    cases byref with
    | false =>
      simp only [opW] at h
      split at h
      · rename_i f caps hg
        obtain ⟨ht, v, fr, h1, h2, h3⟩ := h
        refine ⟨v, _, .callv f caps fr hg h1 h2, ?_, h3⟩
        have : (g.ev τ).ids = caps.flatMap idL := by rw [hg]; rfl
        simp only [O.touch, cond_false, this]
        exact ht
      · exact h.elim
    | true =>
      simp only [opW] at h
      split at h
      · rename_i f caps hg
        obtain ⟨v, H', h1, h2, h3⟩ := h
        exact ⟨v, _, .callvr f caps hg h1 h2, hrange, h3⟩
      · exact h.elim

theorem wpr_J {all : Bool} : ∀ (r : R) (b : Nat) (τ : Env) (H : Hp) (K : Env → Hp → Prop), wpr F X all r τ H K → ∃ τ' H', J F X (.run r ⟨b, τ, H⟩ ⟨b, τ', H'⟩) ∧ K τ' H'
  | .done, b, τ, H, K, h => ⟨τ, H, .done, h⟩
  | .op d o r, b, τ, H, K, h => by
    obtain ⟨v, H1, h1, h2, h3⟩ := opW_J h
    obtain ⟨τ', H', h4, h5⟩ := wpr_J r b _ _ K h3
    exact ⟨τ', H', .op v H1 h1 h2 h4, h5⟩
  | .sc c want its d res r, b, τ, H, K, h => by
    unfold wpr at h
    split at h
    · rename_i x hc
      have h : ScW x want (wpr F X all its τ H (fun τ1 H1 => ∃ y E, res.ev τ1 = .b y ∧ H1 = H ++ E ∧ wpr F X all r ((d, .b (bif want then x && y else x || y)) :: kill τ its.dsts) H1 K)) (wpr F X all r ((d, .b (!want)) :: kill τ its.dsts) H K) (wpr F X all its τ H (fun τ1 H1 => ∃ y, res.ev τ1 = .b y ∧ wpr F X all r ((d, .b y) :: kill τ its.dsts) H1 K)) := by
        cases all with
        | true => exact .inl h
        | false => exact h
      rcases h with h | ⟨hx, h⟩ | ⟨hx, h⟩
      · obtain ⟨τ1, H1, h1, y, E, h2, rfl, h3⟩ := wpr_J its b τ H _ h
        obtain ⟨τ', H', h4, h5⟩ := wpr_J r b _ _ K h3
        exact ⟨τ', H', .sc x y ⟨b, τ1, H ++ E⟩ E hc h1 h2 rfl h4, h5⟩
      · obtain ⟨τ', H', h4, h5⟩ := wpr_J r b _ _ K h
        exact ⟨τ', H', .scF x hc hx h4, h5⟩
      · obtain ⟨τ1, H1, h1, y, h2, h3⟩ := wpr_J its b τ H _ h
        obtain ⟨τ', H', h4, h5⟩ := wpr_J r b _ _ K h3
        exact ⟨τ', H', .scT y ⟨b, τ1, H1⟩ (by rw [hc, hx]) h1 h2 h4, h5⟩
    · exact h.elim

theorem wpc_J {all : Bool} : ∀ (c : C) (b : Nat) (τ : Env) (H : Hp) (Q : Ex → St → Prop), wpc F X all c b τ H Q → J F X (.wp c ⟨b, τ, H⟩ Q)
  | .skip, b, τ, H, Q, h => .skip h
  | .reg d ps r, b, τ, H, Q, h => by
    obtain ⟨τ', H', h1, h2, h3⟩ := wpr_J r b τ H _ h
    exact .reg h1 h2 h3
  | .seq x y, b, τ, H, Q, h => .seq _ (wpc_J x b τ H _ h) (fun s' hs => wpc_J y s'.base s'.τ s'.H Q hs) (fun _ _ h => h) fun _ h => h
  | .cnd c x y, b, τ, H, Q, h => by
    unfold wpc at h
    split at h
    · rename_i t hc
      exact .cnd t hc (fun ht => wpc_J x b τ H Q (h.1 ht)) fun ht => wpc_J y b τ H Q (h.2 ht)
    · exact h.elim
  | .blk id c, b, τ, H, Q, h => .blk _ (wpc_J c b τ H _ h) (fun _ h => h) (fun j s' hj => hj) fun _ h => h
  | .loop keep c, b, τ, H, Q, h => .loop h
  | .exit id, b, τ, H, Q, h => .exit h
  | .ret, b, τ, H, Q, h => .ret h

/-- A loop: a measure that falls. -/
theorem lp_rule {α : Type} (all : Bool) {keep : List Nat} {c : C} {Q : Ex → St → Prop} (st : α → St) (I : α → Prop) (μ : α → Nat)
    (h : ∀ a, I a → wpc F X all c (st a).base (st a).τ (st a).H (seqK (fun s' => ∃ a', canon keep s' = st a' ∧ I a' ∧ μ a' < μ a) Q)) : ∀ a, I a → J F X (.lp keep c (st a) Q) := by
  have key : ∀ n a, μ a = n → I a → J F X (.lp keep c (st a) Q) := by
    intro n
    induction n using Nat.strongRecOn with
    | ind n ih =>
      intro a hn hI
      refine .lp _ (wpc_J c _ _ _ _ (h a hI)) (fun s' hs => ?_) (fun _ _ h => h) fun _ h => h
      obtain ⟨a', h1, h2, h3⟩ := hs
      rw [h1]
      exact ih (μ a') (by omega) a' rfl h2
  exact fun a hI => key _ a rfl hI

/-- What is asked at a function's end. -/
def finQ (res : List Res) (R : V → Hp → Prop) : Ex → St → Prop
  | .exit _, _ => False
  | .nrm, s => ∃ v, (resEv s res).map (fun
    | [v] => v
    | vs => .tu vs) = some v ∧ R v s.H
  | .ret, s => ∃ v, (resEv s res).map (fun
    | [v] => v
    | vs => .tu vs) = some v ∧ R v s.H

/-- A function, by its code. -/
theorem fn_rule (all : Bool) {f np : Nat} {res : List Res} {c : C} {xs : List V} {H : Hp} {R : V → Hp → Prop} (hf : F f = some ⟨np, res, c⟩) (hn : xs.length = np)
    (h : wpc F X all c H.length (envOf 0 xs) H (finQ res R)) : J F X (.fn f xs H R) := by
  refine .fn ⟨np, res, c⟩ _ hf hn (wpc_J _ _ _ _ _ h) (fun id s hs => hs) fun e s hs => ?_
  cases e with
  | nrm => exact hs
  | ret => exact hs
  | exit id => exact hs.elim

theorem J.mono {f : Nat} {xs : List V} {H : Hp} {R R' : V → Hp → Prop} (h : J F X (.fn f xs H R)) (hR : ∀ v H', R v H' → R' v H') : J F X (.fn f xs H R') := by
  cases h with
  | fn fn Q hf hn h hx hr => exact .fn fn Q hf hn h hx fun e s hq => let ⟨v, h1, h2⟩ := hr e s hq; ⟨v, h1, hR _ _ h2⟩
  | ext R0 h hR0 => exact .ext R0 h fun v H' h => hR v H' (hR0 v H' h)

theorem CallW.ret {nk : Bool} {f : Nat} {xs : List V} {ids : List Nat} {H : Hp} {K : V → Hp → Prop} {v : V} (h : Ret F X f xs v) (hK : K v H) : CallW F X nk f xs ids H K :=
  ⟨v, true, J.mono h fun _ _ h => ⟨h.1, fun _ => h.2⟩, by cases nk <;> rfl, hK⟩

/-! ### Working out, step by step -/

theorem PureW_some {v : V} {H' : Hp} {K : V → Hp → Prop} : PureW (some (v, H')) true K = K v H' := by
  apply propext
  constructor
  · rintro ⟨v', H1, h, _, hk⟩
    cases h
    exact hk
  · exact fun h => ⟨v, H', rfl, rfl, h⟩

theorem look_nil (t : Nat) : look [] t = .un := rfl
theorem look_hd (t : Nat) (v : V) (r : Env) : look ((t, v) :: r) t = v := by unfold look; rw [Nat.beq_refl]; rfl
theorem look_tl (t t' : Nat) (v : V) (r : Env) (h : t' ≠ t) : look ((t', v) :: r) t = look r t := by
  have := look_put r (some t') v t
  simp only [put] at this
  rw [this, if_neg (by intro h'; cases h'; exact h rfl)]
theorem hget_nil (b : Nat) : hget [] b = none := rfl
theorem hget_z (B : Option Blk) (H : Hp) : hget (B :: H) 0 = B := rfl
theorem hget_s (B : Option Blk) (H : Hp) (b : Nat) : hget (B :: H) (b + 1) = hget H b := rfl
theorem look_bif (t t' : Nat) (v : V) (r : Env) : look ((t', v) :: r) t = bif Nat.beq t' t then v else look r t := rfl
end
end Go.Proofs.YtgamkmgdbfeigaaM
