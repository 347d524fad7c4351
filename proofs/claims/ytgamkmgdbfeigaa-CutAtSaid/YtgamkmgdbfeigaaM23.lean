/- What is shown of a piece of code may be weakened; loops with a cut behind them. -/
import Derived.Test.YtgamkmgdbfeigaaM22
namespace Go.Proofs.YtgamkmgdbfeigaaM
open Go Go.RowKit
section
variable {F : Nat → Option Fn} {X : Contracts}

def Jd.up (F : Nat → Option Fn) (X : Contracts) : Jd → Prop
  | .wp c s Q => ∀ Q' : Ex → St → Prop, (∀ e s, Q e s → Q' e s) → J F X (.wp c s Q')
  | .lp keep c s Q => ∀ Q' : Ex → St → Prop, (∀ e s, Q e s → Q' e s) → J F X (.lp keep c s Q')
  | _ => True

theorem J.up {j : Jd} (h : J F X j) : j.up F X := by
  induction h with
  | fn => trivial
  | ext => trivial
  | skip h => exact fun Q' hQ => .skip (hQ _ _ h)
  | reg h hp hq => exact fun Q' hQ => .reg h hp (hQ _ _ hq)
  | seq Q1 h hn he hr ih ihn => exact fun Q' hQ => .seq Q1 h (fun s' hs => ihn s' hs Q' hQ) (fun id s' hs => hQ _ _ (he id s' hs)) fun s' hs => hQ _ _ (hr s' hs)
  | cnd t hc ht hf iht ihf => exact fun Q' hQ => .cnd t hc (fun h => iht h Q' hQ) fun h => ihf h Q' hQ
  | blk Q1 h hn he hr ih =>
    refine fun Q' hQ => .blk Q1 h (fun s' hs => hQ _ _ (hn s' hs)) (fun j s' hs => ?_) fun s' hs => hQ _ _ (hr s' hs)
    have := he j s' hs
    split at this
    · rename_i hj; rw [if_pos hj]; exact hQ _ _ this
    · rename_i hj; rw [if_neg hj]; exact hQ _ _ this
  | loop h ih => exact fun Q' hQ => .loop (ih Q' hQ)
  | exit h => exact fun Q' hQ => .exit (hQ _ _ h)
  | ret h => exact fun Q' hQ => .ret (hQ _ _ h)
  | lp Q1 h hn he hr ih ihn => exact fun Q' hQ => .lp Q1 h (fun s' hs => ihn s' hs Q' hQ) (fun id s' hs => hQ _ _ (he id s' hs)) fun s' hs => hQ _ _ (hr s' hs)
  | done => trivial
  | op => trivial
  | sc => trivial
  | scF => trivial
  | scT => trivial
  | pure => trivial
  | call => trivial
  | callr => trivial
  | callv => trivial
  | callvr => trivial

theorem seqK_up {k k' : St → Prop} {Q Q' : Ex → St → Prop} (hk : ∀ s, k s → k' s) (hQ : ∀ e s, Q e s → Q' e s) : ∀ e s, seqK k Q e s → seqK k' Q' e s
  | .nrm, s, h => hk s h
  | .exit id, s, h => hQ _ s h
  | .ret, s, h => hQ _ s h
theorem blkK_up {id : Nat} {Q Q' : Ex → St → Prop} (hQ : ∀ e s, Q e s → Q' e s) : ∀ e s, blkK id Q e s → blkK id Q' e s
  | .nrm, s, h => hQ _ s h
  | .exit j, s, h => by
    simp only [blkK] at h ⊢
    split at h
    · rename_i hj; rw [if_pos hj]; exact hQ _ _ h
    · rename_i hj; rw [if_neg hj]; exact hQ _ _ h
  | .ret, s, h => hQ _ s h

theorem CallW.up {nk : Bool} {f : Nat} {xs : List V} {ids : List Nat} {H : Hp} {K K' : V → Hp → Prop} (h : CallW F X nk f xs ids H K) (hK : ∀ v H, K v H → K' v H) : CallW F X nk f xs ids H K' :=
  let ⟨v, fr, h1, h2, h3⟩ := h; ⟨v, fr, h1, h2, hK _ _ h3⟩
theorem CallR.up {f : Nat} {xs : List V} {H : Hp} {K K' : V → Hp → Prop} (h : CallR F X f xs H K) (hK : ∀ v H, K v H → K' v H) : CallR F X f xs H K' :=
  let ⟨v, H', h1, h2, h3⟩ := h; ⟨v, H', h1, h2, hK _ _ h3⟩
theorem PureW.up {r : Option (V × Hp)} {t : Bool} {K K' : V → Hp → Prop} (h : PureW r t K) (hK : ∀ v H, K v H → K' v H) : PureW r t K' :=
  let ⟨v, H', h1, h2, h3⟩ := h; ⟨v, H', h1, h2, hK _ _ h3⟩
theorem opW_up {τ : Env} {H : Hp} {o : O} {K K' : V → Hp → Prop} (h : opW F X τ H o K) (hK : ∀ v H, K v H → K' v H) : opW F X τ H o K' := by
  cases o <;> try exact PureW.up h hK
  case call nk byref f xs =>
    cases byref with
    | false => exact ⟨h.1, CallW.up h.2 hK⟩
    | true => exact CallR.up h hK
  case callv nk byref g xs =>
    cases byref with
    | false =>
      simp only [opW] at h ⊢
      split at h
      · exact ⟨h.1, CallW.up h.2 hK⟩
      · exact h.elim
    | true =>
      simp only [opW] at h ⊢
      split at h
      · exact CallR.up h hK
      · exact h.elim

theorem wpr_up {all : Bool} : ∀ (r : R) (τ : Env) (H : Hp) {K K' : Env → Hp → Prop}, wpr F X all r τ H K → (∀ τ H, K τ H → K' τ H) → wpr F X all r τ H K'
  | .done, τ, H, K, K', h, hK => hK _ _ h
  | .op d o r, τ, H, K, K', h, hK => opW_up h fun v H' h => wpr_up r _ _ h hK
  | .sc c want its d res r, τ, H, K, K', h, hK => by
    unfold wpr at h ⊢
    split at h
    · rename_i x hc
      cases all with
      | true => exact wpr_up its _ _ h fun τ1 H1 ⟨y, E, h1, h2, h3⟩ => ⟨y, E, h1, h2, wpr_up r _ _ h3 hK⟩
      | false =>
        rcases h with h | ⟨h1, h⟩ | ⟨h1, h⟩
        · exact .inl (wpr_up its _ _ h fun τ1 H1 ⟨y, E, h1, h2, h3⟩ => ⟨y, E, h1, h2, wpr_up r _ _ h3 hK⟩)
        · exact .inr (.inl ⟨h1, wpr_up r _ _ h hK⟩)
        · exact .inr (.inr ⟨h1, wpr_up its _ _ h fun τ1 H1 ⟨y, h1, h2⟩ => ⟨y, h1, wpr_up r _ _ h2 hK⟩⟩)
    · exact h.elim

theorem wpc_up {all : Bool} : ∀ (c : C) (b : Nat) (τ : Env) (H : Hp) {Q Q' : Ex → St → Prop}, wpc F X all c b τ H Q → (∀ e s, Q e s → Q' e s) → wpc F X all c b τ H Q'
  | .skip, b, τ, H, Q, Q', h, hQ => hQ _ _ h
  | .reg d ps r, b, τ, H, Q, Q', h, hQ => wpr_up r τ H h fun τ1 H1 h1 => ⟨h1.1, hQ _ _ h1.2⟩
  | .seq x y, b, τ, H, Q, Q', h, hQ => wpc_up x b τ H h (seqK_up (fun s hs => wpc_up y s.base s.τ s.H hs hQ) hQ)
  | .cnd c x y, b, τ, H, Q, Q', h, hQ => by
    unfold wpc at h ⊢
    split at h
    · exact ⟨fun ht => wpc_up x b τ H (h.1 ht) hQ, fun ht => wpc_up y b τ H (h.2 ht) hQ⟩
    · exact h.elim
  | .blk id c, b, τ, H, Q, Q', h, hQ => wpc_up c b τ H h (blkK_up hQ)
  | .loop keep c, b, τ, H, Q, Q', h, hQ => (J.up h) Q' hQ
  | .exit id, b, τ, H, Q, Q', h, hQ => hQ _ _ h
  | .ret, b, τ, H, Q, Q', h, hQ => hQ _ _ h

variable {all : Bool} {b : Nat} {τ τ' : Env} {H H' : Hp} {Q : Ex → St → Prop}
/-- A cut: what a piece of code comes to, said once. -/
theorem wp_cut {c : C} (R : Ex → St → Prop) (h : wpc F X all c b τ H R) (hR : ∀ e s, R e s → Q e s) : wpc F X all c b τ H Q := wpc_up c b τ H h hR
/-- A piece of code that goes on to the next one, in one state. -/
theorem wp_cut1 {c : C} (R : St → Prop) (h : wpc F X all c b τ H (fun e s => e = .nrm ∧ R s)) (hR : ∀ s, R s → Q .nrm s) : wpc F X all c b τ H Q :=
  wpc_up c b τ H h fun e s hs => by obtain ⟨rfl, hs⟩ := hs; exact hR s hs
/-- A loop, and what it comes to, said once. -/
theorem wp_loopc {keep : List Nat} {c : C} {s0 : St} (R : Ex → St → Prop) (h0 : canon keep ⟨b, τ, H⟩ = s0) (h : J F X (.lp keep c s0 R)) (hR : ∀ e s, R e s → Q e s) : wpc F X all (.loop keep c) b τ H Q := by
  show J F X (.lp keep c (canon keep ⟨b, τ, H⟩) Q)
  rw [h0]
  exact (J.up h) Q hR
/-! ### Rules whose first premise is to be worked out -/
def HtOk (τ : Env) (H : Hp) (xs : List A) : Prop := ((xs.flatMap fun x => (x.ev τ).ids).all fun b => Nat.blt b H.length) = true
theorem ht_ok {τ : Env} {H : Hp} {xs : List A} (h : ((xs.flatMap fun x => (x.ev τ).ids).all fun b => Nat.blt b H.length) = true) : HtOk τ H xs := h
theorem wpr_callv {d : Option Nat} {nk : Bool} {f : Nat} {xs : List A} {r : R} {K : Env → Hp → Prop} {v : V} {ys : List V} (hy : (xs.map fun x => frz H (x.ev τ)) = ys) (h : Ret F X f ys v) (ht : HtOk τ H xs) (hK : wpr F X all r (put τ d v) H K) :
    wpr F X all (.op d (.call nk false f xs) r) τ H K := wpr_call hy ht h hK
def HeOk (H H0 E : Hp) : Prop := H = H0 ++ E
theorem he_nil {H : Hp} : HeOk H H [] := (List.append_nil H).symm
theorem he_ok {H H0 E : Hp} (h : H = H0 ++ E) : HeOk H H0 E := h
theorem sc_endv {want : Bool} {r : R} {d : Nat} {res : A} {K : Env → Hp → Prop} {x y : Bool} {τ0 : Env} {H0 E : Hp} {ds : List Nat} (hy : res.ev τ = .b y) (hE : HeOk H H0 E) (h : wpr F X all r ((d, .b (bif want then x && y else x || y)) :: kill τ0 ds) H K) :
    wpr F X all .done τ H fun τ1 H1 => ∃ y E, res.ev τ1 = .b y ∧ H1 = H0 ++ E ∧ wpr F X all r ((d, .b (bif want then x && y else x || y)) :: kill τ0 ds) H1 K := sc_end hy hE h
theorem wpr_run1 {d : Option Nat} {o : O} {r r' : R} {K : Env → Hp → Prop} (hc : o.isCall = false) (h : runR all (.op d o r) τ H = some (r', τ', H')) (hK : wpr F X all r' τ' H' K) : wpr F X all (.op d o r) τ H K := wpr_run h hK
theorem imp_t {P : Prop} (h : P) : true = true → P := fun _ => h
theorem imp_f {P : Prop} (h : P) : false = false → P := fun _ => h
theorem imp_x {P : Prop} : true = false → P := fun h => by cases h
theorem imp_y {P : Prop} : false = true → P := fun h => by cases h
end
end Go.Proofs.YtgamkmgdbfeigaaM
