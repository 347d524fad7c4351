/- Working out pieces of code: regions run as far as the next call. -/
import Derived.Test.YtgamkmgdbfeigaaM19
namespace Go.Proofs.YtgamkmgdbfeigaaM
open Go Go.RowKit

section
variable {F : Nat → Option Fn} {X : Contracts}

def O.isCall : O → Bool
  | .call _ _ _ _ => true
  | .callv _ _ _ _ => true
  | _ => false

/-- Operations that leave the memory as it is. -/
def R.still : R → Bool
  | .done => true
  | .op _ o r => (o.isPure || (match o with | .ld _ _ _ => true | _ => false)) && r.still
  | .sc _ _ _ _ _ _ => false

def evT (τ : Env) (H : Hp) (o : O) : Option (V × Hp) := bif (o.touch τ H).all (fun b => Nat.blt b H.length) then o.evP τ H else none

/-- A region's run as far as the next call, or the next part on a condition that cannot be carried out in any case. -/
def runR (all : Bool) : R → Env → Hp → Option (R × Env × Hp)
  | .done, τ, H => some (.done, τ, H)
  | .op d o r, τ, H => match o.isCall with
    | true => some (.op d o r, τ, H)
    | false => match evT τ H o with
      | some (v, H') => runR all r (put τ d v) H'
      | none => none
  | .sc c want its d res r, τ, H => match all && its.still with
    | true => match look τ c with
      | .b x => match runR all its τ H with
        | some (.done, τ1, _) => match res.ev τ1 with
          | .b y => runR all r ((d, .b (bif want then x && y else x || y)) :: kill τ its.dsts) H
          | _ => none
        | _ => none
      | _ => none
    | false => some (.sc c want its d res r, τ, H)

theorem evT_some {τ : Env} {H H' : Hp} {o : O} {v : V} (h : evT τ H o = some (v, H')) : o.evP τ H = some (v, H') ∧ ((o.touch τ H).all fun b => Nat.blt b H.length) = true := by
  obtain ⟨h1, h2⟩ := condS h
  exact ⟨h2, h1⟩

theorem opW_pure {τ : Env} {H H' : Hp} {o : O} {v : V} {K : V → Hp → Prop} (hc : o.isCall = false) (h : evT τ H o = some (v, H')) (hK : K v H') : opW F X τ H o K := by
  obtain ⟨h1, h2⟩ := evT_some h
  have : PureW (o.evP τ H) ((o.touch τ H).all fun b => Nat.blt b H.length) K := ⟨v, H', h1, h2, hK⟩
  cases o <;> first | exact this | (cases hc; done)

theorem ld_same {τ : Env} {H H' : Hp} {g : Bool} {sz : Nat} {a : A} {v : V} (he : (O.ld g sz a).evP τ H = some (v, H')) : H' = H := by
  simp only [O.evP] at he
  split at he
  · split at he
    · obtain ⟨_, he⟩ := condS he
      obtain ⟨_, _, he⟩ := bindS he
      exact some_pair (f := fun v => v) he
    · obtain ⟨_, he⟩ := condS he
      exact some_pair (f := fun v => v) he
    · cases he
  · exact some_pair (f := fun v => v) he
  · cases he

theorem still_same {all : Bool} : ∀ {r : R} {τ τ1 : Env} {H H1 : Hp} {r' : R}, r.still = true → runR all r τ H = some (r', τ1, H1) → H1 = H
  | .done, τ, τ1, H, H1, r', _, h => by cases h; rfl
  | .op d o r, τ, τ1, H, H1, r', hs, h => by
    unfold R.still at hs
    rw [Bool.and_eq_true] at hs
    unfold runR at h
    split at h
    · cases h; rfl
    · split at h
      · rename_i v H' he
        have h1 : H' = H := by
          have he := (evT_some he).1
          have := hs.1
          rw [Bool.or_eq_true] at this
          rcases this with hp | hp
          · exact pure_same he hp
          · cases o <;> first | (cases hp; done) | exact ld_same he
        rw [still_same hs.2 h, h1]
      · cases h
  | .sc _ _ _ _ _ _, _, _, _, _, _, hs, _ => by cases hs

theorem wpr_run {all : Bool} : ∀ {r : R} {τ τ' : Env} {H H' : Hp} {r' : R} {K : Env → Hp → Prop}, runR all r τ H = some (r', τ', H') → wpr F X all r' τ' H' K → wpr F X all r τ H K
  | .done, τ, τ', H, H', r', K, h, hK => by cases h; exact hK
  | .op d o r, τ, τ', H, H', r', K, h, hK => by
    unfold runR at h
    split at h
    · cases h; exact hK
    · rename_i hc
      split at h
      · rename_i v H1 he
        unfold wpr
        exact opW_pure hc he (wpr_run h hK)
      · cases h
  | .sc c want its d res r, τ, τ', H, H', r', K, h, hK => by
    unfold runR at h
    split at h
    · rename_i hst
      rw [Bool.and_eq_true] at hst
      obtain ⟨rfl, hst⟩ := hst
      split at h
      · rename_i x hx
        split at h
        · rename_i τ1 H1 hits
          split at h
          · rename_i y hy
            have hH := still_same hst hits
            subst hH
            unfold wpr
            rw [hx]
            simp only [cond_true]
            exact wpr_run hits ⟨y, [], hy, by simp, wpr_run h hK⟩
          · cases h
        · cases h
      · cases h
    · cases h; exact hK

theorem boolD {c : Bool} {p : Prop} [Decidable p] (h : c = true ↔ p) : c = decide p := by
  cases c with
  | true => exact (decide_eq_true (h.1 rfl)).symm
  | false => exact (decide_eq_false fun hp => by have := h.2 hp; cases this).symm
theorem beqD (a b : Nat) : Nat.beq a b = decide (a = b) := boolD ⟨Nat.eq_of_beq_eq_true, fun h => by subst h; exact Nat.beq_refl a⟩
theorem bltD (a b : Nat) : Nat.blt a b = decide (a < b) := boolD (by rw [Nat.blt_eq])
theorem bleD (a b : Nat) : Nat.ble a b = decide (a ≤ b) := boolD (by rw [Nat.ble_eq])

/-! ### Rules -/
variable {all : Bool} {b : Nat} {τ τ' : Env} {H H' : Hp} {Q : Ex → St → Prop}

theorem wp_skip' (h : Q .nrm ⟨b, τ, H⟩) : wpc F X all .skip b τ H Q := h
theorem wp_seq' {x y : C} (h : wpc F X all x b τ H (seqK (fun s => wpc F X all y s.base s.τ s.H Q) Q)) : wpc F X all (.seq x y) b τ H Q := h
theorem wp_cnd' {c : A} {x y : C} {t : Bool} (hc : c.ev τ = .b t) (h1 : t = true → wpc F X all x b τ H Q) (h2 : t = false → wpc F X all y b τ H Q) : wpc F X all (.cnd c x y) b τ H Q := by
  unfold wpc; rw [hc]; exact ⟨h1, h2⟩
theorem wp_blk' {id : Nat} {c : C} (h : wpc F X all c b τ H (blkK id Q)) : wpc F X all (.blk id c) b τ H Q := h
theorem wp_exit' {id : Nat} (h : Q (.exit id) ⟨b, τ, H⟩) : wpc F X all (.exit id) b τ H Q := h
theorem wp_ret' (h : Q .ret ⟨b, τ, H⟩) : wpc F X all .ret b τ H Q := h
/-- A region without calls. -/
theorem wp_reg' {d : Bool} {ps : List (Nat × Nat)} {r : R} (h : runR all r τ H = some (.done, τ', H')) (hp : apartB τ' ps = true) (hQ : Q .nrm ⟨b, τ', H'⟩) : wpc F X all (.reg d ps r) b τ H Q := wpr_run h ⟨hp, hQ⟩
/-- A region with calls. -/
theorem wp_regc' {d : Bool} {ps : List (Nat × Nat)} {r : R} (h : wpr F X all r τ H fun τ' H' => apartB τ' ps = true ∧ Q .nrm ⟨b, τ', H'⟩) : wpc F X all (.reg d ps r) b τ H Q := h
def packV : List V → V
  | [v] => v
  | vs => .tu vs
theorem fin_nrm {res : List Res} {R : V → Hp → Prop} {vs : List V} (h : resEv ⟨b, τ, H⟩ res = some vs) (hR : R (packV vs) H) : finQ res R .nrm ⟨b, τ, H⟩ := by
  refine ⟨_, ?_, hR⟩
  rw [h]
  cases vs with
  | nil => rfl
  | cons v vs => cases vs <;> rfl
theorem fin_ret {res : List Res} {R : V → Hp → Prop} {vs : List V} (h : resEv ⟨b, τ, H⟩ res = some vs) (hR : R (packV vs) H) : finQ res R .ret ⟨b, τ, H⟩ := by
  refine ⟨_, ?_, hR⟩
  rw [h]
  cases vs with
  | nil => rfl
  | cons v vs => cases vs <;> rfl
theorem wp_cnd_t {c : A} {x y : C} (hc : c.ev τ = .b true) (h : wpc F X all x b τ H Q) : wpc F X all (.cnd c x y) b τ H Q := wp_cnd' hc (fun _ => h) fun h => by cases h
theorem wp_cnd_f {c : A} {x y : C} (hc : c.ev τ = .b false) (h : wpc F X all y b τ H Q) : wpc F X all (.cnd c x y) b τ H Q := wp_cnd' hc (fun h => by cases h) fun _ => h
theorem wp_cnd_d {c : A} {x y : C} {p : Prop} [Decidable p] (hc : c.ev τ = .b (decide p)) (h1 : p → wpc F X all x b τ H Q) (h2 : ¬ p → wpc F X all y b τ H Q) : wpc F X all (.cnd c x y) b τ H Q :=
  wp_cnd' hc (fun h => h1 (of_decide_eq_true h)) fun h => h2 (of_decide_eq_false h)
theorem seqK_n {y : C} (h : wpc F X all y b τ H Q) : seqK (fun s => wpc F X all y s.base s.τ s.H Q) Q .nrm ⟨b, τ, H⟩ := h
theorem seqK_e {k : St → Prop} {i : Nat} {s : St} (h : Q (.exit i) s) : seqK k Q (.exit i) s := h
theorem seqK_r {k : St → Prop} {s : St} (h : Q .ret s) : seqK k Q .ret s := h
theorem blkK_n {i : Nat} {s : St} (h : Q .nrm s) : blkK i Q .nrm s := h
theorem blkK_e {i : Nat} {s : St} (h : Q .nrm s) : blkK i Q (.exit i) s := by
  show if i = i then Q .nrm s else Q (.exit i) s
  rw [if_pos rfl]; exact h
theorem blkK_x {i j : Nat} {s : St} (hj : j ≠ i) (h : Q (.exit j) s) : blkK i Q (.exit j) s := by
  show if j = i then Q .nrm s else Q (.exit j) s
  rw [if_neg hj]; exact h
theorem blkK_r {i : Nat} {s : St} (h : Q .ret s) : blkK i Q .ret s := h
/-- A loop: its states at the head, what holds there, a measure that falls. -/
theorem wp_loop' {α : Type} {keep : List Nat} {c : C} (st : α → St) (I : α → Prop) (μ : α → Nat) (a : α) (h0 : canon keep ⟨b, τ, H⟩ = st a) (hI : I a)
    (h : ∀ a, I a → wpc F X all c (st a).base (st a).τ (st a).H (seqK (fun s' => ∃ a', canon keep s' = st a' ∧ I a' ∧ μ a' < μ a) Q)) : wpc F X all (.loop keep c) b τ H Q := by
  show J F X (.lp keep c (canon keep ⟨b, τ, H⟩) Q)
  rw [h0]
  exact lp_rule all st I μ h a hI
theorem seqK_l {k : St → Prop} {s : St} (h : k s) : seqK k Q .nrm s := h
theorem ret_i {k : IntKind} {m n : Int} {H : Hp} (h : m = n) : frR H (packV [.i k m]) = .i k n ∧ frsR H (packV [.i k m]) = true := by subst h; exact ⟨rfl, rfl⟩
theorem ret_b {x y : Bool} {H : Hp} (h : x = y) : frR H (packV [.b x]) = .b y ∧ frsR H (packV [.b x]) = true := by subst h; exact ⟨rfl, rfl⟩
theorem cNew_end {base : Nat} {H : Hp} {n k : Nat} {o : Olds} (h : o[k]? = none) : cNew base H n k o = ([], o) := by
  cases n with
  | zero => rfl
  | succ n => unfold cNew; rw [h]
theorem cNew_step {base : Nat} {H N : Hp} {n k : Nat} {o o1 o2 : Olds} {q : Option Nat × Nat × Nat} {B : Option Blk} (h : o[k]? = some q) (h1 : cBlk base (oldBlk H q) o = (B, o1)) (h2 : cNew base H n (k + 1) o1 = (N, o2)) : cNew base H (n + 1) k o = (B :: N, o2) := by
  unfold cNew
  rw [h]
  simp only [h1, h2]
/-- A loop's head, worked out. -/
theorem canon_eq {keep : List Nat} {e : Env} {o1 o2 o3 : Olds} {B N : Hp} (h1 : cEnv b τ keep [] = (e, o1)) (h2 : cBlks b (H.take b) o1 = (B, o2)) (h3 : cNew b H 40 0 o2 = (N, o3)) (hN : o3.length = N.length) : canon keep ⟨b, τ, H⟩ = ⟨b, e, B ++ N⟩ := by
  simp only [canon, h1, h2, h3, hN, Nat.sub_self, List.replicate, List.append_nil]
/-- The same where no rows of its own are met. -/
theorem canon_0 {keep : List Nat} {e : Env} (h1 : cEnv 0 τ keep [] = (e, [])) : canon keep ⟨0, τ, H⟩ = ⟨0, e, []⟩ :=
  canon_eq h1 rfl (cNew_end rfl) rfl
theorem wpr_done {K : Env → Hp → Prop} (h : K τ H) : wpr F X all .done τ H K := h
theorem wpr_fin {ps : List (Nat × Nat)} (hp : apartB τ ps = true) (hQ : Q .nrm ⟨b, τ, H⟩) : wpr F X all .done τ H fun τ' H' => apartB τ' ps = true ∧ Q .nrm ⟨b, τ', H'⟩ := ⟨hp, hQ⟩
theorem sc_run {c : Nat} {want : Bool} {its r : R} {d : Nat} {res : A} {K : Env → Hp → Prop} {x : Bool} (hc : look τ c = .b x)
    (h : wpr F X false its τ H (fun τ1 H1 => ∃ y E, res.ev τ1 = .b y ∧ H1 = H ++ E ∧ wpr F X false r ((d, .b (bif want then x && y else x || y)) :: kill τ its.dsts) H1 K)) : wpr F X false (.sc c want its d res r) τ H K := by
  unfold wpr
  rw [hc]
  exact .inl h
theorem sc_skip {c : Nat} {want : Bool} {its r : R} {d : Nat} {res : A} {K : Env → Hp → Prop} (hc : look τ c = .b (!want))
    (h : wpr F X false r ((d, .b (!want)) :: kill τ its.dsts) H K) : wpr F X false (.sc c want its d res r) τ H K := by
  unfold wpr
  rw [hc]
  exact .inr (.inl ⟨rfl, h⟩)
theorem sc_t {c : Nat} {want : Bool} {its r : R} {d : Nat} {res : A} {K : Env → Hp → Prop} (hc : look τ c = .b want)
    (h : wpr F X false its τ H (fun τ1 H1 => ∃ y, res.ev τ1 = .b y ∧ wpr F X false r ((d, .b y) :: kill τ its.dsts) H1 K)) : wpr F X false (.sc c want its d res r) τ H K := by
  unfold wpr
  rw [hc]
  exact .inr (.inr ⟨rfl, h⟩)
/-- In any case, with all=true. -/
theorem sc_any {c : Nat} {want : Bool} {its r : R} {d : Nat} {res : A} {K : Env → Hp → Prop} {x : Bool} (hc : look τ c = .b x)
    (h : wpr F X true its τ H (fun τ1 H1 => ∃ y E, res.ev τ1 = .b y ∧ H1 = H ++ E ∧ wpr F X true r ((d, .b (bif want then x && y else x || y)) :: kill τ its.dsts) H1 K)) : wpr F X true (.sc c want its d res r) τ H K := by
  unfold wpr
  rw [hc]
  exact h
theorem sc_end {all : Bool} {want : Bool} {r : R} {d : Nat} {res : A} {K : Env → Hp → Prop} {x y : Bool} {τ0 : Env} {H0 E : Hp} {ds : List Nat} (hy : res.ev τ = .b y) (hE : H = H0 ++ E) (h : wpr F X all r ((d, .b (bif want then x && y else x || y)) :: kill τ0 ds) H K) :
    wpr F X all .done τ H fun τ1 H1 => ∃ y E, res.ev τ1 = .b y ∧ H1 = H0 ++ E ∧ wpr F X all r ((d, .b (bif want then x && y else x || y)) :: kill τ0 ds) H1 K := ⟨y, E, hy, hE, h⟩
/-- A call by value of a function that answers with something new. -/
theorem wpr_call {d : Option Nat} {nk : Bool} {f : Nat} {xs : List A} {r : R} {K : Env → Hp → Prop} {v : V} {ys : List V} (hy : (xs.map fun x => frz H (x.ev τ)) = ys) (ht : ((xs.flatMap fun x => (x.ev τ).ids).all fun b => Nat.blt b H.length) = true) (h : Ret F X f ys v) (hK : wpr F X all r (put τ d v) H K) :
    wpr F X all (.op d (.call nk false f xs) r) τ H K := by
  subst hy
  exact ⟨ht, CallW.ret h hK⟩
end
end Go.Proofs.YtgamkmgdbfeigaaM
