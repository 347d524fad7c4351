/- What the machine's judgements say of the program. -/
import Derived.Test.YtgamkmgdbfeigaaM17
namespace Go.Proofs.YtgamkmgdbfeigaaM
open Go Go.RowKit

def Ex.out : Ex → Exit
  | .nrm => .normal
  | .exit id => .exit id
  | .ret => .ret

section
variable {P : Program}

/-- A piece of code, said of the program. -/
def CodeOK (P : Program) (c : C) (s : St) (Q : Ex → St → Prop) : Prop := ∀ (nt : Nat) (code : Code), trN P code = some c.nrm → chkC nt code c = true →
  ∀ (imm : Nat → Prop) (a : Act) (w : World) (ρ : Rho), Rel imm nt s a w ρ → ∀ (Q' : Exit → Act → World → Prop), (∀ e s' a' w' ρ', Q e s' → RelTo imm nt s w ρ s' a' w' ρ' → Q' e.out a' w') → code.wp P Q' a w

def LoopOK (P : Program) (c : C) (s : St) (Q : Ex → St → Prop) : Prop := ∀ (nt : Nat) (code : Code), trN P code = some c.nrm → chkC nt code c = true →
  ∀ (imm : Nat → Prop) (a : Act) (w : World) (ρ : Rho), Rel imm nt s a w ρ → ∀ (Q' : Exit → Act → World → Prop), (∀ e s' a' w' ρ', Q e s' → RelTo imm nt s w ρ s' a' w' ρ' → Q' e.out a' w') →
    ∀ (b : Frame) (k : List Item) (cs : List Frame), ∃ e a' w', Q' e a' w' ∧ Arrives P (lone (b.at a (.code code :: .inLoop code :: k)) cs w) b k cs e a' w'

theorem CodeOK.skip {s : St} {Q : Ex → St → Prop} (h : Q .nrm s) : CodeOK P .skip s Q := by
  intro nt code ht _ imm a w ρ hR Q' hq
  cases code <;> simp only [trN, C.nrm, Option.map_eq_some_iff, Option.bind_eq_some_iff, Option.some.injEq, reduceCtorEq, and_false, exists_false] at ht
  exact wp_skip (hq _ _ _ _ _ h (.refl hR))

theorem CodeOK.ret {s : St} {Q : Ex → St → Prop} (h : Q .ret s) : CodeOK P .ret s Q := by
  intro nt code ht _ imm a w ρ hR Q' hq
  cases code <;> simp only [trN, C.nrm, Option.map_eq_some_iff, Option.bind_eq_some_iff, Option.some.injEq, reduceCtorEq, and_false, exists_false] at ht
  exact wp_ret (hq _ _ _ _ _ h (.refl hR))

theorem CodeOK.exit {id : Nat} {s : St} {Q : Ex → St → Prop} (h : Q (.exit id) s) : CodeOK P (.exit id) s Q := by
  intro nt code ht _ imm a w ρ hR Q' hq
  cases code <;> simp only [trN, C.nrm, Option.map_eq_some_iff, Option.bind_eq_some_iff, Option.some.injEq, N.exit.injEq, reduceCtorEq, and_false, exists_false] at ht
  subst ht
  exact wp_exit (hq _ _ _ _ _ h (.refl hR))

theorem CodeOK.seq {x y : C} {s : St} {Q Q1 : Ex → St → Prop} (h : CodeOK P x s Q1) (hn : ∀ s', Q1 .nrm s' → CodeOK P y s' Q) (he : ∀ id s', Q1 (.exit id) s' → Q (.exit id) s') (hr : ∀ s', Q1 .ret s' → Q .ret s') : CodeOK P (.seq x y) s Q := by
  intro nt code ht hck imm a w ρ hR Q' hq
  cases code <;> simp only [trN, C.nrm, Option.map_eq_some_iff, Option.bind_eq_some_iff, Option.some.injEq, N.seq.injEq, reduceCtorEq, and_false, exists_false] at ht
  rename_i cx cy
  obtain ⟨nx, hx, ny, hy, rfl, rfl⟩ := ht
  simp only [chkC, Bool.and_eq_true] at hck
  refine wp_seq (h nt cx hx hck.1 imm a w ρ hR _ fun e s1 a1 w1 ρ1 hQ1 hT => ?_)
  cases e with
  | nrm => exact hn s1 hQ1 nt cy hy hck.2 imm a1 w1 ρ1 hT.rel Q' fun e s2 a2 w2 ρ2 hQ2 hT2 => hq e s2 a2 w2 ρ2 hQ2 (hT.trans hT2)
  | exit id => exact hq _ s1 a1 w1 ρ1 (he id s1 hQ1) hT
  | ret => exact hq _ s1 a1 w1 ρ1 (hr s1 hQ1) hT

theorem CodeOK.cnd {c : A} {x y : C} {s : St} {Q : Ex → St → Prop} (t : Bool) (hc : c.ev s.τ = .b t) (h1 : t = true → CodeOK P x s Q) (h2 : t = false → CodeOK P y s Q) : CodeOK P (.cnd c x y) s Q := by
  intro nt code ht hck imm a w ρ hR Q' hq
  cases code <;> simp only [trN, C.nrm, Option.map_eq_some_iff, Option.bind_eq_some_iff, Option.some.injEq, N.cnd.injEq, reduceCtorEq, and_false, exists_false] at ht
  rename_i cc cx cy
  obtain ⟨nc, hcc, nx, hx, ny, hy, rfl, rfl, rfl⟩ := ht
  simp only [chkC, Bool.and_eq_true] at hck
  have hr := rep_trA (w := w) (ok := okB imm w ρ) (ρ := ρ) hcc (τ := s.τ) (a := a) fun n _ => hR.tm n
  rw [hc] at hr
  exact wp_cond_split hr.bool (fun ht => h1 ht nt cx hx hck.1 imm a w ρ hR Q' hq) fun ht => h2 ht nt cy hy hck.2 imm a w ρ hR Q' hq

theorem CodeOK.blk {id : Nat} {c : C} {s : St} {Q Q1 : Ex → St → Prop} (h : CodeOK P c s Q1) (hn : ∀ s', Q1 .nrm s' → Q .nrm s') (he : ∀ j s', Q1 (.exit j) s' → if j = id then Q .nrm s' else Q (.exit j) s') (hr : ∀ s', Q1 .ret s' → Q .ret s') : CodeOK P (.blk id c) s Q := by
  intro nt code ht hck imm a w ρ hR Q' hq
  cases code <;> simp only [trN, C.nrm, Option.map_eq_some_iff, Option.bind_eq_some_iff, Option.some.injEq, N.blk.injEq, reduceCtorEq, and_false, exists_false] at ht
  obtain ⟨nx, hx, rfl, rfl⟩ := ht
  simp only [chkC] at hck
  refine wp_block (h nt _ hx hck imm a w ρ hR _ fun e s1 a1 w1 ρ1 hQ1 hT => ?_)
  cases e with
  | nrm => exact hq _ s1 a1 w1 ρ1 (hn s1 hQ1) hT
  | exit j =>
    have := he j s1 hQ1
    simp only [Ex.out, Exit.inBlock]
    split at this
    · rename_i hj
      rw [if_pos hj]
      exact hq .nrm s1 a1 w1 ρ1 this hT
    · rename_i hj
      rw [if_neg hj]
      exact hq (.exit j) s1 a1 w1 ρ1 this hT
  | ret => exact hq _ s1 a1 w1 ρ1 (hr s1 hQ1) hT

theorem CodeOK.reg (hm : P.follows .mixedOrders = true) {d : Bool} {ps : List (Nat × Nat)} {r : R} {s s' : St} {Q : Ex → St → Prop} (h : RunOK P r s s') (hp : apartB s'.τ ps = true) (hQ : Q .nrm s') : CodeOK P (.reg d ps r) s Q := by
  intro nt code ht hck imm a w ρ hR Q' hq
  cases code <;> simp only [trN, C.nrm, Option.map_eq_some_iff, Option.bind_eq_some_iff, Option.some.injEq, N.reg.injEq, reduceCtorEq, and_false, exists_false] at ht
  rename_i id ops draw
  obtain ⟨l, hl, rfl, rfl⟩ := ht
  simp only [chkC, Bool.and_eq_true] at hck
  obtain ⟨⟨⟨hok, hdst⟩, hcok⟩, hdr⟩ := hck
  obtain ⟨hf, hb, _⟩ := h none false [] hok fun _ _ h => by cases h
  have hd : ∀ x ∈ r.flat none, ∀ k, x.dst = some k → k < nt := fun x hx k hk => by
    have := List.all_eq_true.1 hdst x hx
    rw [hk] at this
    simpa [Nat.blt_eq] using this
  cases draw with
  | false =>
    refine wp_region ?_
    have := frun_seq (ops := ops) hf 0 (by simpa using hl) hd hR (Q := Q') fun a' w' ρ' hT => hq .nrm s' a' w' ρ' hQ hT
    simpa [List.range_eq_range'] using this
  | true =>
    refine wp_region_any hm ?_
    simp only [Bool.not_true, Bool.false_or, Bool.and_eq_true] at hdr
    obtain ⟨hE, hI⟩ := hR.inv.move (w' := { w with drawn := w.drawn + 1 }) rfl rfl rfl (Nat.le_refl _) fun _ _ => rfl
    have hR1 : Rel imm nt s a { w with drawn := w.drawn + 1 } ρ := ⟨hI, hR.fresh, fun t => (hR.tm t).ext hE, hR.sz, hR.df, hR.base⟩
    exact frun_draw hf hl hd (fun x hx => List.all_eq_true.1 hcok x hx) hdr.1 hdr.2 hp hR1 fun a' w' ρ' hT => hq .nrm s' a' w' ρ' hQ ⟨hT.rel, (hE.toB _).trans hT.ext, hT.low, hT.base⟩

theorem canon_to {imm : Nat → Prop} {w : World} {ρ : Rho} {nt : Nat} {s : St} {a : Act} (keep : List Nat) (h : Rel imm nt s a w ρ) : ∃ ρ', RelTo imm nt s w ρ (canon keep s) a w ρ' := by
  obtain ⟨ρ', h1, h2, h3⟩ := canon_ok keep h
  exact ⟨ρ', h1, ⟨rfl, rfl, rfl, Nat.le_refl _, fun _ _ _ => rfl, fun k _ h h' => h (h2 k h'), fun b q hb hq => .inl (by rw [h3 b hb]; exact hq)⟩, fun b hb hn => by rw [h3 b hb]; exact hn, rfl⟩

theorem LoopOK.round {keep : List Nat} {c : C} {s : St} {Q Q1 : Ex → St → Prop} (h : CodeOK P c s Q1) (hn : ∀ s', Q1 .nrm s' → LoopOK P c (canon keep s') Q) (he : ∀ id s', Q1 (.exit id) s' → Q (.exit id) s') (hr : ∀ s', Q1 .ret s' → Q .ret s') : LoopOK P c s Q := by
  intro nt code ht hck imm a w ρ hR Q' hq b k cs
  obtain ⟨e, a1, w1, hQ1, harr⟩ := h nt code ht hck imm a w ρ hR (fun e a1 w1 => ∃ e1 s1 ρ1, e = e1.out ∧ Q1 e1 s1 ∧ RelTo imm nt s w ρ s1 a1 w1 ρ1) (fun e s' a' w' ρ' hQ hT => ⟨e, s', ρ', rfl, hQ, hT⟩) b (.inLoop code :: k) cs
  obtain ⟨e1, s1, ρ1, rfl, hQ1, hT⟩ := hQ1
  cases e1 with
  | nrm =>
    obtain ⟨ρ2, hT2⟩ := canon_to keep hT.rel
    have hT3 := hT.trans hT2
    obtain ⟨e2, a2, w2, hQ2, harr2⟩ := hn s1 hQ1 nt code ht hck imm a1 w1 ρ2 hT3.rel Q' (fun e s' a' w' ρ' hQ hT' => hq e s' a' w' ρ' hQ (hT3.trans hT')) b k cs
    exact ⟨e2, a2, w2, hQ2, .of_steps (Steps.trans harr (.one step_inLoop)) harr2⟩
  | exit id => exact ⟨_, a1, w1, hq (.exit id) s1 a1 w1 ρ1 (he id s1 hQ1) hT, .pass (x := .inLoop code) rfl (fun _ _ => .inl (by simp [Ex.out])) harr⟩
  | ret => exact ⟨_, a1, w1, hq .ret s1 a1 w1 ρ1 (hr s1 hQ1) hT, .pass (x := .inLoop code) rfl (fun _ _ => .inl (by simp [Ex.out])) harr⟩

theorem CodeOK.loop {keep : List Nat} {c : C} {s : St} {Q : Ex → St → Prop} (h : LoopOK P c (canon keep s) Q) : CodeOK P (.loop keep c) s Q := by
  intro nt code ht hck imm a w ρ hR Q' hq
  cases code <;> simp only [trN, C.nrm, Option.map_eq_some_iff, Option.bind_eq_some_iff, Option.some.injEq, N.loop.injEq, reduceCtorEq, and_false, exists_false] at ht
  obtain ⟨nx, hx, rfl⟩ := ht
  simp only [chkC] at hck
  obtain ⟨ρ1, hT⟩ := canon_to keep hR
  intro b k cs
  obtain ⟨e, a', w', hQ, harr⟩ := h nt _ hx hck imm a w ρ1 hT.rel Q' (fun e s' a' w' ρ' hQ hT' => hq e s' a' w' ρ' hQ (hT.trans hT')) b k cs
  exact ⟨e, a', w', hQ, .of_steps (.one step_loop) harr⟩

/-! ### Functions -/

/-- The machine's functions are the program's. -/
def Reads (P : Program) (F : Nat → Option Fn) : Prop := ∀ (f : Nat) (fn : Fn), F f = some fn → ∃ (g : Func) (c : Code), P.funcs[f]? = some g ∧ g.name ≠ "runtime.NumGoroutine" ∧ g.body = some c ∧ trN P c = some fn.body.nrm ∧ chkC g.ntmps c fn.body = true ∧ trRes P g.results.toList = some fn.res ∧ fn.np ≤ g.ntmps

def resF (tmps : Array Value) : ResultVar → Sem Value
  | .tmp t => pure (tmps.getD t undef)
  | .cell c t => do loadVar t (← asAddr (tmps.getD c undef))

theorem results_eq (g : Func) (tmps : Array Value) : results g tmps = (do
    let vs ← g.results.mapM (resF tmps)
    pure (if h : vs.size = 1 then vs[0] else .tuple vs)) := rfl

theorem results_ok {imm : Nat → Prop} {w : World} {ρ : Rho} {nt : Nat} {s : St} {a : Act} (hR : Rel imm nt s a w ρ) : ∀ (rs : List ResultVar) (res : List Res) (vs : List V), trRes P rs = some res → resEv s res = some vs →
    ∃ xs : List Value, (rs.mapM (m := Sem) (resF a.tmps)).run P w = .ok xs w ∧ xs.length = vs.length ∧ ∀ (t : Nat) (v : V) (x : Value), vs[t]? = some v → xs[t]? = some x → Rep w (okB imm w ρ) ρ v x := by
  intro rs
  induction rs with
  | nil =>
    intro res vs ht hv
    cases ht
    cases hv
    exact ⟨[], rfl, rfl, fun t v x h => by simp at h⟩
  | cons r rs ih =>
    intro res vs ht hv
    have hhead : ∃ q res', res = q :: res' ∧ trRes P rs = some res' ∧ ∀ v, q.ev s = some v → ∃ x, (resF a.tmps r).run P w = .ok x w ∧ Rep w (okB imm w ρ) ρ v x := by
      cases r with
      | tmp t =>
        obtain ⟨res', h1, rfl⟩ := mapS ht
        refine ⟨_, res', rfl, h1, fun v hq => ?_⟩
        cases hq
        exact ⟨_, rfl, hR.tm t⟩
      | cell c t =>
        obtain ⟨g, hg, ht⟩ := bindS ht
        obtain ⟨sz, hs, ht⟩ := bindS ht
        obtain ⟨res', h1, rfl⟩ := mapS ht
        refine ⟨_, res', rfl, h1, fun v hq => ?_⟩
        simp only [Res.ev, Option.map_eq_some_iff] at hq
        obtain ⟨⟨v', H'⟩, hq, rfl⟩ := hq
        obtain ⟨rfl, A, z, hA, hz, hrep⟩ := ld_core hR.inv hg hs hq (hR.tm c) fun b _ => rfl
        refine ⟨z, ?_, hrep⟩
        show ((do loadVar t (← asAddr (a.tmps.getD c undef))) : Sem Value).run P w = .ok z w
        rw [hA]
        simpa [asAddr] using hz
    obtain ⟨q, res', rfl, h1, h2⟩ := hhead
    simp only [resEv] at hv
    obtain ⟨v, hv1, hv⟩ := bindS hv
    obtain ⟨vs', hv2, rfl⟩ := mapS hv
    obtain ⟨x, hx1, hx2⟩ := h2 v hv1
    obtain ⟨xs, hxs1, hxs2, hxs3⟩ := ih res' vs' h1 hv2
    refine ⟨x :: xs, ?_, by simp [hxs2], fun t v' x' hv' hx' => ?_⟩
    · rw [List.mapM_cons, Sem.run_bind, hx1, Result.andThen_ok, Sem.run_bind, hxs1, Result.andThen_ok]
      rfl
    · cases t with
      | zero => simp at hv' hx'; subst hv'; subst hx'; exact hx2
      | succ t => exact hxs3 t v' x' (by simpa using hv') (by simpa using hx')

theorem result_ok {imm : Nat → Prop} {w : World} {ρ : Rho} {nt : Nat} {s : St} {a : Act} (hR : Rel imm nt s a w ρ) {g : Func} {fn : Fn} {v : V} (ht : trRes P g.results.toList = some fn.res) (hv : fn.result s = some v) :
    ∃ x, (results g a.tmps).run P w = .ok x w ∧ Rep w (okB imm w ρ) ρ v x := by
  obtain ⟨vs, hvs, rfl⟩ := mapS hv
  obtain ⟨xs, h1, h2, h3⟩ := results_ok hR g.results.toList fn.res vs ht hvs
  have hrun : (results g a.tmps).run P w = .ok (if h : xs.toArray.size = 1 then xs.toArray[0] else .tuple xs.toArray) w := by
    rw [results_eq, Array.mapM_eq_mapM_toList, Sem.run_bind, Sem.run_map, h1]
    rfl
  refine ⟨_, hrun, ?_⟩
  cases vs with
  | nil =>
    have : xs = [] := List.length_eq_zero_iff.1 h2
    subst this
    exact .tu rfl fun t c x h => by simp at h
  | cons v vs =>
    cases vs with
    | nil =>
      obtain ⟨x, rfl⟩ := List.length_eq_one_iff.1 h2
      exact h3 0 v x rfl rfl
    | cons v' vs =>
      rw [dif_neg (by simp [h2])]
      exact .tu (by simp [h2]) fun t c x hc hx => h3 t c x hc (by simpa using hx)

theorem look_envOf : ∀ (xs : List V) (n t : Nat), look (envOf n xs) t = if n ≤ t then (xs[t - n]?).getD .un else .un
  | [], n, t => by simp [envOf, look]
  | x :: xs, n, t => by
    have := look_put (envOf (n + 1) xs) (some n) x t
    simp only [put] at this
    unfold envOf
    rw [this, look_envOf xs (n + 1) t]
    by_cases h : n = t
    · subst h; simp
    · simp only [Option.some.injEq, if_neg h]
      by_cases h' : n ≤ t
      · rw [if_pos h', if_pos (by omega), show t - n = (t - (n + 1)) + 1 by omega]; simp
      · rw [if_neg h', if_neg (by omega)]

theorem FnOK.mono {f : Nat} {xs : List V} {H : Hp} {R R' : V → Hp → Prop} (h : FnOK P f xs H R) (hR : ∀ v H', R v H' → R' v H') : FnOK P f xs H R' := by
  obtain ⟨h1, h2⟩ := h
  refine ⟨h1, fun imm w ρ vs hI hf hl hr => (h2 imm w ρ vs hI hf hl hr).mono fun e w' ⟨v, r, H', ρ', g1, g2, g3⟩ => ⟨v, r, H', ρ', g1, hR _ _ g2, g3⟩⟩

theorem FnOK.of {F : Nat → Option Fn} (hF : Reads P F) {f : Nat} {xs : List V} {H : Hp} {R : V → Hp → Prop} {fn : Fn} {Q : Ex → St → Prop} (hf : F f = some fn) (hn : xs.length = fn.np) (h : CodeOK P fn.body ⟨H.length, envOf 0 xs, H⟩ Q) (hx : ∀ id s, ¬ Q (.exit id) s)
    (hr : ∀ e s, Q e s → ∃ v, fn.result s = some v ∧ R v s.H) : FnOK P f xs H R := by
  obtain ⟨g, c, h1, h2, h3, h4, h5, h6, h7⟩ := hF f fn hf
  refine ⟨⟨g, h1, h2, by rw [h3]; rfl⟩, fun imm w ρ vs hI hfr hl hrep => ?_⟩
  have hR : Rel imm g.ntmps ⟨H.length, envOf 0 xs, H⟩ { tmps := vs.toArray ++ Array.replicate (g.ntmps - vs.toArray.size) undef, defers := [] } w ρ := by
    refine ⟨hI, hfr, fun t => ?_, by simp; omega, rfl, Nat.le_refl _⟩
    rw [look_envOf, if_pos (Nat.zero_le _), Nat.sub_zero]
    cases hx : xs[t]? with
    | none => exact .un _
    | some x =>
      have ht : t < xs.length := (List.getElem?_eq_some_iff.1 hx).1
      have hv : vs[t]? = some vs[t] := by simp [show t < vs.length by omega]
      have := hrep t x _ hx hv
      simp only [Option.getD_some, Array.getD_eq_getD_getElem?]
      rw [Array.getElem?_append_left (by simp; omega)]
      simpa [hv] using this
  refine calls_of_wp h1 h3 (h g.ntmps c h4 h5 imm _ w ρ hR _ fun e s' a' w' ρ' hQ hT => ?_)
  have fin : a'.defers = [] ∧ ∃ v, (results g a'.tmps).run P w' = .ok v w' ∧ ∃ v' r H' ρ', Ending.returned v = .returned v' ∧ R r H' ∧ Rep w' (okB imm w' ρ') ρ' r v' ∧ Ext w ρ w' ρ' ∧ Inv imm w' ρ' (hget H') ∧ (∀ b, H'.length ≤ b → ρ' b = none) ∧ H.length ≤ H'.length ∧ ∀ b, b < H.length → ρ b = none → ρ' b = none := by
    obtain ⟨v, hv, hRv⟩ := hr e s' hQ
    obtain ⟨x, hx1, hx2⟩ := result_ok hT.rel h6 hv
    refine ⟨hT.rel.df, x, hx1, x, v, s'.H, ρ', rfl, hRv, hx2, hT.ext.toE hfr, hT.rel.inv, hT.rel.fresh, ?_, hT.low⟩
    have := hT.rel.base
    rw [hT.base] at this
    exact this
  cases e with
  | nrm => exact fin
  | ret => exact fin
  | exit id => exact (hx id s' hQ).elim

def Sem' (P : Program) : Jd → Prop
  | .fn f xs H R => FnOK P f xs H R
  | .wp c s Q => CodeOK P c s Q
  | .lp _ c s Q => LoopOK P c s Q
  | .run r s s' => RunOK P r s s'
  | .stp o τ H v H' => StpFull P o τ H v H'

/-- What the machine's judgements say of the program is so. -/
theorem J.sound (hm : P.follows .mixedOrders = true) {F : Nat → Option Fn} (hF : Reads P F) {X : Contracts} (hX : ∀ f xs H R, X f xs H R → FnOK P f xs H R) {j : Jd} (h : J F X j) : Sem' P j := by
  induction h with
  | fn fn Q hf hn _ hx hr ih => exact FnOK.of hF hf hn ih hx hr
  | ext R0 h hR => exact (hX _ _ _ _ h).mono hR
  | skip h => exact CodeOK.skip h
  | reg _ hp hq ih => exact CodeOK.reg hm ih hp hq
  | seq Q' _ _ he hr ih1 ih2 => exact CodeOK.seq ih1 ih2 he hr
  | cnd t hc _ _ ih1 ih2 => exact CodeOK.cnd t hc ih1 ih2
  | blk Q' _ hn he hr ih => exact CodeOK.blk ih hn he hr
  | loop _ ih => exact CodeOK.loop ih
  | exit h => exact CodeOK.exit h
  | ret h => exact CodeOK.ret h
  | lp Q' _ _ he hr ih1 ih2 => exact LoopOK.round ih1 ih2 he hr
  | done => exact RunOK.done
  | op v H' _ ht _ ih1 ih2 => exact RunOK.op ih1 ht ih2
  | sc x y s1 E hc _ hy hE _ ih1 ih2 => exact RunOK.sc x y s1 E hc ih1 hy hE ih2
  | scT y s1 hc _ hy _ ih1 ih2 => exact RunOK.scT y s1 hc ih1 hy ih2
  | scF x hc hx _ ih => exact RunOK.scF x hc hx ih
  | pure h => exact StpFull.pure h
  | call fr _ hk ih => exact StpFull.call ih hk
  | callr _ hl ih => exact StpFull.callr ih hl
  | callv f caps fr hg _ hk ih => exact StpFull.callv hg ih hk
  | callvr f caps hg _ hl ih => exact StpFull.callvr hg ih hl
end

/-! ### A table of functions -/

def FL : List (Nat × Fn) → Nat → Option Fn
  | [], _ => none
  | (g, fn) :: r, f => bif Nat.beq g f then some fn else FL r f

def Read (P : Program) (f : Nat) (fn : Fn) : Prop := ∃ (g : Func) (c : Code), P.funcs[f]? = some g ∧ g.name ≠ "runtime.NumGoroutine" ∧ g.body = some c ∧ trN P c = some fn.body.nrm ∧ chkC g.ntmps c fn.body = true ∧ trRes P g.results.toList = some fn.res ∧ fn.np ≤ g.ntmps

theorem Reads.nil (P : Program) : Reads P (FL []) := fun f fn h => by cases h
theorem Reads.cons {P : Program} {l : List (Nat × Fn)} {f : Nat} {fn : Fn} (h : Read P f fn) (hl : Reads P (FL l)) : Reads P (FL ((f, fn) :: l)) := by
  intro f' fn' hf
  unfold FL at hf
  cases hb : Nat.beq f f' with
  | true =>
    rw [hb] at hf
    cases hf
    rw [← Nat.eq_of_beq_eq_true hb]
    exact h
  | false => rw [hb] at hf; exact hl f' fn' hf

def Res.same : Res → Res → Bool
  | .t n, .t m => Nat.beq n m
  | .c n g s, .c m g' s' => Nat.beq n m && (g == g') && Nat.beq s s'
  | _, _ => false

def resSame : List Res → List Res → Bool
  | [], [] => true
  | x :: xs, y :: ys => x.same y && resSame xs ys
  | _, _ => false

theorem resSame_eq : ∀ {xs ys : List Res}, resSame xs ys = true → xs = ys
  | [], [], _ => rfl
  | [], _ :: _, h => by cases h
  | _ :: _, [], h => by cases h
  | x :: xs, y :: ys, h => by
    unfold resSame at h
    rw [Bool.and_eq_true] at h
    have hx : x = y := by
      cases x <;> cases y <;> simp [Res.same] at h ⊢
      · exact h.1
      · exact ⟨h.1.1.1, h.1.1.2, h.1.2⟩
    rw [hx, resSame_eq h.2]

/-- The checks of a function. -/
def rdB (P : Program) (g : Func) (fn : Fn) : Bool := match g.body with
  | some c => chkC g.ntmps c fn.body && (match trRes P g.results.toList with
    | some l => resSame l fn.res
    | none => false) && Nat.ble fn.np g.ntmps
  | none => false

theorem Read.of {P : Program} {f : Nat} {g : Func} {fn : Fn} (hf : P.funcs[f]? = some g) (hn : g.name ≠ "runtime.NumGoroutine") (hb : g.body.bind (trN P) = some fn.body.nrm) (hc : rdB P g fn = true) : Read P f fn := by
  obtain ⟨c, h1, h2⟩ := bindS hb
  unfold rdB at hc
  rw [h1] at hc
  simp only [Bool.and_eq_true] at hc
  obtain ⟨⟨h3, h4⟩, h5⟩ := hc
  split at h4
  · rename_i l hl
    exact ⟨g, c, hf, hn, h1, h2, h3, by rw [hl, resSame_eq h4], Nat.le_of_ble_eq_true h5⟩
  · cases h4

#print axioms J.sound
end Go.Proofs.YtgamkmgdbfeigaaM
