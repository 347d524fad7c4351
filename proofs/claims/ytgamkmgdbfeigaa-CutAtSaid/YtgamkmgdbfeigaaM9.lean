/- What the machine's judgements say of the program: calls. -/
import Derived.Test.YtgamkmgdbfeigaaM8
namespace Go.Proofs.YtgamkmgdbfeigaaM
open Go Go.RowKit

def callable (P : Program) (f : FuncId) : Prop := ∃ fn, P.funcs[f]? = some fn ∧ fn.name ≠ "runtime.NumGoroutine" ∧ fn.body.isSome = true

/-- A function, said of the program. -/
def FnOK (P : Program) (f : Nat) (xs : List V) (H : Hp) (R : V → Hp → Prop) : Prop :=
  callable P f ∧ ∀ (imm : Nat → Prop) (w : World) (ρ : Rho) (vs : List Value), Inv imm w ρ (hget H) → (∀ b, H.length ≤ b → ρ b = none) → vs.length = xs.length →
    (∀ (t : Nat) (x : V) (v : Value), xs[t]? = some x → vs[t]? = some v → Rep w (okB imm w ρ) ρ x v) →
    Calls P f vs.toArray w fun e w' => ∃ v r H' ρ', e = .returned v ∧ R r H' ∧ Rep w' (okB imm w' ρ') ρ' r v ∧ Ext w ρ w' ρ' ∧ Inv imm w' ρ' (hget H') ∧ (∀ b, H'.length ≤ b → ρ' b = none) ∧ H.length ≤ H'.length ∧ ∀ b, b < H.length → ρ b = none → ρ' b = none

section
variable {P : Program} {imm : Nat → Prop} {w w' : World} {ρ ρ' : Rho} {η η' : Nat → Option Blk}

theorem run_callFunc {f : FuncId} (h : callable P f) (args : Array Value) : (callFunc f args).run P w = .ok (.enter f args) w := by
  obtain ⟨fn, h1, h2, h3⟩ := h
  obtain ⟨c, hb⟩ := Option.isSome_iff_exists.1 h3
  simp [callFunc, h1, h2, hb]

/-- The world goes on, and nothing of ours is touched. -/
theorem Inv.move (hI : Inv imm w ρ η) (ho : w'.os = w.os) (ht : w'.tape = w.tape) (hu : w'.output = w.output) (hsz : w.heap.size ≤ w'.heap.size) (hh : ∀ k, k < w.heap.size → w'.heap[k]? = w.heap[k]?) : Ext w ρ w' ρ ∧ Inv imm w' ρ η := by
  have hE : Ext w ρ w' ρ := ⟨ho, ht, hu, hsz, fun k hk _ => hh k hk, fun _ _ h => h, rhoLe.refl ρ⟩
  exact ⟨hE, hI.step hE (fun b v ty es hb => .inl ⟨hb, rfl, fun k hk => hh k (hI.lt ⟨b, v, ty, es, hb, hk⟩)⟩) fun b hb => hI.dead b hb⟩

def idsR : V → List Nat
  | .tu cs => cs.flatMap V.ids
  | v => v.ids

theorem frR_ok (hI : Inv imm w ρ η) {ids : List Nat} {H : Hp} {v : V} {x : Value} (h : Rep w (okB imm w ρ) ρ v x) (hp : ∀ b ∈ idsR v, η b = hget H b ∧ b ∈ ids) : Rep w (okF imm w ρ ids) noRho (frR H v) x := by
  cases h with
  | tu hl h =>
    rename_i cs vs
    refine .tu (by simpa using hl) fun t c y hc hy => ?_
    rw [List.getElem?_map] at hc
    obtain ⟨c', hc', rfl⟩ := mapS hc
    exact frz_ok hI (h t c' y hc' hy) fun b hb => hp b (by simp only [idsR, List.mem_flatMap]; exact ⟨c', List.mem_of_getElem? hc', hb⟩)
  | ag hl h1 h => exact frz_ok hI (.ag hl h1 h) hp
  | fn hl h => exact frz_ok hI (.fn hl h) hp
  | un x => exact frz_ok hI (.un x) hp
  | b x => exact frz_ok hI (.b x) hp
  | i k n => exact frz_ok hI (.i k n) hp
  | p x h1 => exact frz_ok hI (.p x h1) hp
  | sl g hn hc he ha h1 h => exact frz_ok hI (.sl g hn hc he ha h1 h) hp
  | nl ty es => exact frz_ok hI (.nl ty es) hp
  | rf hd hc ha h => exact frz_ok hI (.rf hd hc ha h) hp
  | pt hd h => exact frz_ok hI (.pt hd h) hp
  | ip f ho hc h1 h => exact frz_ok hI (.ip f ho hc h1 h) hp

/-- What is free of all that was there before needs no more than new blocks. -/
theorem frL_new (hI : Inv imm w ρ η) {ok : Nat → Prop} {H : Hp} {c : V} {x : Value} (h : Rep w (okB imm w ρ) ρ c x) (hp : ∀ b, η b = hget H b) (hf : frsL H c = true) (hok : ∀ k, aliveB ρ k → ok k) : Rep w ok noRho (frL H c) x := by
  cases h with
  | un x => exact .un x
  | b x => exact .b x
  | i k n => exact .i k n
  | p x h1 => exact .p x h1
  | ag => cases hf
  | tu => cases hf
  | fn => cases hf
  | pt => cases hf
  | ip => cases hf
  | sl => cases hf
  | nl ty es => exact .sl (fun _ _ => undef) rfl (Nat.le_refl _) (fun j e h => by simp at h) (fun h => absurd h (Nat.lt_irrefl 0)) (fun j t h => absurd h (Nat.not_lt_zero j)) fun j t e c h => by simp at h
  | rf hd hc ha h =>
    rename_i b es off ln a c
    have hrep := frL_ok hI (ids := [b]) (H := H) (.rf hd hc ha h) fun b' hb' => by simp [idL] at hb'; subst hb'; exact ⟨hp b', by simp⟩
    simp only [frL] at hrep ⊢
    simp only [frsL] at hf
    split at hrep
    · rename_i ty es' sc xs hB
      rw [hB] at hf
      simp only at hf
      cases hb : Nat.beq es es' with
      | false => exact .un _
      | true =>
        obtain rfl := Nat.eq_of_beq_eq_true hb
        rw [hb] at hrep
        simp only [cond_true] at hrep ⊢
        obtain ⟨v, ty', es', hal, hBk⟩ := hI.alive hd (by rw [hp b]; exact hB)
        obtain ⟨rfl, rfl, hrow, hsc⟩ := hBk
        have hsc := hsc hf
        generalize hxs : (xs.drop off).take ln = zs at hrep
        have hzs : ∀ e ∈ zs, e.scal = true := fun e he => hsc e (by rw [← hxs] at he; exact List.mem_of_mem_drop (List.mem_of_mem_take he))
        cases hrep with
        | sl g hn hc' he ha' h1 h' =>
          refine .sl g hn hc' he (fun h0 => ?_) h1 fun j t e c hj hc => ?_
          · obtain ⟨A, e1, e2, e3⟩ := ha' h0
            refine ⟨A, e1, ?_, e3⟩
            obtain ⟨_, hRef⟩ := h v ty es hal
            rcases hRef with ⟨g', n, cap, hv, r1, r2, r3⟩ | ⟨_, _, h0', _⟩ | ⟨h0', _⟩
            · cases r3
              cases e1
              exact hok g' ⟨b, v, ty, es, hal, by rw [hv]; rfl⟩
            · omega
            · omega
          · have := hzs e (List.mem_of_getElem? hj)
            unfold V.scal at this
            rw [List.all_eq_true] at this
            exact (h' j t e c hj hc).isSc (this c (List.mem_of_getElem? hc))
    · exact .un _

theorem frz_new (hI : Inv imm w ρ η) {ok : Nat → Prop} {H : Hp} {v : V} {x : Value} (h : Rep w (okB imm w ρ) ρ v x) (hp : ∀ b, η b = hget H b) (hf : frsV H v = true) (hok : ∀ k, aliveB ρ k → ok k) : Rep w ok noRho (frz H v) x := by
  cases h with
  | ag hl h1 h =>
    refine .ag (by simpa using hl) h1 fun t c y hc hy => ?_
    rw [List.getElem?_map] at hc
    obtain ⟨c', hc', rfl⟩ := mapS hc
    exact frL_new hI (h t c' y hc' hy) hp (List.all_eq_true.1 hf c' (List.mem_of_getElem? hc')) hok
  | fn hl h => cases hf
  | un x => exact frL_new hI (.un x) hp hf hok
  | b x => exact frL_new hI (.b x) hp hf hok
  | i k n => exact frL_new hI (.i k n) hp hf hok
  | p x h1 => exact frL_new hI (.p x h1) hp hf hok
  | tu hl h => cases hf
  | sl g hn hc he ha h1 h => cases hf
  | nl ty es => exact frL_new hI (.nl ty es) hp hf hok
  | rf hd hc ha h => exact frL_new hI (.rf hd hc ha h) hp hf hok
  | pt hd h => cases hf
  | ip f ho hc h1 h => cases hf

theorem frR_new (hI : Inv imm w ρ η) {ok : Nat → Prop} {H : Hp} {v : V} {x : Value} (h : Rep w (okB imm w ρ) ρ v x) (hp : ∀ b, η b = hget H b) (hf : frsR H v = true) (hok : ∀ k, aliveB ρ k → ok k) : Rep w ok noRho (frR H v) x := by
  cases h with
  | tu hl h =>
    refine .tu (by simpa using hl) fun t c y hc hy => ?_
    rw [List.getElem?_map] at hc
    obtain ⟨c', hc', rfl⟩ := mapS hc
    exact frz_new hI (h t c' y hc' hy) hp (List.all_eq_true.1 hf c' (List.mem_of_getElem? hc')) hok
  | ag hl h1 h => exact frz_new hI (.ag hl h1 h) hp hf hok
  | fn hl h => cases hf
  | un x => exact frz_new hI (.un x) hp hf hok
  | b x => exact frz_new hI (.b x) hp hf hok
  | i k n => exact frz_new hI (.i k n) hp hf hok
  | p x h1 => exact frz_new hI (.p x h1) hp hf hok
  | sl g hn hc he ha h1 h => cases hf
  | nl ty es => exact frz_new hI (.nl ty es) hp hf hok
  | rf hd hc ha h => exact frz_new hI (.rf hd hc ha h) hp hf hok
  | pt hd h => cases hf
  | ip f ho hc h1 h => cases hf

/-- A call by value: arguments that are only read, a memory of its own. -/
theorem byval (hI : Inv imm w ρ η) {f : Nat} {us : List V} {vs : List Value} {ids : List Nat} {H : Hp} {v : V} {fr : Bool} (hl : vs.length = us.length) (hr : ∀ (t : Nat) (u : V) (x : Value), us[t]? = some u → vs[t]? = some x → Rep w (okF imm w ρ ids) noRho u x)
    (hη : ∀ b ∈ ids, η b = hget H b) (h : FnOK P f us [] fun r H' => frR H' r = v ∧ (fr = true → frsR H' r = true)) :
    Calls P f vs.toArray w fun e w' => ∃ x ρ', e = .returned x ∧ Rep w' (okB imm w' ρ') ρ' v x ∧ Ext w ρ w' ρ' ∧ Inv imm w' ρ' (upd ids η H (bif fr then H else killH H ids)) ∧ ∀ b, ρ b = none → ρ' b = none := by
  have hlt : ∀ k, okF imm w ρ ids k → k < w.heap.size := by
    rintro k (hk | ⟨b, v, ty, es, _, h1, h2⟩)
    · exact hk.2.1
    · exact hI.lt ⟨b, v, ty, es, h1, h2⟩
  have hna : ∀ k, ¬ aliveB noRho k := by rintro k ⟨b, v, ty, es, hb, _⟩; cases hb
  refine (h.2 (fun k => w.heap.size ≤ k ∨ okF imm w ρ ids k) w noRho vs ⟨fun b b' v v' ty ty' es es' k hb => (by cases hb), fun b hb => (by cases hb), fun b v ty es hb => (by cases hb), fun k hk => absurd hk (hna k), fun k hk => .inl hk⟩ (fun _ _ => rfl) hl
    fun t x y hx hy => (hr t x y hx hy).mono (fun k hk => ⟨.inr hk, hlt k hk, hna k⟩) (fun _ _ => rfl) (rhoLe.refl _)).mono ?_
  rintro e w' ⟨x, r, H1, ρ1, rfl, ⟨rfl, hfr⟩, hrep, hE, hI1, _, _, _⟩
  have hal : ∀ k, aliveB ρ1 k → w.heap.size ≤ k ∧ k < w'.heap.size := by
    intro k hk
    refine ⟨?_, hI1.lt hk⟩
    rcases Nat.lt_or_ge k w.heap.size with h | h
    · exact absurd hk (hE.ok k h (hna k))
    · exact h
  have hnew : ∀ k, w.heap.size ≤ k → k < w'.heap.size → ∀ ws, okB imm w' (rhoKill ρ ws) k := by
    intro k h1 h2 ws
    refine ⟨hI.new k h1, h2, ?_⟩
    rintro ⟨b, v, ty, es, hb, hv⟩
    have := hI.lt ⟨b, v, ty, es, (rhoKill_alive hb).2, hv⟩
    omega
  cases fr with
  | true =>
    obtain ⟨hE', hI'⟩ := hI.move hE.os hE.tape hE.output hE.size fun k hk => hE.heap k hk (hna k)
    refine ⟨x, ρ, rfl, ?_, hE', ?_, fun _ h => h⟩
    · have := frR_new hI1 (ok := okB imm w' (rhoKill ρ [])) hrep (fun _ => rfl) (hfr rfl) fun k hk => hnew k (hal k hk).1 (hal k hk).2 []
      have e : rhoKill ρ [] = ρ := by funext b; simp [rhoKill]
      rw [e] at this
      exact this.mono (fun _ h => h) (fun _ _ => rfl) (noRho_le ρ)
    · have e : upd ids η H H = η := by
        funext b
        unfold upd
        split
        · rename_i hb
          rcases hb with hb | ⟨h1, h2⟩
          · exact (hη b hb).symm
          · omega
        · rfl
      simp only [cond_true]
      rw [e]
      exact hI'
  | false =>
    obtain ⟨hEk, hIk⟩ := hI.kill (ws := ids) (η' := upd ids η H (killH H ids)) (fun b hb => by unfold upd; rw [if_pos (.inl hb), hget_kill, if_pos hb]) fun b hb => by
      unfold upd
      rw [if_neg]
      rintro (h | ⟨h1, h2⟩)
      · exact hb h
      · rw [killH_length] at h2; omega
    obtain ⟨hE', hI'⟩ := hIk.move hE.os hE.tape hE.output hE.size fun k hk => hE.heap k hk (hna k)
    refine ⟨x, rhoKill ρ ids, rfl, ?_, hEk.trans hE', hI', fun b hb => rhoKill_none hb⟩
    have := frR_ok hI1 (ids := idsR r) (H := H1) hrep fun b hb => ⟨rfl, hb⟩
    refine this.mono (fun k hk => ?_) (fun _ _ => rfl) (noRho_le _)
    have hk' : (w.heap.size ≤ k ∨ okF imm w ρ ids k) ∧ k < w'.heap.size := by
      rcases hk with hk | ⟨b, v, ty, es, _, h1, h2⟩
      · exact ⟨hk.1, hk.2.1⟩
      · exact ⟨hI1.own k ⟨b, v, ty, es, h1, h2⟩, hI1.lt ⟨b, v, ty, es, h1, h2⟩⟩
    rcases hk'.1 with h | h
    · exact hnew k h hk'.2 ids
    · obtain ⟨h1, h2, h3⟩ := okF_kill hI k h
      exact ⟨h1, hk'.2, h3⟩

theorem wp_enter {o' : Oper} {a : Act} {next : Act → World → Prop} {Q : Exit → Act → World → Prop} {f : FuncId} {args : Array Value} (hrun : (execOp a.eval o').run P w = .ok (.enter f args) w) (h : Calls P f args w fun e w' => ∃ x, e = .returned x ∧ next (a.put o'.dst x) w') : o'.wp P a w next Q := by
  unfold Oper.wp
  rw [hrun]
  exact h.mono fun e w' ⟨x, he, hx⟩ => by subst he; exact hx

theorem call_args {o' : Oper} {c : Call} {f : Nat} (hop : o'.op = .call c) (hc : c.callee = .value (.func f)) (hcall : callable P f) (a : Act) : (execOp a.eval o').run P w = .ok (.enter f (c.args.map a.eval)) w := by
  have := run_callFunc (P := P) (w := w) hcall (c.args.map a.eval)
  simp [execOp, hop, resolve, hc, Act.eval, Deferred.ofValue, invoke]
  simpa using this

theorem callv_args {o' : Oper} {c : Call} {f t : Nat} {caps : Array Value} (hop : o'.op = .call c) (hc : c.callee = .value (.tmp t)) (hcall : callable P f) {a : Act} (hf : a.tmps.getD t undef = .func (.func f) #[] caps) :
    (execOp a.eval o').run P w = .ok (.enter f (c.args.map a.eval ++ caps)) w := by
  have := run_callFunc (P := P) (w := w) hcall (c.args.map a.eval ++ caps)
  have hf' : a.eval (.tmp t) = .func (.func f) #[] caps := hf
  simp only [execOp, hop, resolve, hc, hf', Deferred.ofValue, invoke, Sem.run_bind, Sem.run_pure, Result.andThen_ok]
  simpa using this

theorem trCall {o' : Oper} {f : Nat} {xs : List A} (ht : trO P o' = some (.call false false f xs)) : ∃ c, o'.op = .call c ∧ c.callee = .value (.func f) ∧ trAs P c.argTypes.toList c.args.toList = some xs := by
  have htag := tag_ok ht
  cases hop : o'.op <;> rw [hop] at htag <;> first | (cases htag; done) | skip
  rename_i c
  unfold trO at ht
  simp only [hop] at ht
  simp only [opTag] at htag
  split at htag <;> first | (cases htag; done) | skip
  rename_i f' hc
  simp only [hc] at ht
  obtain ⟨l, hl, ht⟩ := mapS ht
  cases ht
  exact ⟨c, rfl, hc, hl⟩

theorem trCallv {o' : Oper} {g : A} {xs : List A} (ht : trO P o' = some (.callv false false g xs)) : ∃ c t, o'.op = .call c ∧ c.callee = .value (.tmp t) ∧ g = .t t ∧ trAs P c.argTypes.toList c.args.toList = some xs := by
  have htag := tag_ok ht
  cases hop : o'.op <;> rw [hop] at htag <;> first | (cases htag; done) | skip
  rename_i c
  unfold trO at ht
  simp only [hop] at ht
  simp only [opTag] at htag
  split at htag <;> first | (cases htag; done) | skip
  rename_i f' hc
  simp only [hc] at ht
  obtain ⟨l, hl, ht⟩ := mapS ht
  cases ht
  exact ⟨c, _, rfl, hc, rfl, hl⟩

theorem nk_upd {ids : List Nat} {H : Hp} {fr : Bool} (hp : ∀ b ∈ ids, η b = hget H b) (hk : (bif true then fr || ids.isEmpty else true) = true) : upd ids η H (bif fr then H else killH H ids) = upd [] η H (bif fr then H else killH H ids) := by
  cases fr with
  | true =>
    funext b
    simp only [cond_true]
    unfold upd
    by_cases hb : b ∈ ids
    · rw [if_pos (.inl hb), if_neg (by rintro (h | ⟨h1, h2⟩); · cases h
                                       · omega)]
      exact (hp b hb).symm
    · by_cases h : H.length ≤ b ∧ b < H.length
      · omega
      · rw [if_neg (by rintro (h' | h'); · exact hb h'
                       · exact h h'), if_neg (by rintro (h' | h'); · cases h'
                                                 · exact h h')]
  | false =>
    have : ids = [] := by simpa using hk
    subst this
    rfl

theorem stp_call {nk : Bool} {f : Nat} {xs : List A} {τ : Env} {H : Hp} {v : V} {fr : Bool} (h : FnOK P f (xs.map fun x => frz H (x.ev τ)) [] fun r H' => frR H' r = v ∧ (fr = true → frsR H' r = true)) :
    (hk : (bif nk then fr || (xs.flatMap fun x => (x.ev τ).ids).isEmpty else true) = true) → StpOK P (.call nk false f xs) τ H v (bif fr then H else killH H (xs.flatMap fun x => (x.ev τ).ids)) := by
  intro hk o' ht imm w ρ η a next Q hI hr hp hn _ hnext
  obtain ⟨c, hop, hc, htr⟩ := trCall ht
  obtain ⟨h1, h2⟩ := rep_trAs (w := w) (ok := okB imm w ρ) (ρ := ρ) (τ := τ) (a := a) htr hr
  refine wp_enter (call_args hop hc h.1 a) ?_
  have hp2 : ∀ b ∈ xs.flatMap (fun x => (x.ev τ).ids), η b = hget H b := hp
  have := byval hI (vs := (c.args.map a.eval).toList) (ids := xs.flatMap fun x => (x.ev τ).ids) (H := H) (by simp [h1]) (fun t u y hu hy => ?_) hp2 h
  · simp only [Array.toArray_toList] at this
    refine this.mono ?_
    rintro e w' ⟨x, ρ', he, hrep, hE, hI', hb⟩
    refine ⟨x, he, hnext x w' ρ' hrep hE ?_ fun b h3 h4 => absurd (hb b h3) h4⟩
    cases nk with
    | false => exact hI'
    | true =>
      rw [nk_upd (ids := xs.flatMap fun x => (x.ev τ).ids) hp2 hk] at hI'
      show Inv imm w' ρ' (upd [] η H _)
      exact hI'
  · rw [List.getElem?_map] at hu
    obtain ⟨X, hX, rfl⟩ := mapS hu
    rw [Array.toList_map, List.getElem?_map] at hy
    obtain ⟨p, hp', rfl⟩ := mapS hy
    refine frz_ok hI (h2 t X p hX hp') fun b hb => ?_
    have hm : b ∈ xs.flatMap fun x => (x.ev τ).ids := List.mem_flatMap.2 ⟨X, List.mem_of_getElem? hX, hb⟩
    exact ⟨hp b hm, hm⟩

theorem upd_range {H H' : Hp} (hη : ∀ b, η b = hget H b) : upd (List.range H.length) η H H' = hget H' := by
  funext b
  unfold upd
  split
  · rfl
  · rename_i h
    rw [hη]
    have h1 : H.length ≤ b := by
      rcases Nat.lt_or_ge b H.length with h' | h'
      · exact absurd (.inl (List.mem_range.2 h')) h
      · exact h'
    have h2 : H'.length ≤ b := by
      rcases Nat.lt_or_ge b H'.length with h' | h'
      · exact absurd (.inr ⟨h1, h'⟩) h
      · exact h'
    unfold hget
    rw [List.getElem?_eq_none h1, List.getElem?_eq_none h2]

theorem stp_callr {nk : Bool} {f : Nat} {xs : List A} {τ : Env} {H H' : Hp} {v : V} (h : FnOK P f (xs.map fun x => x.ev τ) H fun r H1 => r = v ∧ H1 = H') : StpOK P (.call nk true f xs) τ H v H' := by
  intro o' ht imm w ρ η a next Q hI hr hp hn hall hnext
  obtain ⟨ha1, ha2⟩ := hall rfl
  obtain ⟨c, hop, hc, htr⟩ := trCall ht
  obtain ⟨h1, h2⟩ := rep_trAs (w := w) (ok := okB imm w ρ) (ρ := ρ) (τ := τ) (a := a) htr hr
  refine wp_enter (call_args hop hc h.1 a) ?_
  have hη : η = hget H := funext ha2
  subst hη
  have := h.2 imm w ρ (c.args.map a.eval).toList hI ha1 (by simp [h1]) fun t u y hu hy => ?_
  · simp only [Array.toArray_toList] at this
    refine this.mono ?_
    rintro e w' ⟨x, r, H1, ρ', he, ⟨rfl, rfl⟩, hrep, hE, hI', hb1, hb2, hb3⟩
    refine ⟨x, he, hnext x w' ρ' hrep hE ?_ fun b h3 h4 => ⟨?_, ?_⟩⟩
    · have e : (O.call nk true f xs).writes τ H = List.range H.length := by cases nk <;> rfl
      rw [e, upd_range fun _ => rfl]; exact hI'
    · rcases Nat.lt_or_ge b H.length with h' | h'
      · exact absurd (hb3 b h' h3) h4
      · exact h'
    · rcases Nat.lt_or_ge b H1.length with h' | h'
      · exact h'
      · exact absurd (hb1 b h') h4
  · rw [List.getElem?_map] at hu
    obtain ⟨X, hX, rfl⟩ := mapS hu
    rw [Array.toList_map, List.getElem?_map] at hy
    obtain ⟨p, hp', rfl⟩ := mapS hy
    exact h2 t X p hX hp'

theorem getElem?_append_cases {α : Type} {l l' : List α} {t : Nat} {x : α} (h : (l ++ l')[t]? = some x) : (t < l.length ∧ l[t]? = some x) ∨ (l.length ≤ t ∧ l'[t - l.length]? = some x) := by
  rw [List.getElem?_append] at h
  split at h
  · exact .inl ⟨by assumption, h⟩
  · exact .inr ⟨by omega, h⟩

theorem stp_callv {nk : Bool} {g : A} {xs : List A} {τ : Env} {H : Hp} {v : V} {f : Nat} {caps : List V} {fr : Bool} (hg : g.ev τ = .fn f caps)
    (h : FnOK P f ((xs.map fun x => frz H (x.ev τ)) ++ caps.map (frL H)) [] fun r H' => frR H' r = v ∧ (fr = true → frsR H' r = true)) :
    (hk : (bif nk then fr || ((xs.flatMap fun x => (x.ev τ).ids) ++ caps.flatMap idL).isEmpty else true) = true) → StpOK P (.callv nk false g xs) τ H v (bif fr then H else killH H ((xs.flatMap fun x => (x.ev τ).ids) ++ caps.flatMap idL)) := by
  intro hk o' ht imm w ρ η a next Q hI hr hp hn _ hnext
  obtain ⟨c, t, hop, hc, rfl, htr⟩ := trCallv ht
  obtain ⟨h1, h2⟩ := rep_trAs (w := w) (ok := okB imm w ρ) (ρ := ρ) (τ := τ) (a := a) htr fun n hn => hr n (by simp [O.tmps, hn])
  have hgr := hr t (by simp [O.tmps, A.tmps])
  have hg' : look τ t = .fn f caps := hg
  rw [hg'] at hgr
  generalize hgv : a.tmps.getD t undef = gv at hgr
  cases hgr with
  | fn hl hcp =>
    rename_i cvs
    refine wp_enter (callv_args hop hc h.1 hgv) ?_
    have hids : (O.callv nk false (.t t) xs).touch τ H = (xs.flatMap fun x => (x.ev τ).ids) ++ caps.flatMap idL := by
      show (xs.flatMap fun x => (x.ev τ).ids) ++ ((A.t t).ev τ).ids = _
      rw [hg]; rfl
    rw [hids] at hp
    have hp2 := hp
    have := byval hI (vs := (c.args.map a.eval).toList ++ cvs.toList) (ids := (xs.flatMap fun x => (x.ev τ).ids) ++ caps.flatMap idL) (H := H) (by simp [h1, hl]) (fun t u y hu hy => ?_) hp h
    · rw [← Array.toList_append, Array.toArray_toList] at this
      refine this.mono ?_
      rintro e w' ⟨x, ρ', he, hrep, hE, hI', hb⟩
      refine ⟨x, he, hnext x w' ρ' hrep hE ?_ fun b h3 h4 => absurd (hb b h3) h4⟩
      cases nk with
      | false =>
        show Inv imm w' ρ' (upd ((O.callv false false (.t _) xs).touch τ H) η H _)
        rw [hids]
        exact hI'
      | true =>
        rw [nk_upd (ids := (xs.flatMap fun x => (x.ev τ).ids) ++ caps.flatMap idL) hp2 hk] at hI'
        show Inv imm w' ρ' (upd [] η H _)
        exact hI'
    · rcases getElem?_append_cases hu with ⟨l1, hu⟩ | ⟨l1, hu⟩
      · rcases getElem?_append_cases hy with ⟨l2, hy⟩ | ⟨l2, hy⟩
        · rw [List.getElem?_map] at hu
          obtain ⟨X, hX, rfl⟩ := mapS hu
          rw [Array.toList_map, List.getElem?_map] at hy
          obtain ⟨p, hp', rfl⟩ := mapS hy
          refine frz_ok hI (h2 t X p hX hp') fun b hb => ?_
          have hm : b ∈ (xs.flatMap fun x => (x.ev τ).ids) ++ caps.flatMap idL := List.mem_append_left _ (List.mem_flatMap.2 ⟨X, List.mem_of_getElem? hX, hb⟩)
          exact ⟨hp b hm, hm⟩
        · simp at l1 l2 h1; omega
      · rcases getElem?_append_cases hy with ⟨l2, hy⟩ | ⟨l2, hy⟩
        · simp at l1 l2 h1; omega
        · rw [List.getElem?_map] at hu
          obtain ⟨X, hX, rfl⟩ := mapS hu
          have e1 : t - (xs.map fun x => frz H (x.ev τ)).length = t - (c.args.map a.eval).toList.length := by simp [h1]
          rw [e1] at hX
          refine frL_ok hI (hcp _ X y hX (by simpa using hy)) fun b hb => ?_
          have hm : b ∈ (xs.flatMap fun x => (x.ev τ).ids) ++ caps.flatMap idL := List.mem_append_right _ (List.mem_flatMap.2 ⟨X, List.mem_of_getElem? hX, hb⟩)
          exact ⟨hp b hm, hm⟩
  | _ => skip

theorem stp_callvr {nk : Bool} {g : A} {xs : List A} {τ : Env} {H H' : Hp} {v : V} {f : Nat} {caps : List V} (hg : g.ev τ = .fn f caps) (h : FnOK P f ((xs.map fun x => x.ev τ) ++ caps) H fun r H1 => r = v ∧ H1 = H') : StpOK P (.callv nk true g xs) τ H v H' := by
  intro o' ht imm w ρ η a next Q hI hr hp hn hall hnext
  obtain ⟨ha1, ha2⟩ := hall rfl
  obtain ⟨c, t, hop, hc, rfl, htr⟩ := trCallv ht
  obtain ⟨h1, h2⟩ := rep_trAs (w := w) (ok := okB imm w ρ) (ρ := ρ) (τ := τ) (a := a) htr fun n hn => hr n (by simp [O.tmps, hn])
  have hgr := hr t (by simp [O.tmps, A.tmps])
  have hg' : look τ t = .fn f caps := hg
  rw [hg'] at hgr
  generalize hgv : a.tmps.getD t undef = gv at hgr
  cases hgr with
  | fn hl hcp =>
    rename_i cvs
    refine wp_enter (callv_args hop hc h.1 hgv) ?_
    have hη : η = hget H := funext ha2
    subst hη
    have := h.2 imm w ρ ((c.args.map a.eval).toList ++ cvs.toList) hI ha1 (by simp [h1, hl]) fun t u y hu hy => ?_
    · rw [← Array.toList_append, Array.toArray_toList] at this
      refine this.mono ?_
      rintro e w' ⟨x, r, H1, ρ', he, ⟨rfl, rfl⟩, hrep, hE, hI', hb1, hb2, hb3⟩
      refine ⟨x, he, hnext x w' ρ' hrep hE ?_ fun b h3 h4 => ⟨?_, ?_⟩⟩
      · have e : (O.callv nk true (.t t) xs).writes τ H = List.range H.length := by cases nk <;> rfl
        rw [e, upd_range fun _ => rfl]; exact hI'
      · rcases Nat.lt_or_ge b H.length with h' | h'
        · exact absurd (hb3 b h' h3) h4
        · exact h'
      · rcases Nat.lt_or_ge b H1.length with h' | h'
        · exact h'
        · exact absurd (hb1 b h') h4
    · rcases getElem?_append_cases hu with ⟨l1, hu⟩ | ⟨l1, hu⟩
      · rcases getElem?_append_cases hy with ⟨l2, hy⟩ | ⟨l2, hy⟩
        · rw [List.getElem?_map] at hu
          obtain ⟨X, hX, rfl⟩ := mapS hu
          rw [Array.toList_map, List.getElem?_map] at hy
          obtain ⟨p, hp', rfl⟩ := mapS hy
          exact h2 t X p hX hp'
        · simp at l1 l2 h1; omega
      · rcases getElem?_append_cases hy with ⟨l2, hy⟩ | ⟨l2, hy⟩
        · simp at l1 l2 h1; omega
        · have e1 : t - (xs.map fun x => x.ev τ).length = t - (c.args.map a.eval).toList.length := by simp [h1]
          rw [e1] at hu
          exact hcp _ u y hu (by simpa using hy)
  | _ => skip
end

end Go.Proofs.YtgamkmgdbfeigaaM
