/- Regions whose operations may come in any order that their edges leave open. -/
import Derived.Test.YtgamkmgdbfeigaaM10
namespace Go.Proofs.YtgamkmgdbfeigaaM
open Go Go.RowKit

section
variable {P : Program}

/-- One operation, between the states before and behind it (behind it less may be known). -/
def OpS (P : Program) (x : Fl) (s1 s2 : St) : Prop := ∃ v, wanted s1.τ x.g ∧ StpOK P x.op s1.τ s1.H v s2.H ∧ s1.H.length ≤ s2.H.length ∧ (∀ b, b < s1.H.length → b ∉ x.op.writes s1.τ s1.H → hget s2.H b = hget s1.H b) ∧
  (∀ b ∈ x.op.touch s1.τ s1.H, b < s1.H.length) ∧ x.op.nkOk s1.τ ∧ (x.op.isPure = true → s2.H = s1.H) ∧ x.op.isBad = false ∧ envLe s2.τ (put s1.τ x.dst v)
def SkS (x : Fl) (s1 s2 : St) : Prop := ∃ E, unwanted s1.τ x.g ∧ s2.H = s1.H ++ E ∧ envLe s2.τ (put s1.τ x.dst (.tu []))

theorem envLe_put {τ' τ : Env} (h : envLe τ' τ) (d : Option Nat) (v : V) : envLe (put τ' d v) (put τ d v) := fun t => by
  rw [look_put, look_put]
  split
  · exact .inr rfl
  · exact h t

theorem FRun.seqs {l : List Fl} {s s' : St} (h : FRun P l s s') : ∃ S : Nat → St, envLe (S 0).τ s.τ ∧ (S 0).H = s.H ∧ (S 0).base = s.base ∧ S l.length = s' ∧ (∀ i, (S i).base = s.base) ∧ ∀ i x, l[i]? = some x → OpS P x (S i) (S (i + 1)) ∨ SkS x (S i) (S (i + 1)) := by
  induction h with
  | nil => rename_i s; exact ⟨fun _ => s, envLe.refl _, rfl, rfl, rfl, fun _ => rfl, fun i x h => by simp at h⟩
  | wk h hb hH _ ih =>
    obtain ⟨S, h1, h2, h3, h4, h5, h6⟩ := ih
    exact ⟨S, h1.trans h, h2.trans hH, h3.trans hb, h4, fun i => (h5 i).trans hb, h6⟩
  | op v H' hw h hl hk ht hnk hpu hnb _ ih =>
    rename_i x l s s' _
    obtain ⟨S, h1, h2, h3, h4, h5, h6⟩ := ih
    refine ⟨fun n => match n with | 0 => s | n + 1 => S n, envLe.refl _, rfl, rfl, h4, fun i => by cases i with | zero => rfl | succ i => exact h5 i, fun i y hy => ?_⟩
    cases i with
    | zero =>
      simp at hy
      subst hy
      left
      exact ⟨v, hw, by show StpOK P x.op s.τ s.H v (S 0).H; rw [h2]; exact h, by show s.H.length ≤ (S 0).H.length; rw [h2]; exact hl, by show ∀ b, b < s.H.length → b ∉ x.op.writes s.τ s.H → hget (S 0).H b = hget s.H b; rw [h2]; exact hk, ht, hnk, fun h => h2.trans (hpu h), hnb, h1⟩
    | succ i => exact h6 i y (by simpa using hy)
  | skip E hw _ ih =>
    rename_i x l s s' _
    obtain ⟨S, h1, h2, h3, h4, h5, h6⟩ := ih
    refine ⟨fun n => match n with | 0 => s | n + 1 => S n, envLe.refl _, rfl, rfl, h4, fun i => by cases i with | zero => rfl | succ i => exact h5 i, fun i y hy => ?_⟩
    cases i with
    | zero =>
      simp at hy
      subst hy
      right
      exact ⟨E, hw, h2, h1⟩
    | succ i => exact h6 i y (by simpa using hy)

/-- The edges' closure. -/
theorem befs_bit (ops : List Oper) (j i : Nat) (h : ((befs ops).getD j 0).testBit i = true) : ∃ o, ops[j]? = some o ∧ ∃ e ∈ o.after, Region.binds .any e = true ∧ (e.on = i ∨ (e.on < j ∧ ((befs ops).getD e.on 0).testBit i = true)) := by
  have key : ∀ (l : List Oper) (acc : List Nat), ∃ tl, l.foldl (fun acc o => acc ++ [o.after.toList.foldl (fun s e => bif Region.binds .any e then s ||| (2 ^ e.on ||| acc.getD e.on 0) else s) 0]) acc = acc ++ tl ∧ tl.length = l.length ∧
      ∀ k, k < l.length → (tl.getD k 0).testBit i = true → ∃ o, l[k]? = some o ∧ ∃ e ∈ o.after, Region.binds .any e = true ∧ (e.on = i ∨ (e.on < acc.length + k ∧ ((acc ++ tl).getD e.on 0).testBit i = true)) := by
    intro l
    induction l with
    | nil => intro acc; exact ⟨[], by simp, rfl, fun k hk => absurd hk (by simp)⟩
    | cons o l ih =>
      intro acc
      simp only [List.foldl_cons]
      generalize hx : o.after.toList.foldl (fun s e => bif Region.binds .any e then s ||| (2 ^ e.on ||| acc.getD e.on 0) else s) 0 = x
      obtain ⟨tl, h1, h2, h3⟩ := ih (acc ++ [x])
      refine ⟨x :: tl, by rw [h1]; simp, by simp [h2], fun k hk hb => ?_⟩
      cases k with
      | zero =>
        simp only [List.getD_cons_zero] at hb
        refine ⟨o, rfl, ?_⟩
        have fold : ∀ (es : List Edge) (s : Nat), (es.foldl (fun s e => bif Region.binds .any e then s ||| (2 ^ e.on ||| acc.getD e.on 0) else s) s).testBit i = true → s.testBit i = true ∨ ∃ e ∈ es, Region.binds .any e = true ∧ (e.on = i ∨ (acc.getD e.on 0).testBit i = true) := by
          intro es
          induction es with
          | nil => intro s h; exact .inl h
          | cons e es ihe =>
            intro s h
            rw [List.foldl_cons] at h
            rcases ihe _ h with h' | ⟨e', he', hb1, hb2⟩
            · cases hbd : Region.binds .any e with
              | false => rw [hbd] at h'; exact .inl h'
              | true =>
                rw [hbd] at h'
                simp only [cond_true, Nat.testBit_or, Bool.or_eq_true] at h'
                rcases h' with h' | h' | h'
                · exact .inl h'
                · rw [Nat.testBit_two_pow] at h'
                  exact .inr ⟨e, by simp, hbd, .inl (by simpa using h')⟩
                · exact .inr ⟨e, by simp, hbd, .inr h'⟩
            · exact .inr ⟨e', by simp [he'], hb1, hb2⟩
        rw [← hx] at hb
        rcases fold _ _ hb with h | ⟨e, he, hb1, hb2⟩
        · simp at h
        · refine ⟨e, by simpa using he, hb1, ?_⟩
          rcases hb2 with h | h
          · exact .inl h
          · right
            have hlt : e.on < acc.length := by
              rcases Nat.lt_or_ge e.on acc.length with h' | h'
              · exact h'
              · rw [List.getD_eq_getElem?_getD, List.getElem?_eq_none h'] at h; simp at h
            refine ⟨by omega, ?_⟩
            rw [List.getD_eq_getElem?_getD, List.getElem?_append_left hlt, ← List.getD_eq_getElem?_getD]
            exact h
      | succ k =>
        simp only [List.getD_cons_succ] at hb
        obtain ⟨o', ho', e, he, hb1, hb2⟩ := h3 k (by simpa using hk) hb
        refine ⟨o', by simpa using ho', e, he, hb1, ?_⟩
        rcases hb2 with h | ⟨h, h'⟩
        · exact .inl h
        · right
          refine ⟨by simp at h; omega, ?_⟩
          simpa using h'
  obtain ⟨tl, h1, h2, h3⟩ := key ops []
  have hb : befs ops = tl := by unfold befs; rw [h1]; rfl
  rw [hb] at h
  have hj : j < ops.length := by
    rcases Nat.lt_or_ge j ops.length with h' | h'
    · exact h'
    · rw [List.getD_eq_getElem?_getD, List.getElem?_eq_none (by omega)] at h; simp at h
  obtain ⟨o, ho, e, he, hb1, hb2⟩ := h3 j hj h
  refine ⟨o, ho, e, he, hb1, ?_⟩
  rw [hb]
  simpa using hb2


variable {imm : Nat → Prop} {w w' : World} {ρ ρ' : Rho} {η η' : Nat → Option Blk}

theorem tid_ne {ok : Nat → Prop} {v : V} {x : Value} (h : Rep w ok ρ v x) : ∀ b ∈ v.tid, ρ b ≠ none := by
  intro b hb
  cases h <;> first | (simp [V.tid] at hb; done) | (simp [V.tid] at hb; subst hb; assumption)

theorem A_rep {ok : Nat → Prop} {τ : Env} {a : Act} {A : A} {t : TypeId} {x : Operand} (ht : trA P t x = some A) (hr : ∀ n ∈ A.tmps, Rep w ok ρ (look τ n) (a.tmps.getD n undef)) : ∃ y, Rep w ok ρ (A.ev τ) y := ⟨_, rep_trA ht hr⟩

/-- What an operation looks at lies somewhere. (A constant leads nowhere.) -/
theorem A_ids {ok : Nat → Prop} {τ : Env} {a : Act} {A : A} (hc : ∀ v, A = .c v → v.ids = [] ∧ v.tid = []) (hr : ∀ n ∈ A.tmps, Rep w ok ρ (look τ n) (a.tmps.getD n undef)) : (∀ b ∈ (A.ev τ).ids, ρ b ≠ none) ∧ ∀ b ∈ (A.ev τ).tid, ρ b ≠ none := by
  cases A with
  | t n => exact ⟨(hr n (by simp [A.tmps])).ids_ne, tid_ne (hr n (by simp [A.tmps]))⟩
  | c v =>
    obtain ⟨h1, h2⟩ := hc v rfl
    exact ⟨fun b hb => by simp [A.ev, h1] at hb, fun b hb => by simp [A.ev, h2] at hb⟩

theorem args_tmps {o : O} {x : A} (hx : x ∈ o.args) : ∀ n ∈ x.tmps, n ∈ o.tmps := by
  intro n hn
  cases o <;> simp only [O.args, List.mem_cons, List.not_mem_nil, or_false] at hx <;> simp only [O.tmps]
  case ld => subst hx; exact hn
  case st => rcases hx with rfl | rfl <;> simp [hn]
  case bsl => exact List.mem_flatMap.2 ⟨x, hx, hn⟩
  case app => rcases hx with rfl | rfl <;> simp [hn]
  case cpy => rcases hx with rfl | rfl <;> simp [hn]
  case call => exact List.mem_flatMap.2 ⟨x, hx, hn⟩
  case callv =>
    rcases hx with rfl | hx
    · simp [hn]
    · simp only [List.mem_append]; exact .inr (List.mem_flatMap.2 ⟨x, hx, hn⟩)

theorem touch_ne {ok : Nat → Prop} {o : O} {τ : Env} {H : Hp} {a : Act} (hc : o.cOk = true) (hall : o.all = false) (hr : ∀ n ∈ o.tmps, Rep w ok ρ (look τ n) (a.tmps.getD n undef)) : ∀ b ∈ o.touch τ H, ρ b ≠ none := by
  have key : ∀ x ∈ o.args, (∀ b ∈ (x.ev τ).ids, ρ b ≠ none) ∧ ∀ b ∈ (x.ev τ).tid, ρ b ≠ none := by
    intro x hx
    refine A_ids (fun v hv => ?_) fun n hn => hr n (args_tmps hx n hn)
    subst hv
    have := List.all_eq_true.1 hc _ hx
    simpa using this
  intro b hb
  cases o <;> simp only [O.touch, List.not_mem_nil] at hb
  case ld g sz x => exact (key x (by simp [O.args])).2 b hb
  case st nk sz x y =>
    rcases List.mem_append.1 hb with hb | hb
    · exact (key x (by simp [O.args])).2 b hb
    · exact (key y (by simp [O.args])).1 b hb
  case bsl nk ty es ps =>
    obtain ⟨x, hx, hb⟩ := List.mem_flatMap.1 hb
    exact (key x hx).1 b hb
  case app ty es by_ x y =>
    rcases List.mem_append.1 hb with hb | hb
    · exact (key x (by simp [O.args])).2 b hb
    · exact (key y (by simp [O.args])).2 b hb
  case cpy es x y =>
    rcases List.mem_append.1 hb with hb | hb
    · exact (key x (by simp [O.args])).2 b hb
    · exact (key y (by simp [O.args])).2 b hb
  case call nk br f xs =>
    simp only [O.all] at hall
    subst hall
    obtain ⟨x, hx, hb⟩ := List.mem_flatMap.1 hb
    exact (key x hx).1 b hb
  case callv nk br g xs =>
    simp only [O.all] at hall
    subst hall
    rcases List.mem_append.1 hb with hb | hb
    · obtain ⟨x, hx, hb⟩ := List.mem_flatMap.1 hb
      exact (key x (by simp [O.args, hx])).1 b hb
    · exact (key g (by simp [O.args])).1 b hb

theorem writes_touch (o : O) (τ : Env) (H : Hp) : ∀ b ∈ o.writes τ H, b ∈ o.touch τ H := by
  intro b hb
  cases o <;> simp only [O.writes, List.not_mem_nil] at hb <;> try exact hb
  case app => simp only [O.touch, List.mem_append]; exact .inl hb
  case cpy => simp only [O.touch, List.mem_append]; exact .inl hb
  case call nk br f xs =>
    cases hq : (nk && !br) with
    | true => rw [hq] at hb; cases hb
    | false => rw [hq] at hb; exact hb
  case callv nk br g xs =>
    cases hq : (nk && !br) with
    | true => rw [hq] at hb; cases hb
    | false => rw [hq] at hb; exact hb

/-- Which rows an operation of each kind looks at and changes. -/
theorem mk_spec (o : O) (τ : Env) (H : Hp) (hnk : o.nkOk τ) :
    match o.mk with
    | .pure => o.isPure = true ∧ o.touch τ H = [] ∧ o.writes τ H = []
    | .nw => o.touch τ H = [] ∧ o.writes τ H = []
    | .rd a => o.touch τ H = (look τ a).tid ∧ o.writes τ H = []
    | .al => o.writes τ H = []
    | .st a => o.touch τ H = (look τ a).tid ∧ o.writes τ H = (look τ a).tid
    | .all => True
    | .big => True := by
  cases o <;> simp only [O.mk, O.isPure, O.touch, O.writes, and_self]
  case bsl nk ty es ps =>
    cases nk
    · simp only [cond_false]
    · simp only [cond_true]
      simpa [O.nkOk] using hnk
  case ld g sz x => cases x <;> simp [A.ev]
  case st nk sz x y =>
    cases x
    · cases nk <;> simp only [cond_true, cond_false]
      have h : (y.ev τ).ids = [] := hnk
      rw [h]; simp [A.ev]
    · trivial
  case call nk br f xs => cases br <;> cases nk <;> simp
  case callv nk br g xs => cases br <;> cases nk <;> simp

theorem all_mk {o : O} (h : o.all = true) : o.mk = .all := by cases o <;> first | (cases h; done) | (simp only [O.all] at h; subst h; rfl)
end

end Go.Proofs.YtgamkmgdbfeigaaM
