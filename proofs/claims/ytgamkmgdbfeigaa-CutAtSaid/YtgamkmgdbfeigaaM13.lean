/- Regions whose operations may come in any order that their edges leave open: every order answers as the first. -/
import Derived.Test.YtgamkmgdbfeigaaM12
namespace Go.Proofs.YtgamkmgdbfeigaaM
open Go Go.RowKit

section
variable {P : Program} {imm : Nat → Prop} {ops : Array Oper} {l : List Fl} {S : Nat → St} {nt : Nat}

theorem trFls_get {os : List Oper} : ∀ {l : List Fl}, trFls P ops os = some (l.map Fl.norm) → os.length = l.length ∧ ∀ (i : Nat) (o' : Oper), os[i]? = some o' → ∃ x : Fl, l[i]? = some x ∧ trFl P ops o' = some x.norm := by
  induction os with
  | nil =>
    intro l h
    cases l with
    | nil => exact ⟨rfl, fun i o' h => by simp at h⟩
    | cons x l => cases h
  | cons o os ih =>
    intro l h
    unfold trFls at h
    obtain ⟨y, hy, h⟩ := bindS h
    obtain ⟨l', hl', h⟩ := mapS h
    cases l with
    | nil => cases h
    | cons x l =>
      simp only [List.map_cons, List.cons.injEq] at h
      obtain ⟨rfl, rfl⟩ := h
      obtain ⟨h1, h2⟩ := ih hl'
      refine ⟨by simp [h1], fun i o' hi => ?_⟩
      cases i with
      | zero => simp at hi; subst hi; exact ⟨x, rfl, hy⟩
      | succ i => exact h2 i o' (by simpa using hi)

/-- What holds while the operations of D have been carried out. -/
structure Cut (P : Program) (imm : Nat → Prop) (ops : Array Oper) (l : List Fl) (S : Nat → St) (nt : Nat) (w0 : World) (ρ0 : Rho) (D : Nat → Prop) (a : Act) (w : World) (ρ : Rho) (η : Nat → Option Blk) : Prop where
  cl : ∀ (j : Nat) (o : Oper), D j → ops[j]? = some o → ∀ e ∈ o.after, Region.binds .any e = true → D e.on
  inv : Inv imm w ρ η
  dom : ∀ b, ρ b ≠ none → b < (S 0).H.length ∨ ∃ j x, l[j]? = some x ∧ OpS P x (S j) (S (j + 1)) ∧ D j ∧ (S j).H.length ≤ b ∧ b < (S (j + 1)).H.length
  new : ∀ b, ρ b ≠ none → ρ0 b = none → (S 0).H.length ≤ b
  ext : Ext w0 ρ0 w ρ
  tm : ∀ t k, k ≤ l.length → (∀ (j : Nat) (x : Fl), l[j]? = some x → x.dst = some t → (D j ↔ j < k)) → Rep w (okB imm w ρ) ρ (look (S k).τ t) (a.tmps.getD t undef)
  hp : ∀ b, ρ b ≠ none → ∀ k, k ≤ l.length → b < (S k).H.length → (∀ j, Wr P l S j b → (D j ↔ j < k)) → η b = hget (S k).H b
  tc : ∀ (j : Nat) (x : Fl), l[j]? = some x → D j → OpS P x (S j) (S (j + 1)) → x.op.all = false → ∀ b ∈ x.op.touch (S j).τ (S j).H, ρ b ≠ none
  sz : a.tmps.size = nt
  df : a.defers = []

theorem cl_bit {D : Nat → Prop} (hcl : ∀ (j : Nat) (o : Oper), D j → ops[j]? = some o → ∀ e ∈ o.after, Region.binds .any e = true → D e.on) (i : Nat) : ∀ j, D j → ((befs ops.toList).getD j 0).testBit i = true → D i := by
  intro j
  induction j using Nat.strongRecOn with
  | ind j ih =>
    intro hj hb
    obtain ⟨o, ho, e, he, hbd, h⟩ := befs_bit ops.toList j i hb
    have ho' : ops[j]? = some o := by simpa using ho
    have hd := hcl j o hj ho' e he hbd
    rcases h with h | ⟨h, h'⟩
    · rwa [h] at hd
    · exact ih _ h hd h'

theorem ready_bit {D : Nat → Prop} (hcl : ∀ (j : Nat) (o : Oper), D j → ops[j]? = some o → ∀ e ∈ o.after, Region.binds .any e = true → D e.on) {i : Nat} {o : Oper} (ho : ops[i]? = some o) (hr : ∀ e ∈ o.after, Region.binds .any e = true → D e.on) (j : Nat)
    (hb : ((befs ops.toList).getD i 0).testBit j = true) : D j := by
  obtain ⟨o1, ho1, e, he, hbd, h⟩ := befs_bit ops.toList i j hb
  have : o1 = o := by
    have : ops[i]? = some o1 := by simpa using ho1
    rw [ho] at this; exact (Option.some.inj this).symm
  subst this
  have hd := hr e he hbd
  rcases h with h | ⟨h, h'⟩
  · rwa [h] at hd
  · exact cl_bit hcl j _ hd h'

theorem freeT_spec {x y : Fl} (h : freeT x y = true) : (∀ d, x.dst = some d → d ∉ y.names ∧ y.dst ≠ some d) ∧ ∀ d, y.dst = some d → d ∉ x.names := by
  unfold freeT at h
  rw [Bool.and_eq_true] at h
  obtain ⟨h1, h2⟩ := h
  refine ⟨fun d hd => ?_, fun d hd => ?_⟩
  · rw [hd] at h1
    simp only [Bool.and_eq_true, Bool.not_eq_true', List.contains_eq_mem, decide_eq_false_iff_not, beq_eq_false_iff_ne] at h1
    exact h1
  · rw [hd] at h2
    simpa using h2

/-- The views of the operation that is carried out next. -/
structure Next (ops : Array Oper) (l : List Fl) (ps : List (Nat × Nat)) (D : Nat → Prop) (i : Nat) (x : Fl) : Prop where
  lo : ∀ (j : Nat) (y : Fl), j < i → l[j]? = some y → ¬ D j → freeT y x = true ∧ free ps l j i y.op.mk x.op.mk = true
  hi : ∀ (j : Nat) (y : Fl), i < j → l[j]? = some y → D j → freeT x y = true ∧ free ps l i j x.op.mk y.op.mk = true

theorem next_of {ps : List (Nat × Nat)} {D : Nat → Prop} (hcl : ∀ (j : Nat) (o : Oper), D j → ops[j]? = some o → ∀ e ∈ o.after, Region.binds .any e = true → D e.on) (hdr : drawB ps l (befs ops.toList) = true) {i : Nat} {o : Oper} {x : Fl} (ho : ops[i]? = some o) (hx : l[i]? = some x) (hD : ¬ D i)
    (hr : ∀ e ∈ o.after, Region.binds .any e = true → D e.on) : Next ops l ps D i x := by
  refine ⟨fun j y hj hy hd => drawB_at hdr hj hy hx ?_, fun j y hj hy hd => drawB_at hdr hj hx hy ?_⟩
  · cases hb : ((befs ops.toList).getD i 0).testBit j with
    | false => rfl
    | true => exact absurd (ready_bit hcl ho hr j hb) hd
  · cases hb : ((befs ops.toList).getD j 0).testBit i with
    | false => rfl
    | true => exact absurd (cl_bit hcl i j hd hb) hD

theorem Next.view {ps : List (Nat × Nat)} {D : Nat → Prop} {i : Nat} {x : Fl} (h : Next ops l ps D i x) (hx : l[i]? = some x) (hD : ¬ D i) {t : Nat} (ht : t ∈ x.names) : ∀ (j : Nat) (y : Fl), l[j]? = some y → y.dst = some t → (D j ↔ j < i) := by
  intro j y hy hyt
  rcases Nat.lt_trichotomy j i with hj | hj | hj
  · refine ⟨fun _ => hj, fun _ => Classical.byContradiction fun hd => ?_⟩
    exact ((freeT_spec (h.lo j y hj hy hd).1).1 t hyt).1 ht
  · subst hj; exact ⟨fun h => absurd h hD, fun h => absurd h (by omega)⟩
  · refine ⟨fun hd => ?_, fun h => by omega⟩
    exact absurd ht ((freeT_spec (h.hi j y hj hy hd).1).2 t hyt)

theorem hk_of {x : Fl} {s1 s2 : St} (h : OpS P x s1 s2) : (∀ b ∈ x.op.touch s1.τ s1.H, b < s1.H.length) ∧ x.op.nkOk s1.τ ∧ (x.op.isPure = true → s2.H = s1.H) := by
  obtain ⟨_, _, _, _, _, h1, h2, h3, _⟩ := h
  exact ⟨h1, h2, h3⟩

theorem pure_all {o : O} (h : o.mk = .pure) {τ : Env} {H : Hp} (hn : o.nkOk τ) : o.isPure = true := by
  have := mk_spec o τ H hn
  rw [h] at this
  exact this.1

/-- Where the rows that operation i looks at stand. -/
theorem Cut.rows {w0 : World} {ρ0 : Rho} {ps : List (Nat × Nat)} {D : Nat → Prop} {a : Act} {w : World} {ρ : Rho} {η : Nat → Option Blk} (hC : Cut P imm ops l S nt w0 ρ0 D a w ρ η) (hS : Steps P l S) (hap : apartB (S l.length).τ ps = true)
    {i : Nat} {x : Fl} (hx : l[i]? = some x) (hD : ¬ D i) (hN : Next ops l ps D i x) (ho : OpS P x (S i) (S (i + 1))) :
    (∀ b ∈ x.op.touch (S i).τ (S i).H, ρ b ≠ none → η b = hget (S i).H b) ∧
    (x.op.all = true → (∀ b, (S i).H.length ≤ b → ρ b = none) ∧ ∀ b, ρ b ≠ none → η b = hget (S i).H b) ∧
    (∀ b, (S i).H.length ≤ b → b < (S (i + 1)).H.length → ρ b = none) := by
  have hil : i < l.length := (List.getElem?_eq_some_iff.1 hx).1
  obtain ⟨htl, hnk, hpu⟩ := hk_of ho
  have hnew : ∀ b, (S i).H.length ≤ b → b < (S (i + 1)).H.length → ρ b = none := by
    intro b h1 h2
    refine Classical.byContradiction fun hb => ?_
    rcases hC.dom b hb with h | ⟨j, y, hj, hyo, hd, h3, h4⟩
    · have := hS.mono (i := 0) (k := i) (by omega) (by omega); omega
    · have := hS.same (List.getElem?_eq_some_iff.1 hj).1 hil h3 h4 h1 h2
      subst this; exact hD hd
  -- who writes what is looked at
  have hwr : ∀ b, ρ b ≠ none → b < (S i).H.length → (b ∈ x.op.touch (S i).τ (S i).H ∨ x.op.all = true) → ∀ j, Wr P l S j b → (D j ↔ j < i) := by
    intro b hb hbl hbt j hw
    obtain ⟨y, hy, hyo, hyw⟩ := hw
    obtain ⟨htl', hnk', hpu'⟩ := hk_of hyo
    have hjl : j < l.length := (List.getElem?_eq_some_iff.1 hy).1
    rcases Nat.lt_trichotomy j i with hj | hj | hj
    · refine ⟨fun _ => hj, fun _ => Classical.byContradiction fun hd => ?_⟩
      have hf := (hN.lo j y hj hy hd).2
      rcases hyw with hyw | ⟨h1, h2⟩
      · rcases hbt with hbt | hall
        · exact (free_apart hS hap hy hx hnk' hnk hf).1 b hyw hbt
        · have hm := (free_all hf).2 (all_mk hall)
          have := mk_spec y.op (S j).τ (S j).H hnk'
          rw [hm] at this
          rw [this.2.2] at hyw
          cases hyw
      · rcases hC.dom b hb with h | ⟨j', y', hj', _, hd', h3, h4⟩
        · have := hS.mono (i := 0) (k := j) (by omega) (by omega); omega
        · have := hS.same (List.getElem?_eq_some_iff.1 hj').1 hjl h3 h4 h1 h2
          subst this; exact hd hd'
    · subst hj; exact ⟨fun h => absurd h hD, fun h => absurd h (by omega)⟩
    · refine ⟨fun hd => ?_, fun h => by omega⟩
      have hf := (hN.hi j y hj hy hd).2
      have hyw : b ∈ y.op.writes (S j).τ (S j).H := by
        rcases hyw with hyw | ⟨h1, h2⟩
        · exact hyw
        · have := hS.mono (i := i) (k := j) (by omega) (by omega); omega
      rcases hbt with hbt | hall
      · exact absurd hbt ((free_apart hS hap hx hy hnk hnk' hf).2 b hyw)
      · have hm := (free_all hf).1 (all_mk hall)
        have := mk_spec y.op (S j).τ (S j).H hnk'
        rw [hm] at this
        rw [this.2.2] at hyw
        cases hyw
  refine ⟨fun b hbt hb => hC.hp b hb i (by omega) (htl b hbt) (hwr b hb (htl b hbt) (.inl hbt)), fun hall => ?_, hnew⟩
  have hlow : ∀ b, ρ b ≠ none → b < (S i).H.length := by
    intro b hb
    rcases hC.dom b hb with h | ⟨j, y, hj, hyo, hd, h3, h4⟩
    · have := hS.mono (i := 0) (k := i) (by omega) (by omega); omega
    · have hjl := (List.getElem?_eq_some_iff.1 hj).1
      rcases Nat.lt_trichotomy j i with hji | hji | hji
      · have := hS.mono (i := j + 1) (k := i) (by omega) (by omega); omega
      · subst hji; exact absurd hd hD
      · have hm := (free_all (hN.hi j _ hji hj hd).2).1 (all_mk hall)
        obtain ⟨_, hnk', hpu'⟩ := hk_of hyo
        rw [hpu' (pure_all hm (H := (S j).H) hnk')] at h4
        omega
  refine ⟨fun b hb => Classical.byContradiction fun h => ?_, fun b hb => hC.hp b hb i (by omega) (hlow b hb) (hwr b hb (hlow b hb) (.inr hall))⟩
  have := hlow b h
  omega

/-- An operation has been carried out. -/
theorem Cut.step {w0 : World} {ρ0 : Rho} {ps : List (Nat × Nat)} {D : Nat → Prop} {a : Act} {w : World} {ρ : Rho} {η : Nat → Option Blk} (hC : Cut P imm ops l S nt w0 ρ0 D a w ρ η) (hS : Steps P l S) (hap : apartB (S l.length).τ ps = true)
    {i : Nat} {x : Fl} {o : Oper} (hoi : ops[i]? = some o) (hx : l[i]? = some x) (hD : ¬ D i) (hN : Next ops l ps D i x) (ho : OpS P x (S i) (S (i + 1))) (hr : ∀ e ∈ o.after, Region.binds .any e = true → D e.on) (hcx : x.op.cOk = true)
    (hdx : ∀ k, x.dst = some k → k < nt) {v : V} (hv : envLe (S (i + 1)).τ (put (S i).τ x.dst v)) {y : Value} {w1 : World} {ρ1 : Rho} (h1 : Rep w1 (okB imm w1 ρ1) ρ1 v y) (h2 : Ext w ρ w1 ρ1) (h3 : Inv imm w1 ρ1 (upd (x.op.writes (S i).τ (S i).H) η (S i).H (S (i + 1)).H))
    (h4 : ∀ b, ρ b = none → ρ1 b ≠ none → (S i).H.length ≤ b ∧ b < (S (i + 1)).H.length) : Cut P imm ops l S nt w0 ρ0 (fun j => D j ∨ j = i) (a.put x.dst y) w1 ρ1 (upd (x.op.writes (S i).τ (S i).H) η (S i).H (S (i + 1)).H) := by
  have hil : i < l.length := (List.getElem?_eq_some_iff.1 hx).1
  obtain ⟨htl, hnk, hpu⟩ := hk_of ho
  obtain ⟨hr1, hr2, hr3⟩ := hC.rows hS hap hx hD hN ho
  refine ⟨?_, h3, ?_, ?_, hC.ext.trans h2, ?_, ?_, ?_, by rw [put_size]; exact hC.sz, by rw [put_defers]; exact hC.df⟩
  · intro j o' hj hjo e he hb
    rcases hj with hj | rfl
    · exact .inl (hC.cl j o' hj hjo e he hb)
    · rw [hoi] at hjo
      cases hjo
      exact .inl (hr e he hb)
  · intro b hb
    by_cases hq : ρ b = none
    · have := h4 b hq hb
      exact .inr ⟨i, x, hx, ho, .inr rfl, this.1, this.2⟩
    · rcases hC.dom b hq with h | ⟨j, z, hj, hz, hd, h⟩
      · exact .inl h
      · exact .inr ⟨j, z, hj, hz, .inl hd, h⟩
  · intro b hb h0
    by_cases hq : ρ b = none
    · have := h4 b hq hb
      have := hS.mono (i := 0) (k := i) (by omega) (by omega)
      omega
    · exact hC.new b hq h0
  · intro t k hk hcut
    rw [put_getD hC.sz hdx]
    by_cases hdt : x.dst = some t
    · rw [if_pos hdt]
      have hik : i < k := (hcut i x hx hdt).1 (.inr rfl)
      have hch := hS.tau (t := t) (i := i + 1) (k := k) (by omega) hk fun j z h5 h6 hz hzt => by
        have hDj : D j := by
          rcases (hcut j z hz hzt).2 h6 with h | h
          · exact h
          · omega
        exact ((freeT_spec (hN.hi j z (by omega) hz hDj).1).1 t hdt).2 hzt
      have hv' : look (S (i + 1)).τ t = .un ∨ look (S (i + 1)).τ t = v := by
        rcases hv t with h | h
        · exact .inl h
        · rw [look_put, if_pos hdt] at h; exact .inr h
      rcases hch with h | h
      · rw [h]; exact .un _
      · rcases hv' with h' | h'
        · rw [h, h']; exact .un _
        · rw [h, h']; exact h1
    · rw [if_neg hdt]
      refine (hC.tm t k hk fun j z hz hzt => ?_).ext h2
      have := hcut j z hz hzt
      have hne : j ≠ i := fun h => by subst h; rw [hx] at hz; cases hz; exact hdt hzt
      exact ⟨fun h => this.1 (.inl h), fun h => (this.2 h).resolve_right hne⟩
  · intro b hb k hk hbk hcut
    by_cases hw : b ∈ x.op.writes (S i).τ (S i).H ∨ ((S i).H.length ≤ b ∧ b < (S (i + 1)).H.length)
    · have hik : i < k := (hcut i ⟨x, hx, ho, hw⟩).1 (.inr rfl)
      have hbl : b < (S (i + 1)).H.length := by
        rcases hw with hw | hw
        · have := htl b (writes_touch _ _ _ b hw)
          have := hS.len hil; omega
        · exact hw.2
      have hch := hS.heap (b := b) (i := i + 1) (k := k) hbl (by omega) hk fun j h5 h6 hj => by
        have hDj : D j := by
          rcases (hcut j hj).2 h6 with h | h
          · exact h
          · omega
        obtain ⟨z, hz, hzo, hzw⟩ := hj
        obtain ⟨htl', hnk', hpu'⟩ := hk_of hzo
        have hN' := hN.hi j z (by omega) hz hDj
        have hzw' : b ∈ z.op.writes (S j).τ (S j).H := by
          rcases hzw with h | ⟨h, _⟩
          · exact h
          · have := hS.mono (i := i + 1) (k := j) (by omega) (by omega); omega
        have hzt := writes_touch _ _ _ b hzw'
        rcases hw with hw | hw
        · exact (free_apart hS hap hx hz hnk hnk' hN'.2).1 b hw hzt
        · cases hall : z.op.all with
          | false =>
            exact absurd (hr3 b hw.1 hw.2) (hC.tc j z hz hDj hzo hall b hzt)
          | true =>
            have hm := (free_all hN'.2).2 (all_mk hall)
            rw [hpu (pure_all hm (H := (S i).H) hnk)] at hw
            omega
      rw [hch]
      unfold upd
      rw [if_pos hw]
    · have : upd (x.op.writes (S i).τ (S i).H) η (S i).H (S (i + 1)).H b = η b := by unfold upd; rw [if_neg hw]
      rw [this]
      have hq : ρ b ≠ none := fun hq => hw (.inr (h4 b hq hb))
      refine hC.hp b hq k hk hbk fun j hj => ?_
      have := hcut j hj
      have hne : j ≠ i := fun h => by
        subst h
        obtain ⟨z, hz, hzo, hzw⟩ := hj
        rw [hx] at hz; cases hz
        exact hw hzw
      exact ⟨fun h => this.1 (.inl h), fun h => (this.2 h).resolve_right hne⟩
  · intro j z hz hd hzo hall b hb
    rcases hd with hd | rfl
    · exact h2.le.ne (hC.tc j z hz hd hzo hall b hb)
    · rw [hx] at hz
      cases hz
      refine h2.le.ne (touch_ne hcx hall (fun n hn => hC.tm n j (by omega) (hN.view hx hD (List.mem_append.2 (.inl hn)))) b hb)

/-- An operation has been left out. -/
theorem Cut.skip {w0 : World} {ρ0 : Rho} {ps : List (Nat × Nat)} {D : Nat → Prop} {a : Act} {w : World} {ρ : Rho} {η : Nat → Option Blk} (hC : Cut P imm ops l S nt w0 ρ0 D a w ρ η) (hS : Steps P l S)
    {i : Nat} {x : Fl} {o : Oper} (hoi : ops[i]? = some o) (hx : l[i]? = some x) (hD : ¬ D i) (hN : Next ops l ps D i x) (ho : SkS x (S i) (S (i + 1))) (hr : ∀ e ∈ o.after, Region.binds .any e = true → D e.on)
    (hdx : ∀ k, x.dst = some k → k < nt) (hno : ¬ OpS P x (S i) (S (i + 1))) : Cut P imm ops l S nt w0 ρ0 (fun j => D j ∨ j = i) (a.put x.dst undef) w ρ η := by
  have hil : i < l.length := (List.getElem?_eq_some_iff.1 hx).1
  obtain ⟨E, hu, hE, hv⟩ := ho
  have hnw : ∀ b, ¬ Wr P l S i b := by
    rintro b ⟨z, hz, hzo, _⟩
    rw [hx] at hz; cases hz
    exact hno hzo
  refine ⟨?_, hC.inv, ?_, hC.new, hC.ext, ?_, ?_, ?_, by rw [put_size]; exact hC.sz, by rw [put_defers]; exact hC.df⟩
  · intro j o' hj hjo e he hb
    rcases hj with hj | rfl
    · exact .inl (hC.cl j o' hj hjo e he hb)
    · rw [hoi] at hjo
      cases hjo
      exact .inl (hr e he hb)
  · intro b hb
    rcases hC.dom b hb with h | ⟨j, z, hj, hz, hd, h⟩
    · exact .inl h
    · exact .inr ⟨j, z, hj, hz, .inl hd, h⟩
  · intro t k hk hcut
    rw [put_getD hC.sz hdx]
    by_cases hdt : x.dst = some t
    · rw [if_pos hdt]
      have hik : i < k := (hcut i x hx hdt).1 (.inr rfl)
      have hch := hS.tau (t := t) (i := i + 1) (k := k) (by omega) hk fun j z h5 h6 hz hzt => by
        have hDj : D j := by
          rcases (hcut j z hz hzt).2 h6 with h | h
          · exact h
          · omega
        exact ((freeT_spec (hN.hi j z (by omega) hz hDj).1).1 t hdt).2 hzt
      have hu' : Rep w (okB imm w ρ) ρ (.tu []) undef := .tu rfl fun t c x h => by simp at h
      have hv' : look (S (i + 1)).τ t = .un ∨ look (S (i + 1)).τ t = .tu [] := by
        rcases hv t with h | h
        · exact .inl h
        · rw [look_put, if_pos hdt] at h; exact .inr h
      rcases hch with h | h
      · rw [h]; exact .un _
      · rcases hv' with h' | h'
        · rw [h, h']; exact .un _
        · rw [h, h']; exact hu'
    · rw [if_neg hdt]
      refine hC.tm t k hk fun j z hz hzt => ?_
      have := hcut j z hz hzt
      have hne : j ≠ i := fun h => by subst h; rw [hx] at hz; cases hz; exact hdt hzt
      exact ⟨fun h => this.1 (.inl h), fun h => (this.2 h).resolve_right hne⟩
  · intro b hb k hk hbk hcut
    refine hC.hp b hb k hk hbk fun j hj => ?_
    have := hcut j hj
    have hne : j ≠ i := fun h => by subst h; exact hnw b hj
    exact ⟨fun h => this.1 (.inl h), fun h => (this.2 h).resolve_right hne⟩
  · intro j z hz hd hzo hall b hb
    rcases hd with hd | rfl
    · exact hC.tc j z hz hd hzo hall b hb
    · rw [hx] at hz
      cases hz
      exact absurd hzo hno

theorem Cut.congr {w0 : World} {ρ0 : Rho} {D D' : Nat → Prop} {a : Act} {w : World} {ρ : Rho} {η : Nat → Option Blk} (hC : Cut P imm ops l S nt w0 ρ0 D a w ρ η) (h : ∀ j, D' j ↔ D j) : Cut P imm ops l S nt w0 ρ0 D' a w ρ η := by
  have : D' = D := funext fun j => propext (h j)
  rw [this]; exact hC

/-- Every order of a region's operations does what the written order does. -/
theorem frun_draw {s s' : St} {ps : List (Nat × Nat)} (h : FRun P l s s') (hm : trFls P ops ops.toList = some (l.map Fl.norm)) (hd : ∀ x ∈ l, ∀ k, x.dst = some k → k < nt) (hcs : ∀ x ∈ l, x.op.cOk = true) (hed : edgesOk ops.toList = true) (hdr : drawB ps l (befs ops.toList) = true)
    (hap : apartB s'.τ ps = true) {a : Act} {w : World} {ρ : Rho} {Q : Exit → Act → World → Prop} (hR : Rel imm nt s a w ρ) (hq : ∀ a' w' ρ', RelTo imm nt s w ρ s' a' w' ρ' → Q .normal a' w') : wpAny P .any ops Q ops.size (Array.replicate ops.size false) a w := by
  obtain ⟨S, e1, e2, e3, e4, e5, hS⟩ := h.seqs
  have hS : Steps P l S := hS
  obtain ⟨hlen, hget'⟩ := trFls_get hm
  have hlen : ops.size = l.length := by simpa using hlen
  rw [← e4] at hap
  have hlow : ∀ b, ρ b ≠ none → b < (S 0).H.length := fun b hb => by
    rcases Nat.lt_or_ge b (S 0).H.length with h | h
    · exact h
    · exact absurd (hR.fresh b (by rw [← e2]; exact h)) hb
  have hC0 : Cut P imm ops l S nt w ρ (fun _ => False) a w ρ (hget s.H) := by
    refine ⟨fun _ _ h => h.elim, hR.inv, fun b hb => .inl (hlow b hb), fun b hb h => absurd h hb, Ext.refl _ _, fun t k hk hcut => ?_, fun b hb k hk hbk hcut => ?_, fun _ _ _ h => h.elim, hR.sz, hR.df⟩
    · have hch := hS.tau (t := t) (i := 0) (k := k) (by omega) hk fun j z _ h6 hz hzt => (hcut j z hz hzt).2 h6
      have h0 := e1 t
      have := hR.tm t
      rcases hch with h | h
      · rw [h]; exact .un _
      · rcases h0 with h0 | h0
        · rw [h, h0]; exact .un _
        · rw [h, h0]; exact this
    · rw [hS.heap (b := b) (i := 0) (k := k) (hlow b hb) (by omega) hk fun j _ h6 hj => (hcut j hj).2 h6, e2]
  -- the end
  have hend : ∀ (D : Nat → Prop) (a' : Act) (w' : World) (ρ' : Rho) (η' : Nat → Option Blk), Cut P imm ops l S nt w ρ D a' w' ρ' η' → (∀ j, j < l.length → D j) → Q .normal a' w' := by
    intro D a' w' ρ' η' hC hall
    have hlow' : ∀ b, ρ' b ≠ none → b < (S l.length).H.length := by
      intro b hb
      rcases hC.dom b hb with h | ⟨j, x, hj, _, _, _, h⟩
      · have := hS.mono (i := 0) (k := l.length) (by omega) (Nat.le_refl _); omega
      · have hjl := (List.getElem?_eq_some_iff.1 hj).1
        have := hS.mono (i := j + 1) (k := l.length) (by omega) (Nat.le_refl _); omega
    have hb0 : s'.base = s.base := by rw [← e4]; exact e5 _
    have h00 := hS.mono (i := 0) (k := l.length) (by omega) (Nat.le_refl _)
    refine hq a' w' ρ' ⟨⟨?_, fun b hb => ?_, fun t => ?_, hC.sz, hC.df, ?_⟩, hC.ext.toB _, fun b hb hn => ?_, hb0⟩
    · refine hC.inv.congr fun b hb => ?_
      rw [← e4]
      refine (hC.hp b hb l.length (Nat.le_refl _) (hlow' b hb) fun j hj => ?_).symm
      obtain ⟨x, hx, _⟩ := hj
      have hjl := (List.getElem?_eq_some_iff.1 hx).1
      exact ⟨fun _ => hjl, fun _ => hall j hjl⟩
    · refine Classical.byContradiction fun hc => ?_
      have := hlow' b hc
      rw [e4] at this; omega
    · rw [← e4]
      refine hC.tm t l.length (Nat.le_refl _) fun j x hx _ => ?_
      have hjl := (List.getElem?_eq_some_iff.1 hx).1
      exact ⟨fun _ => hjl, fun _ => hall j hjl⟩
    · rw [hb0, ← e4]
      have := hR.base
      rw [← e2] at this
      omega
    · refine Classical.byContradiction fun hc => ?_
      have h7 := hC.new b hc hn
      have := hR.base
      rw [← e2] at this
      omega
  have hallD : ∀ (listed : Array Bool), listed.size = ops.size → (∀ j, j < l.length → listed.getD j true = false → ∃ j', j' ∈ Region.ready .any ops listed) := by
    intro listed hsz
    have key : ∀ n, ∀ j, j ≤ n → j < l.length → listed.getD j true = false → ∃ j', j' ∈ Region.ready .any ops listed := by
      intro n
      induction n with
      | zero =>
        intro j hj hjl hjf
        refine ⟨j, mem_ready.2 ⟨hjf, ?_⟩⟩
        have ho : ops[j]? = some ops[j] := by simp [show j < ops.size by omega]
        refine ⟨_, ho, fun e he hb => ?_⟩
        have h1 := List.all_eq_true.1 hed j (by simp [show j < ops.size by omega])
        rw [Array.getElem?_toList, ho] at h1
        have h2 := List.all_eq_true.1 h1 e (by simpa using he)
        rw [hb] at h2
        have : e.on < j := by simpa [Nat.blt_eq] using h2
        omega
      | succ n ih =>
        intro j hj hjl hjf
        have ho : ops[j]? = some ops[j] := by simp [show j < ops.size by omega]
        by_cases hex : ∃ e ∈ (ops[j]'(by omega)).after, Region.binds .any e = true ∧ listed.getD e.on false = false
        · obtain ⟨e, he, hb, hf⟩ := hex
          have h1 := List.all_eq_true.1 hed j (by simp [show j < ops.size by omega])
          rw [Array.getElem?_toList, ho] at h1
          have h2 := List.all_eq_true.1 h1 e (by simpa using he)
          rw [hb] at h2
          have hlt : e.on < j := by simpa [Nat.blt_eq] using h2
          refine ih e.on (by omega) (by omega) ?_
          have hs : e.on < listed.size := by omega
          simp only [Array.getD_eq_getD_getElem?, Array.getElem?_eq_getElem hs, Option.getD_some] at hf ⊢
          exact hf
        · refine ⟨j, mem_ready.2 ⟨hjf, _, ho, fun e he hb => ?_⟩⟩
          cases hf : listed.getD e.on false with
          | true => rfl
          | false => exact absurd ⟨e, he, hb, hf⟩ hex
    exact fun j hjl hjf => key j j (Nat.le_refl _) hjl hjf
  have main : ∀ (fuel : Nat) (listed : Array Bool) (a' : Act) (w' : World) (ρ' : Rho) (η' : Nat → Option Blk), listed.size = ops.size → miss (fun j => listed.getD j false) l.length ≤ fuel → Cut P imm ops l S nt w ρ (fun j => listed.getD j false = true) a' w' ρ' η' → wpAny P .any ops Q fuel listed a' w' := by
    intro fuel
    have fin : ∀ (listed : Array Bool) (a' : Act) (w' : World) (ρ' : Rho) (η' : Nat → Option Blk), listed.size = ops.size → Region.ready .any ops listed = [] → Cut P imm ops l S nt w ρ (fun j => listed.getD j false = true) a' w' ρ' η' → Q .normal a' w' := by
      intro listed a' w' ρ' η' hsz hr hC
      refine hend _ _ _ _ _ hC fun j hj => ?_
      have hs : j < listed.size := by omega
      cases hf : listed.getD j true with
      | true =>
        simp only [Array.getD_eq_getD_getElem?, Array.getElem?_eq_getElem hs, Option.getD_some] at hf ⊢
        exact hf
      | false =>
        obtain ⟨j', hj'⟩ := hallD listed hsz j hj hf
        rw [hr] at hj'; cases hj'
    induction fuel with
    | zero =>
      intro listed a' w' ρ' η' hsz hmi hC
      have hall := miss_all (f := fun j => listed.getD j false) l.length (by omega)
      have hr : Region.ready .any ops listed = [] := by
        cases hr : Region.ready .any ops listed with
        | nil => rfl
        | cons i r =>
          have : i ∈ Region.ready .any ops listed := by rw [hr]; simp
          obtain ⟨h1, o, ho, _⟩ := mem_ready.1 this
          have hi : i < ops.size := (Array.getElem?_eq_some_iff.1 ho).1
          have := hall i (by omega)
          have hs : i < listed.size := by omega
          simp only [Array.getD_eq_getD_getElem?, Array.getElem?_eq_getElem hs, Option.getD_some] at h1 this
          rw [h1] at this; cases this
      exact ⟨hr, fin listed a' w' ρ' η' hsz hr hC⟩
    | succ fuel ih =>
      intro listed a' w' ρ' η' hsz hmi hC
      refine ⟨fun hr => fin listed a' w' ρ' η' hsz hr hC, fun i hi => ?_⟩
      obtain ⟨h1, o, ho, hrd⟩ := mem_ready.1 hi
      have hi' : i < ops.size := (Array.getElem?_eq_some_iff.1 ho).1
      have hs : i < listed.size := by omega
      have hf : listed.getD i false = false := by
        simp only [Array.getD_eq_getD_getElem?, Array.getElem?_eq_getElem hs, Option.getD_some] at h1 ⊢
        exact h1
      have hD : ¬ (listed.getD i false = true) := by rw [hf]; simp
      obtain ⟨x, hx, htr⟩ := hget' i o (by simpa using ho)
      obtain ⟨t1, t2, t3⟩ := trFl_parts htr
      have hxm : x ∈ l := List.mem_of_getElem? hx
      have hdx := hd x hxm
      have hN : Next ops l ps (fun j => listed.getD j false = true) i x := next_of hC.cl hdr ho hx hD hrd
      have hvw : ∀ n ∈ x.names, Rep w' (okB imm w' ρ') ρ' (look (S i).τ n) (a'.tmps.getD n undef) := fun n hn => hC.tm n i (by omega) (hN.view hx hD hn)
      have hgv : ∀ c b, x.g = some (c, b) → Rep w' (okB imm w' ρ') ρ' (look (S i).τ c) (a'.tmps.getD c undef) := fun c b hg => hvw c (by simp [Fl.names, hg])
      have hset : ∀ j, ((listed.setIfInBounds i true).getD j false = true) ↔ (listed.getD j false = true ∨ j = i) := by
        intro j
        by_cases hj : j = i
        · subst hj
          simp [hs]
        · rw [getD_set_ne false fun h => hj h.symm]
          simp [hj]
      have hms : miss (fun j => (listed.setIfInBounds i true).getD j false) l.length ≤ fuel := by
        have := miss_step (f := fun j => listed.getD j false) (g := fun j => (listed.setIfInBounds i true).getD j false) (i := i) hf (fun j hj => getD_set_ne false fun h => hj h.symm) ((hset i).2 (.inr rfl)) l.length (by omega)
        omega
      unfold wpOp
      rw [ho]
      simp only
      by_cases hop : OpS P x (S i) (S (i + 1))
      · obtain ⟨v, hw, hst, hl, hk, ht, hnk, hpu, hnb, hv⟩ := id hop
        obtain ⟨r1, r2, r3⟩ := hC.rows hS hap hx hD hN hop
        rw [if_pos (guard_on t3 hgv hw)]
        refine .inl (hst.relax (t1 hnb) hC.inv (fun n hn => hvw n (List.mem_append.2 (.inl hn))) r1 r3 r2 fun y w1 ρ1 h1 h2 h3 h4 => ?_)
        rw [t2]
        exact ih _ _ _ _ _ (by simp [hsz]) hms ((hC.step hS hap ho hx hD hN hop hrd (hcs x hxm) hdx hv h1 h2 h3 h4).congr hset)
      · rcases hS i x hx with h | hsk
        · exact absurd h hop
        · obtain ⟨E, hu, hE, hv⟩ := id hsk
          rw [if_neg (by rw [guard_off t3 hgv hu]; simp), t2]
          exact ih _ _ _ _ _ (by simp [hsz]) hms ((hC.skip hS ho hx hD hN hsk hrd hdx hop).congr hset)
  refine main _ _ _ _ _ _ (by simp) ?_ (hC0.congr fun j => ?_)
  · rw [hlen]
    have : ∀ (f : Nat → Bool) n, miss f n ≤ n := by
      intro f n
      induction n with
      | zero => exact Nat.le_refl _
      | succ n ih => unfold miss; cases f n <;> simp <;> omega
    exact this _ _
  · simp only [Array.getD_eq_getD_getElem?, Array.getElem?_replicate, iff_false]
    split <;> simp
end

end Go.Proofs.YtgamkmgdbfeigaaM
