/- Regions, in the order in which they stand. -/
import Derived.Test.YtgamkmgdbfeigaaM9
import Derived.Orders
namespace Go.Proofs.YtgamkmgdbfeigaaM
open Go Go.RowKit

section
variable {P : Program} {imm : Nat → Prop} {w w' : World} {ρ ρ' : Rho} {η η' : Nat → Option Blk}

/-- Only what lies somewhere counts. -/
theorem Inv.congr (hI : Inv imm w ρ η) (h : ∀ b, ρ b ≠ none → η' b = η b) : Inv imm w ρ η' :=
  ⟨hI.dist, fun b hb => by rw [h b (by rw [hb]; simp)]; exact hI.dead b hb, fun b v ty es hb => by rw [h b (by rw [hb]; simp)]; exact hI.row b v ty es hb, hI.own, hI.new⟩

/-- StpOK, asked only of what lies somewhere. -/
theorem StpOK.relax {o : O} {τ : Env} {H H' : Hp} {v : V} (h : StpOK P o τ H v H') {o' : Oper} (ht : trO P o' = some o.norm) {a : Act} {next : Act → World → Prop} {Q : Exit → Act → World → Prop} (hI : Inv imm w ρ η)
    (hr : ∀ n ∈ o.tmps, Rep w (okB imm w ρ) ρ (look τ n) (a.tmps.getD n undef)) (hp : ∀ b ∈ o.touch τ H, ρ b ≠ none → η b = hget H b) (hn : ∀ b, H.length ≤ b → b < H'.length → ρ b = none)
    (hall : o.all = true → (∀ b, H.length ≤ b → ρ b = none) ∧ ∀ b, ρ b ≠ none → η b = hget H b)
    (hnext : ∀ x w' ρ', Rep w' (okB imm w' ρ') ρ' v x → Ext w ρ w' ρ' → Inv imm w' ρ' (upd (o.writes τ H) η H H') → (∀ b, ρ b = none → ρ' b ≠ none → H.length ≤ b ∧ b < H'.length) → next (a.put o'.dst x) w') : o'.wp P a w next Q := by
  classical
  refine h o' ht imm w ρ (fun b => if ρ b = none then hget H b else η b) a next Q (hI.congr fun b hb => if_neg hb) hr (fun b hb => ?_) hn (fun hb => ⟨(hall hb).1, fun b => ?_⟩) fun x w' ρ' h1 h2 h3 h4 => hnext x w' ρ' h1 h2 (h3.congr fun b hb => ?_) h4
  · by_cases hq : ρ b = none
    · simp only [if_pos hq]
    · simp only [if_neg hq]; exact hp b hb hq
  · by_cases hq : ρ b = none
    · simp only [if_pos hq]
    · simp only [if_neg hq]; exact (hall hb).2 b hq
  · unfold upd
    split
    · rfl
    · rename_i hc
      by_cases hq : ρ b = none
      · exact absurd (.inr (h4 b hq hb)) hc
      · simp only [if_neg hq]

def wanted (τ : Env) : Option (Nat × Bool) → Prop
  | none => True
  | some (c, want) => look τ c = .b want

def unwanted (τ : Env) : Option (Nat × Bool) → Prop
  | none => False
  | some (c, want) => look τ c = .b (!want) ∨ look τ c = .tu []

/-- Less is known. -/
def envLe (τ' τ : Env) : Prop := ∀ t, look τ' t = .un ∨ look τ' t = look τ t

theorem envLe.refl (τ : Env) : envLe τ τ := fun _ => .inr rfl
theorem envLe.trans {a b c : Env} (h : envLe a b) (h' : envLe b c) : envLe a c := fun t => by
  rcases h t with h1 | h1
  · exact .inl h1
  · rcases h' t with h2 | h2
    · exact .inl (h1.trans h2)
    · exact .inr (h1.trans h2)

/-- The marks mean what they say. -/
def O.nkOk (τ : Env) : O → Prop
  | .bsl true _ _ ps => (ps.flatMap fun x => (x.ev τ).ids) = []
  | .st true _ _ x => (x.ev τ).ids = []
  | _ => True

/-- A region's operations, carried out one after the other. -/
inductive FRun (P : Program) : List Fl → St → St → Prop
  | nil {s : St} : FRun P [] s s
  | wk {l : List Fl} {s s1 s' : St} (h : envLe s1.τ s.τ) (hb : s1.base = s.base) (hH : s1.H = s.H) (hr : FRun P l s1 s') : FRun P l s s'
  | op {x : Fl} {l : List Fl} {s s' : St} (v : V) (H' : Hp) (hw : wanted s.τ x.g) (h : StpOK P x.op s.τ s.H v H') (hl : s.H.length ≤ H'.length) (hk : ∀ b, b < s.H.length → b ∉ x.op.writes s.τ s.H → hget H' b = hget s.H b)
      (ht : ∀ b ∈ x.op.touch s.τ s.H, b < s.H.length) (hnk : x.op.nkOk s.τ) (hpu : x.op.isPure = true → H' = s.H) (hnb : x.op.isBad = false) (hr : FRun P l ⟨s.base, put s.τ x.dst v, H'⟩ s') : FRun P (x :: l) s s'
  | skip {x : Fl} {l : List Fl} {s s' : St} (E : Hp) (hw : unwanted s.τ x.g) (hr : FRun P l ⟨s.base, put s.τ x.dst (.tu []), s.H ++ E⟩ s') : FRun P (x :: l) s s'

theorem FRun.append {l l' : List Fl} {s s1 s' : St} (h : FRun P l s s1) (h' : FRun P l' s1 s') : FRun P (l ++ l') s s' := by
  induction h with
  | nil => exact h'
  | wk h hb hH _ ih => exact .wk h hb hH (ih h')
  | op v H' hw h hl hk ht hnk hpu hnb _ ih => exact .op v H' hw h hl hk ht hnk hpu hnb (ih h')
  | skip E hw _ ih => exact .skip E hw (ih h')

/-- The machine's state beside the program's. -/
structure Rel (imm : Nat → Prop) (nt : Nat) (s : St) (a : Act) (w : World) (ρ : Rho) : Prop where
  inv : Inv imm w ρ (hget s.H)
  fresh : ∀ b, s.H.length ≤ b → ρ b = none
  tm : ∀ t, Rep w (okB imm w ρ) ρ (look s.τ t) (a.tmps.getD t undef)
  sz : a.tmps.size = nt
  df : a.defers = []
  base : s.base ≤ s.H.length

theorem look_put (τ : Env) (d : Option Nat) (v : V) (t : Nat) : look (put τ d v) t = if d = some t then v else look τ t := by
  cases d with
  | none => simp [put]
  | some d =>
    simp only [put, look, Option.some.injEq]
    by_cases h : d = t
    · subst h; simp
    · rw [if_neg h]
      have : Nat.beq d t = false := by
        cases hb : Nat.beq d t with
        | false => rfl
        | true => exact absurd (Nat.eq_of_beq_eq_true hb) h
      rw [this]; rfl

theorem put_getD {a : Act} {nt : Nat} (hs : a.tmps.size = nt) {d : Option Nat} (hd : ∀ k, d = some k → k < nt) (x : Value) (t : Nat) : (a.put d x).tmps.getD t undef = if d = some t then x else a.tmps.getD t undef := by
  cases d with
  | none => simp [Act.put]
  | some d =>
    have hlt := hd d rfl
    simp only [Act.put, Option.some.injEq]
    simp only [Array.getD_eq_getD_getElem?, Array.getElem?_setIfInBounds]
    by_cases h : d = t
    · subst h; simp [hs, hlt]
    · simp [h]

theorem put_size {a : Act} {d : Option Nat} {x : Value} : (a.put d x).tmps.size = a.tmps.size := by cases d <;> simp [Act.put]
theorem put_defers {a : Act} {d : Option Nat} {x : Value} : (a.put d x).defers = a.defers := by cases d <;> rfl

theorem trFl_parts {ops : Array Oper} {o' : Oper} {x : Fl} (h : trFl P ops o' = some x.norm) : (x.op.isBad = false → trO P o' = some x.op.norm) ∧ o'.dst = x.dst ∧ trG ops o'.guard = some x.g := by
  unfold trFl at h
  obtain ⟨g, hg, h⟩ := mapS h
  have h1 := congrArg Fl.dst h
  have h2 := congrArg Fl.op h
  have h3 := congrArg Fl.g h
  simp only [Fl.norm] at h1 h2 h3
  refine ⟨fun hb => ?_, h1, by rw [hg, h3]⟩
  unfold trOb at h2
  split at h2
  · rename_i q hq
    rw [hq, h2]
  · rename_i hq
    cases hx : x.op <;> rw [hx] at h2 hb <;> first | (cases h2; done) | cases hb

theorem guard_on {ops : Array Oper} {o' : Oper} {g : Option (Nat × Bool)} (hg : trG ops o'.guard = some g) {τ : Env} {ok : Nat → Prop} {a : Act} (hr : ∀ c b, g = some (c, b) → Rep w ok ρ (look τ c) (a.tmps.getD c undef)) (hw : wanted τ g) : Region.wanted o' (yielded ops a.tmps) = true := by
  unfold Region.wanted
  cases hgd : o'.guard with
  | none => rfl
  | some jw =>
    obtain ⟨j, want⟩ := jw
    rw [hgd] at hg
    obtain ⟨c, hc, rfl⟩ := mapS hg
    have h1 := hr c want rfl
    simp only [wanted] at hw
    rw [hw] at h1
    have h2 := h1.bool
    have h3 : a.tmps[c]? = some (.bool want) := by
      rw [Array.getD_eq_getD_getElem?] at h2
      cases hq : a.tmps[c]? with
      | none => rw [hq] at h2; cases h2
      | some v => rw [hq] at h2; simp at h2; rw [h2]
    simp [yielded, hc, h3]

theorem guard_off {ops : Array Oper} {o' : Oper} {g : Option (Nat × Bool)} (hg : trG ops o'.guard = some g) {τ : Env} {ok : Nat → Prop} {a : Act} (hr : ∀ c b, g = some (c, b) → Rep w ok ρ (look τ c) (a.tmps.getD c undef)) (hw : unwanted τ g) : Region.wanted o' (yielded ops a.tmps) = false := by
  unfold Region.wanted
  cases hgd : o'.guard with
  | none => rw [hgd] at hg; cases hg; exact hw.elim
  | some jw =>
    obtain ⟨j, want⟩ := jw
    rw [hgd] at hg
    obtain ⟨c, hc, rfl⟩ := mapS hg
    have h1 := hr c want rfl
    simp only [unwanted] at hw
    have h2 : a.tmps.getD c undef = .bool (!want) ∨ a.tmps.getD c undef = .tuple #[] := by
      rcases hw with hw | hw
      · rw [hw] at h1; exact .inl h1.bool
      · rw [hw] at h1
        right
        generalize a.tmps.getD c undef = y at h1
        cases h1 with
        | tu hl h' => rename_i vs; have : vs = #[] := Array.size_eq_zero_iff.1 (by simpa using hl.symm); rw [this]
    rw [Array.getD_eq_getD_getElem?] at h2
    cases hq : a.tmps[c]? with
    | none => simp [yielded, hc, hq]
    | some v =>
      rw [hq] at h2
      simp only [Option.getD_some] at h2
      rcases h2 with rfl | rfl
      · simp [yielded, hc, hq]
      · simp [yielded, hc, hq]

/-- The world goes on: of the rows numbered below n is it known where they are. -/
structure ExtB (n : Nat) (w : World) (ρ : Rho) (w' : World) (ρ' : Rho) : Prop where
  os : w'.os = w.os
  tape : w'.tape = w.tape
  output : w'.output = w.output
  size : w.heap.size ≤ w'.heap.size
  heap : ∀ k, k < w.heap.size → ¬ aliveB ρ k → w'.heap[k]? = w.heap[k]?
  ok : ∀ k, k < w.heap.size → ¬ aliveB ρ k → ¬ aliveB ρ' k
  le : ∀ b q, b < n → ρ b = some q → ρ' b = some q ∨ ρ' b = some none

theorem Ext.toB (h : Ext w ρ w' ρ') (n : Nat) : ExtB n w ρ w' ρ' := ⟨h.os, h.tape, h.output, h.size, h.heap, h.ok, fun b q _ hq => h.le b q hq⟩

theorem ExtB.toE {n : Nat} (h : ExtB n w ρ w' ρ') (hn : ∀ b, n ≤ b → ρ b = none) : Ext w ρ w' ρ' := ⟨h.os, h.tape, h.output, h.size, h.heap, h.ok, fun b q hq => by
  rcases Nat.lt_or_ge b n with hb | hb
  · exact h.le b q hb hq
  · rw [hn b hb] at hq; cases hq⟩

theorem ExtB.trans {n : Nat} {w'' : World} {ρ'' : Rho} (h : ExtB n w ρ w' ρ') (h' : ExtB n w' ρ' w'' ρ'') : ExtB n w ρ w'' ρ'' :=
  ⟨h'.os.trans h.os, h'.tape.trans h.tape, h'.output.trans h.output, Nat.le_trans h.size h'.size,
    fun k hk ha => (h'.heap k (Nat.lt_of_lt_of_le hk h.size) (h.ok k hk ha)).trans (h.heap k hk ha),
    fun k hk ha => h'.ok k (Nat.lt_of_lt_of_le hk h.size) (h.ok k hk ha), fun b q hb hq => by
      rcases h.le b q hb hq with h1 | h1
      · exact h'.le b q hb h1
      · rcases h'.le b none hb h1 with h2 | h2 <;> exact .inr h2⟩

/-- What a run of a region, or of code, has left behind. -/
structure RelTo (imm : Nat → Prop) (nt : Nat) (s : St) (w : World) (ρ : Rho) (s' : St) (a' : Act) (w' : World) (ρ' : Rho) : Prop where
  rel : Rel imm nt s' a' w' ρ'
  ext : ExtB s.base w ρ w' ρ'
  low : ∀ b, b < s.base → ρ b = none → ρ' b = none
  base : s'.base = s.base

theorem RelTo.refl {nt : Nat} {s : St} {a : Act} (h : Rel imm nt s a w ρ) : RelTo imm nt s w ρ s a w ρ := ⟨h, (Ext.refl _ _).toB _, fun _ _ h => h, rfl⟩
theorem RelTo.trans {nt : Nat} {s s1 s2 : St} {a1 a2 : Act} {w1 w2 : World} {ρ1 ρ2 : Rho} (h : RelTo imm nt s w ρ s1 a1 w1 ρ1) (h' : RelTo imm nt s1 w1 ρ1 s2 a2 w2 ρ2) : RelTo imm nt s w ρ s2 a2 w2 ρ2 :=
  ⟨h'.rel, h.ext.trans (by rw [← h.base]; exact h'.ext), fun b hb hn => h'.low b (by rw [h.base]; exact hb) (h.low b hb hn), h'.base.trans h.base⟩

theorem Rel.weak {nt : Nat} {s s1 : St} {a : Act} (h : Rel imm nt s a w ρ) (he : envLe s1.τ s.τ) (hb : s1.base = s.base) (hH : s1.H = s.H) : Rel imm nt s1 a w ρ :=
  ⟨by rw [hH]; exact h.inv, by rw [hH]; exact h.fresh, fun t => by
    rcases he t with h1 | h1
    · rw [h1]; exact .un _
    · rw [h1]; exact h.tm t, h.sz, h.df, by rw [hb, hH]; exact h.base⟩

theorem upd_hget {ws : List Nat} {H H' : Hp} (hk : ∀ b, b < H.length → b ∉ ws → hget H' b = hget H b) : upd ws (hget H) H H' = hget H' := by
  funext b
  unfold upd
  split
  · rfl
  · rename_i h
    rcases Nat.lt_or_ge b H.length with h1 | h1
    · exact (hk b h1 fun hb => h (.inl hb)).symm
    · have h2 : H'.length ≤ b := by
        rcases Nat.lt_or_ge b H'.length with h' | h'
        · exact absurd (.inr ⟨h1, h'⟩) h
        · exact h'
      unfold hget
      rw [List.getElem?_eq_none h1, List.getElem?_eq_none h2]

theorem frun_seq {ops : Array Oper} {nt : Nat} {l : List Fl} {s s' : St} (h : FRun P l s s') : ∀ (i : Nat), trFls P ops (ops.toList.drop i) = some (l.map Fl.norm) → (∀ x ∈ l, ∀ k, x.dst = some k → k < nt) → ∀ {a : Act} {w : World} {ρ : Rho} {Q : Exit → Act → World → Prop}, Rel imm nt s a w ρ →
    (∀ a' w' ρ', RelTo imm nt s w ρ s' a' w' ρ' → Q .normal a' w') → wpOps P ops Q (List.range' i (ops.size - i)) a w := by
  induction h with
  | nil =>
    intro i hm _ a w ρ Q hR hq
    have hi : ops.size - i = 0 := by
      cases hd : ops.toList.drop i with
      | nil => have := congrArg List.length hd; simp at this; omega
      | cons o r =>
        rw [hd] at hm
        unfold trFls at hm
        obtain ⟨_, _, hm⟩ := bindS hm
        obtain ⟨_, _, hm⟩ := mapS hm
        cases hm
    rw [hi]
    exact hq a w ρ (.refl hR)
  | wk h hb hH _ ih =>
    intro i hm hd a w ρ Q hR hq
    exact ih i hm hd (hR.weak h hb hH) fun a' w' ρ' hR' => hq a' w' ρ' ⟨hR'.rel, by rw [← hb]; exact hR'.ext, fun b hb' => hR'.low b (by rw [hb]; exact hb'), hR'.base.trans hb⟩
  | op v H' hw h hl hk ht hnk hpu hnb _ ih =>
    rename_i x l s s' _
    intro i hm hd a w ρ Q hR hq
    cases hdr : ops.toList.drop i with
    | nil => rw [hdr] at hm; cases hm
    | cons o' r =>
      rw [hdr] at hm
      unfold trFls at hm
      obtain ⟨y, hy, hm⟩ := bindS hm
      obtain ⟨l', hl', hm⟩ := mapS hm
      simp only [List.map_cons, List.cons.injEq] at hm
      obtain ⟨rfl, rfl⟩ := hm
      have hi : i < ops.size := by have := congrArg List.length hdr; simp at this; omega
      have hoi : ops[i]? = some o' := by
        have := congrArg (·[0]?) hdr
        simpa [List.getElem?_drop] using this
      have hdr' : ops.toList.drop (i + 1) = r := by rw [← List.drop_drop, hdr]; rfl
      obtain ⟨t1, t2, t3⟩ := trFl_parts hy
      have hsz : ops.size - i = (ops.size - (i + 1)) + 1 := by omega
      rw [hsz, List.range'_succ, wpOps_cons]
      unfold wpOp
      rw [hoi]
      simp only
      rw [if_pos (guard_on t3 (fun c b _ => hR.tm c) hw)]
      refine .inl (h.relax (t1 hnb) hR.inv (fun n _ => hR.tm n) (fun b _ _ => rfl) (fun b hb _ => hR.fresh b hb) (fun _ => ⟨hR.fresh, fun _ _ => rfl⟩) fun y w1 ρ1 h1 h2 h3 h4 => ?_)
      have hdx : ∀ k, o'.dst = some k → k < nt := fun k hk' => hd x (by simp) k (by rw [← t2]; exact hk')
      have hR1 : Rel imm nt ⟨s.base, put s.τ x.dst v, H'⟩ (a.put o'.dst y) w1 ρ1 := by
        refine ⟨?_, fun b hb => ?_, fun t => ?_, by rw [put_size]; exact hR.sz, by rw [put_defers]; exact hR.df, Nat.le_trans hR.base hl⟩
        · rw [upd_hget hk] at h3; exact h3
        · cases hq : ρ1 b with
          | none => rfl
          | some q =>
            have := h4 b (hR.fresh b (Nat.le_trans hl hb)) (by rw [hq]; simp)
            simp only at hb
            omega
        · rw [look_put, put_getD hR.sz hdx, t2]
          split
          · exact h1
          · exact (hR.tm t).ext h2
      have hT : RelTo imm nt s w ρ ⟨s.base, put s.τ x.dst v, H'⟩ (a.put o'.dst y) w1 ρ1 := ⟨hR1, h2.toB _, fun b hb hn => by
        cases hq : ρ1 b with
        | none => rfl
        | some q => have := h4 b hn (by rw [hq]; simp); have := hR.base; omega, rfl⟩
      exact ih (i + 1) (by rw [hdr']; exact hl') (fun x hx => hd x (by simp [hx])) hR1 fun a' w' ρ' hR' => hq a' w' ρ' (hT.trans hR')
  | skip E hw _ ih =>
    rename_i x l s s' _
    intro i hm hd a w ρ Q hR hq
    cases hdr : ops.toList.drop i with
    | nil => rw [hdr] at hm; cases hm
    | cons o' r =>
      rw [hdr] at hm
      unfold trFls at hm
      obtain ⟨y, hy, hm⟩ := bindS hm
      obtain ⟨l', hl', hm⟩ := mapS hm
      simp only [List.map_cons, List.cons.injEq] at hm
      obtain ⟨rfl, rfl⟩ := hm
      have hi : i < ops.size := by have := congrArg List.length hdr; simp at this; omega
      have hoi : ops[i]? = some o' := by
        have := congrArg (·[0]?) hdr
        simpa [List.getElem?_drop] using this
      have hdr' : ops.toList.drop (i + 1) = r := by rw [← List.drop_drop, hdr]; rfl
      obtain ⟨t1, t2, t3⟩ := trFl_parts hy
      have hsz : ops.size - i = (ops.size - (i + 1)) + 1 := by omega
      rw [hsz, List.range'_succ, wpOps_cons]
      unfold wpOp
      rw [hoi]
      simp only
      rw [if_neg (by rw [guard_off t3 (fun c b _ => hR.tm c) hw]; simp)]
      have hdx : ∀ k, o'.dst = some k → k < nt := fun k hk' => hd x (by simp) k (by rw [← t2]; exact hk')
      have hR1 : Rel imm nt ⟨s.base, put s.τ x.dst (.tu []), s.H ++ E⟩ (a.put o'.dst undef) w ρ := by
        refine ⟨hR.inv.congr fun b hb => ?_, fun b hb => hR.fresh b (by simp at hb; omega), fun t => ?_, by rw [put_size]; exact hR.sz, by rw [put_defers]; exact hR.df, by have := hR.base; simp; omega⟩
        · have : b < s.H.length := by
            rcases Nat.lt_or_ge b s.H.length with h | h
            · exact h
            · exact absurd (hR.fresh b h) hb
          unfold hget
          rw [List.getElem?_append_left this]
        · rw [look_put, put_getD hR.sz hdx, t2]
          split
          · exact .tu rfl fun t c x h => by simp at h
          · exact hR.tm t
      exact ih (i + 1) (by rw [hdr']; exact hl') (fun x hx => hd x (by simp [hx])) hR1 fun a' w' ρ' hR' => hq a' w' ρ' ⟨hR'.rel, hR'.ext, hR'.low, hR'.base⟩
end

end Go.Proofs.YtgamkmgdbfeigaaM
