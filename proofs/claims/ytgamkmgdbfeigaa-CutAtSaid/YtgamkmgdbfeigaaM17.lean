/- At a loop's head: the state whose rows are numbered anew stands for the same. -/
import Derived.Test.YtgamkmgdbfeigaaM16
namespace Go.Proofs.YtgamkmgdbfeigaaM
open Go Go.RowKit

section
variable {P : Program} {imm : Nat → Prop} {w : World} {ρ ρ' : Rho} {base : Nat} {O : Olds}

/-- Where the renumbered rows lie. -/
structure RhoRen (base : Nat) (O : Olds) (ρ ρ' : Rho) : Prop where
  lo : ∀ b, b < base → ρ' b = ρ b
  sm : ∀ (k b ty es : Nat), O[k]? = some (some b, ty, es) → ρ' (base + k) = ρ b ∨ (ρ b ≠ none ∧ ρ' (base + k) = some none)
  nn : ∀ (k ty es : Nat), O[k]? = some (none, ty, es) → ρ' (base + k) = some (some (.slice none 0 0, ty, es)) ∨ ρ' (base + k) = some none

theorem RhoRen.map (h : RhoRen base O ρ ρ') {b b' : Nat} (hm : Map base O b b') (hb : ρ b ≠ none) : ρ' b' ≠ none ∧ ∀ q, ρ' b' = some (some q) → ρ b = some (some q) := by
  rcases hm with ⟨h1, rfl⟩ | ⟨k, ty, es, hk, rfl⟩
  · rw [h.lo _ h1]; exact ⟨hb, fun q hq => hq⟩
  · rcases h.sm k b ty es hk with h1 | ⟨_, h1⟩
    · rw [h1]; exact ⟨hb, fun q hq => hq⟩
    · rw [h1]; exact ⟨by simp, fun q hq => by cases hq⟩

theorem Rep.ren {ok ok' : Nat → Prop} {v : V} {x : Value} (h : Rep w ok ρ v x) (hok : ∀ k, ok k → ok' k) (hρ : RhoRen base O ρ ρ') : ∀ {v' : V}, Ren base O v v' → Rep w ok' ρ' v' x := by
  have go : ∀ {ρ1 : Rho} {v : V} {x : Value}, Rep w ok ρ1 v x → ρ1 = ρ → ∀ {v' : V}, Ren base O v v' → Rep w ok' ρ' v' x := by
    intro ρ1 v x h
    induction h with
    | un x => intro _ v' hr; cases hr; exact .un x
    | b x => intro _ v' hr; cases hr <;> first | exact .un _ | exact .b x
    | i k n => intro _ v' hr; cases hr <;> first | exact .un _ | exact .i k n
    | p x h1 => intro _ v' hr; cases hr <;> first | exact .un _ | exact .p x h1
    | ag hl h1 _ ih =>
      intro he v' hr
      cases hr with
      | un => exact .un _
      | ag hl' hc =>
        refine .ag (hl'.trans hl) h1 fun t c' x hc' hx => ?_
        rename_i cs vs cs' _
        have hlt : t < cs.length := by rw [← hl']; exact (List.getElem?_eq_some_iff.1 hc').1
        exact ih t cs[t] x (by simp [hlt]) hx he (hc t cs[t] c' (by simp [hlt]) hc')
    | tu hl _ ih => intro _ v' hr; cases hr; exact .un _
    | sl g hn hc he ha h1 h _ =>
      intro _ v' hr
      cases hr with
      | un => exact .un _
      | sl =>
        refine .sl g hn hc he (fun hne => ?_) h1 fun j t e c hj ht => (h j t e c hj ht).mono hok (fun _ _ => rfl) (rhoLe.refl _)
        obtain ⟨A, h1, h2, h3⟩ := ha hne
        exact ⟨A, h1, hok _ h2, h3⟩
    | nl ty es =>
      intro _ v' hr
      cases hr with
      | un => exact .un _
      | nl hk =>
        rename_i k
        refine .rf ?_ (Nat.le_refl _) (fun h => absurd h (Nat.lt_irrefl 0)) fun v ty' es' hv => ?_
        · rcases hρ.nn _ _ _ hk with h | h <;> rw [h] <;> simp
        · rcases hρ.nn _ _ _ hk with h | h
          · rw [h] at hv
            cases hv
            exact ⟨rfl, .inr (.inl ⟨rfl, rfl, rfl, rfl⟩)⟩
          · rw [h] at hv; cases hv
    | rf hd hc ha hcc =>
      intro he v' hr
      subst he
      cases hr with
      | un => exact .un _
      | rf _ _ _ hm =>
        obtain ⟨h1, h2⟩ := hρ.map hm hd
        exact .rf h1 hc ha fun v ty es' hv => hcc v ty es' (h2 _ hv)
    | pt hd hcc =>
      intro he v' hr
      subst he
      cases hr with
      | un => exact .un _
      | pt _ _ _ hm =>
        obtain ⟨h1, h2⟩ := hρ.map hm hd
        exact .pt h1 fun v ty es' hv => hcc v ty es' (h2 _ hv)
    | ip f ho hc h1 h _ =>
      intro _ v' hr
      cases hr with
      | un => exact .un _
      | ip => exact .ip f (fun h0 => hok _ (ho h0)) hc h1 fun t c hc' => (h t c hc').mono hok (fun _ _ => rfl) (rhoLe.refl _)
    | fn hl _ ih =>
      intro he v' hr
      cases hr with
      | un => exact .un _
      | fn _ hl' hc =>
        refine .fn (hl'.trans hl) fun t c' x hc' hx => ?_
        rename_i f cs vs cs' _
        have hlt : t < cs.length := by rw [← hl']; exact (List.getElem?_eq_some_iff.1 hc').1
        exact ih t cs[t] x (by simp [hlt]) hx he (hc t cs[t] c' (by simp [hlt]) hc')
  intro v' hr
  exact go h rfl hr

theorem RowOk.ren {ok ok' : Nat → Prop} {v : Value} {ty es : Nat} {x x' : V} (h : RowOk w ok ρ v ty es [x]) (hok : ∀ k, ok k → ok' k) (hρ : RhoRen base O ρ ρ') (hl : (∀ cs, x ≠ .tu cs) → x'.cells.length = x.cells.length)
    (hc : (∀ cs, x ≠ .tu cs) → ∀ (t : Nat) (c c' : V), x.cells[t]? = some c → x'.cells[t]? = some c' → Ren base O c c') : RowOk w ok' ρ' v ty es [x'] := by
  obtain ⟨cs, h1, h2⟩ := h
  have htu : ∀ ds, x ≠ .tu ds := by
    rintro ds rfl
    obtain ⟨_, h3⟩ := h2 0 (.tu ds) rfl
    obtain ⟨y, _, hy1, hy2⟩ := h3 0 (.tu ds) rfl
    cases hy2
    cases hy1
  refine ⟨cs, by simpa using h1, fun j e he => ?_⟩
  cases j with
  | succ j => simp at he
  | zero =>
    simp at he
    subst he
    obtain ⟨h3, h4⟩ := h2 0 x rfl
    refine ⟨(hl htu).trans h3, fun t c' hc' => ?_⟩
    have hlt : t < x.cells.length := by rw [← hl htu]; exact (List.getElem?_eq_some_iff.1 hc').1
    have hx : x.cells[t]? = some x.cells[t] := by simp [hlt]
    obtain ⟨y, hy, hy1, hy2⟩ := h4 t _ hx
    exact ⟨y, hy, hy1, hy2.ren hok hρ (hc htu t _ c' hx hc')⟩

theorem RowOk.mono' {ok ok' : Nat → Prop} {v : Value} {ty es : Nat} {xs : List V} (h : RowOk w ok noRho v ty es xs) (hok : ∀ k, ok k → ok' k) : RowOk w ok' noRho v ty es xs := by
  obtain ⟨cs, h1, h2⟩ := h
  refine ⟨cs, h1, fun j e he => ⟨(h2 j e he).1, fun t c hc => ?_⟩⟩
  obtain ⟨y, hy, hy1, hy2⟩ := (h2 j e he).2 t c hc
  exact ⟨y, hy, hy1, hy2.mono hok (fun _ _ => rfl) (rhoLe.refl _)⟩

theorem BlkOk.ren {ok ok' : Nat → Prop} {v : Value} {ty es : Nat} {B : Blk} {B' : Option Blk} (h : BlkOk w ok ρ v ty es B) (hok : ∀ k, ok k → ok' k) (hρ : RhoRen base O ρ ρ') (hB : BRen base O (some B) B') : ∃ B'', B' = some B'' ∧ BlkOk w ok' ρ' v ty es B'' := by
  cases hB with
  | row ty' es' sc xs =>
    obtain ⟨h1, h2, h3, h4⟩ := h
    exact ⟨_, rfl, h1, h2, h3.mono' hok, h4⟩
  | box ty' es' hl hc =>
    obtain ⟨h1, h2, h3, h4⟩ := h
    exact ⟨_, rfl, h1, h2, RowOk.ren h3 hok hρ hl hc, h4⟩

theorem canon_ok {nt : Nat} {s : St} {a : Act} (keep : List Nat) (h : Rel imm nt s a w ρ) : ∃ ρ', Rel imm nt (canon keep s) a w ρ' ∧ (∀ k, aliveB ρ' k → aliveB ρ k) ∧ ∀ b, b < s.base → ρ' b = ρ b := by
  obtain ⟨base, τ, H⟩ := s
  have hbase : base ≤ H.length := h.base
  generalize he : cEnv base τ keep [] = e
  generalize hb : cBlks base (H.take base) e.2 = b
  generalize hn : cNew base H 40 0 b.2 = n
  have hcan : canon keep ⟨base, τ, H⟩ = ⟨base, e.1, b.1 ++ (n.1 ++ List.replicate (n.2.length - n.1.length) none)⟩ := by
    simp only [canon, he, hb, hn]
  obtain ⟨e1, e2⟩ := cEnv_ok (base := base) (O := n.2) (τ := τ) keep []
  obtain ⟨b1, b2, b3⟩ := cBlks_ok (base := base) (O := n.2) (H.take base) e.2
  obtain ⟨n1, n2⟩ := cNew_ok (base := base) (O := n.2) (H := H) 40 0 b.2
  rw [he] at e1 e2
  rw [hb] at b1 b2 b3
  rw [hn] at n1 n2
  have hbl : b.1.length = base := by rw [b2, List.length_take]; omega
  have good : GoodO base n.2 := n1.good (b1.good (e1.good fun k b ty es h => by simp at h))
  have e3 := e2 (b1.pre.trans n1.pre)
  have b4 := b3 n1.pre
  have n3 := n2 (Pre.refl _)
  rw [hcan]
  generalize hO : n.2 = O at *
  let ρ' : Rho := fun m => if m < base then ρ m else match O[m - base]? with
    | none => none
    | some (some q, _, _) => if m - base < n.1.length then ρ q else (ρ q).map fun _ => none
    | some (none, ty, es) => if m - base < n.1.length then some (some (.slice none 0 0, ty, es)) else some none
  have hlo : ∀ m, m < base → ρ' m = ρ m := fun m hm => by simp only [ρ', if_pos hm]
  have hhi : ∀ k, ρ' (base + k) = match O[k]? with
    | none => none
    | some (some q, _, _) => if k < n.1.length then ρ q else (ρ q).map fun _ => none
    | some (none, ty, es) => if k < n.1.length then some (some (.slice none 0 0, ty, es)) else some none := fun k => by
    simp only [ρ']
    rw [if_neg (by omega), show base + k - base = k by omega]
  have hren : RhoRen base O ρ ρ' := by
    refine ⟨hlo, fun k q ty es hk => ?_, fun k ty es hk => ?_⟩
    · rw [hhi, hk]
      simp only
      split
      · exact .inl rfl
      · cases hq : ρ q with
        | none => exact .inl rfl
        | some p => exact .inr ⟨by simp, rfl⟩
    · rw [hhi, hk]
      simp only
      split
      · exact .inl rfl
      · exact .inr rfl
  -- the places that are alive
  have hal : ∀ m v ty es, ρ' m = some (some (v, ty, es)) → (m < base ∧ ρ m = some (some (v, ty, es))) ∨ ∃ k, m = base + k ∧ k < n.1.length ∧ ((∃ q ty' es', O[k]? = some (some q, ty', es') ∧ ρ q = some (some (v, ty, es))) ∨ (O[k]? = some (none, ty, es) ∧ v = .slice none 0 0)) := by
    intro m v ty es hm
    rcases Nat.lt_or_ge m base with h1 | h1
    · exact .inl ⟨h1, by rw [← hlo m h1]; exact hm⟩
    · obtain ⟨k, rfl⟩ : ∃ k, m = base + k := ⟨m - base, by omega⟩
      rw [hhi] at hm
      refine .inr ⟨k, rfl, ?_⟩
      split at hm
      · cases hm
      · rename_i q ty' es' hk
        split at hm
        · rename_i hlt
          exact ⟨hlt, .inl ⟨q, ty', es', hk, hm⟩⟩
        · cases hq : ρ q with
          | none => rw [hq] at hm; cases hm
          | some p => rw [hq] at hm; cases hm
      · rename_i ty' es' hk
        split at hm
        · rename_i hlt
          cases hm
          exact ⟨hlt, .inr ⟨hk, rfl⟩⟩
        · cases hm
  have halive : ∀ k, aliveB ρ' k → aliveB ρ k := by
    rintro k ⟨m, v, ty, es, hm, hv⟩
    rcases hal m v ty es hm with ⟨_, h1⟩ | ⟨j, _, _, ⟨q, ty', es', _, h1⟩ | ⟨_, rfl⟩⟩
    · exact ⟨m, v, ty, es, h1, hv⟩
    · exact ⟨q, v, ty, es, h1, hv⟩
    · cases hv
  have hok : ∀ k, okB imm w ρ k → okB imm w ρ' k := fun k hk => ⟨hk.1, hk.2.1, fun ha => hk.2.2 (halive k ha)⟩
  -- the memory
  have hg1 : ∀ m, m < base → BRen base O (hget H m) (hget (b.1 ++ (n.1 ++ List.replicate (O.length - n.1.length) none)) m) := by
    intro m hm
    have hH : H[m]? = some H[m] := by simp [show m < H.length by omega]
    have hB : b.1[m]? = some (b.1[m]'(by omega)) := by simp [show m < b.1.length by omega]
    have := b4 m _ _ (by rw [List.getElem?_take, if_pos hm, hH]) hB
    unfold hget
    rw [List.getElem?_append_left (by omega), hH, hB]
    exact this
  have hg2 : ∀ k, k < n.1.length → ∃ q, O[k]? = some q ∧ BRen base O (oldBlk H q) (hget (b.1 ++ (n.1 ++ List.replicate (O.length - n.1.length) none)) (base + k)) := by
    intro k hk
    have hN : n.1[k]? = some n.1[k] := by simp [hk]
    obtain ⟨q, h1, h2⟩ := n3 k _ hN
    refine ⟨q, by simpa using h1, ?_⟩
    unfold hget
    rw [List.getElem?_append_right (by omega), hbl, show base + k - base = k by omega, List.getElem?_append_left hk, hN]
    exact h2
  have hg3 : ∀ k, n.1.length ≤ k → hget (b.1 ++ (n.1 ++ List.replicate (O.length - n.1.length) none)) (base + k) = none := by
    intro k hk
    unfold hget
    rw [List.getElem?_append_right (by omega), hbl, show base + k - base = k by omega, List.getElem?_append_right hk, List.getElem?_replicate]
    split <;> rfl
  refine ⟨ρ', ⟨⟨?_, ?_, ?_, fun k hk => h.inv.own k (halive k hk), h.inv.new⟩, fun m hm => ?_, fun t => ?_, h.sz, h.df, ?_⟩, halive, hlo⟩
  · intro m m' v v' ty ty' es es' k hm hm' hv hv'
    have hj : ∀ m v ty es, ρ' m = some (some (v, ty, es)) → v.ownBlock = some k → ∃ q, ρ q = some (some (v, ty, es)) ∧ ((m < base ∧ q = m) ∨ (base ≤ q ∧ ∃ j ty' es', m = base + j ∧ O[j]? = some (some q, ty', es'))) := by
      intro m v ty es hm hv
      rcases hal m v ty es hm with ⟨h0, h1⟩ | ⟨j, h0, _, ⟨q, ty', es', h2, h1⟩ | ⟨_, rfl⟩⟩
      · exact ⟨m, h1, .inl ⟨h0, rfl⟩⟩
      · exact ⟨q, h1, .inr ⟨(good j q ty' es' h2).1, j, ty', es', h0, h2⟩⟩
      · cases hv
    obtain ⟨q, h1, h2⟩ := hj m v ty es hm hv
    obtain ⟨q', h1', h2'⟩ := hj m' v' ty' es' hm' hv'
    have hqq := h.inv.dist q q' v v' ty ty' es es' k h1 h1' hv hv'
    subst hqq
    rcases h2 with ⟨h3, h4⟩ | ⟨h3, j, t1, t2, h4, h5⟩
    · rcases h2' with ⟨h3', h4'⟩ | ⟨h3', j', _, _, h4', h5'⟩
      · rw [← h4, ← h4']
      · omega
    · rcases h2' with ⟨h3', h4'⟩ | ⟨h3', j', t1', t2', h4', h5'⟩
      · omega
      · have := (good j q t1 t2 h5).2 j' t1' t2' h5'
        rw [h4, h4', this]
  · intro m hm
    rcases Nat.lt_or_ge m base with h1 | h1
    · rw [hlo m h1] at hm
      have := hg1 m h1
      rw [h.inv.dead m hm] at this
      simp only
      generalize hget (b.1 ++ (n.1 ++ List.replicate (O.length - n.1.length) none)) m = B at this
      cases this
      rfl
    · obtain ⟨k, rfl⟩ : ∃ k, m = base + k := ⟨m - base, by omega⟩
      rcases Nat.lt_or_ge k n.1.length with h2 | h2
      · obtain ⟨q, hq, hB⟩ := hg2 k h2
        rw [hhi, hq] at hm
        obtain ⟨q1, ty, es⟩ := q
        cases q1 with
        | none => simp only [if_pos h2] at hm; cases hm
        | some q1 =>
          simp only [if_pos h2] at hm
          simp only [oldBlk] at hB
          rw [h.inv.dead q1 hm] at hB
          simp only
          generalize hget (b.1 ++ (n.1 ++ List.replicate (O.length - n.1.length) none)) (base + k) = B at hB
          cases hB
          rfl
      · exact hg3 k h2
  · intro m v ty es hm
    rcases hal m v ty es hm with ⟨h0, h1⟩ | ⟨j, rfl, hj, ⟨q, ty', es', h2, h1⟩ | ⟨h2, rfl⟩⟩
    · obtain ⟨B, hB, hBk⟩ := h.inv.row m v ty es h1
      have := hg1 m h0
      rw [hB] at this
      exact hBk.ren hok hren this
    · obtain ⟨B, hB, hBk⟩ := h.inv.row q v ty es h1
      obtain ⟨q', hq', this⟩ := hg2 j hj
      rw [h2] at hq'
      cases hq'
      simp only [oldBlk] at this
      rw [hB] at this
      exact hBk.ren hok hren this
    · obtain ⟨q', hq', this⟩ := hg2 j hj
      rw [h2] at hq'
      cases hq'
      simp only [oldBlk] at this
      simp only
      generalize hget (b.1 ++ (n.1 ++ List.replicate (O.length - n.1.length) none)) (base + j) = B at this
      cases this
      exact ⟨_, rfl, rfl, rfl, ⟨[], World.ownsRow_nil _ _ _ _, fun j e h => by simp at h⟩, fun _ e h => by simp at h⟩
  · simp only [List.length_append, List.length_replicate] at hm
    obtain ⟨k, rfl⟩ : ∃ k, m = base + k := ⟨m - base, by omega⟩
    rw [hhi, List.getElem?_eq_none (by omega)]
  · simp only
    rcases e3 t with h1 | h1
    · rw [h1]; exact .un _
    · exact (h.tm t).ren hok hren h1
  · simp only [List.length_append]; omega
end
end Go.Proofs.YtgamkmgdbfeigaaM
