/- The operations that look at memory and change it: the machine's memory goes on beside the world. -/
import Derived.Test.YtgamkmgdbfeigaaM3
namespace Go.Proofs.YtgamkmgdbfeigaaM
open Go Go.RowKit

section
variable {P : Program} {imm : Nat → Prop} {w w' : World} {ok ok' : Nat → Prop} {ρ ρ' : Rho} {η η' : Nat → Option Blk}

theorem ownsRow_same {base ty es n : Nat} {v : Value} {xs : List Value} (h : w.ownsRow base ty es v n xs) (hb : ∀ k, v.ownBlock = some k → w'.heap[k]? = w.heap[k]?) : w'.ownsRow base ty es v n xs := by
  refine ⟨h.1, ?_⟩
  rcases h.2 with h | ⟨g, cap, cur, rfl, h1, h2, h3⟩
  · exact .inl h
  · exact .inr ⟨g, cap, cur, rfl, h1, by rw [hb g rfl]; exact h2, h3⟩

theorem RowOk.mono {v : Value} {ty es : Nat} {xs : List V} (h : RowOk w ok ρ v ty es xs) (hb : ∀ k, v.ownBlock = some k → w'.heap[k]? = w.heap[k]?) (hok : ∀ k, ok k → ok' k) (hw : ∀ k, ok k → w'.heap[k]? = w.heap[k]?) (hle : rhoLe ρ ρ') :
    RowOk w' ok' ρ' v ty es xs := by
  obtain ⟨cs, h1, h2⟩ := h
  refine ⟨cs, ownsRow_same h1 hb, fun j e hj => ⟨(h2 j e hj).1, fun t c hc => ?_⟩⟩
  obtain ⟨x, hx, ho, hr⟩ := (h2 j e hj).2 t c hc
  exact ⟨x, hx, ho, hr.mono hok hw hle⟩

theorem BlkOk.mono {v : Value} {ty es : Nat} {B : Blk} (h : BlkOk w ok ρ v ty es B) (hb : ∀ k, v.ownBlock = some k → w'.heap[k]? = w.heap[k]?) (hok : ∀ k, ok k → ok' k) (hw : ∀ k, ok k → w'.heap[k]? = w.heap[k]?) (hle : rhoLe ρ ρ') :
    BlkOk w' ok' ρ' v ty es B := by
  cases B with
  | row ty' es' sc xs => exact ⟨h.1, h.2.1, h.2.2.1.mono hb hok hw (rhoLe.refl _), h.2.2.2⟩
  | box ty' es' x => exact ⟨h.1, h.2.1, h.2.2.1.mono hb hok hw hle, h.2.2.2⟩

theorem RowOk.lt {v : Value} {ty es : Nat} {xs : List V} (h : RowOk w ok ρ v ty es xs) {k : Nat} (hk : v.ownBlock = some k) : k < w.heap.size := by
  obtain ⟨cs, h1, _⟩ := h
  exact (h1.lt k hk).2

theorem BlkOk.lt {v : Value} {ty es : Nat} {B : Blk} (h : BlkOk w ok ρ v ty es B) {k : Nat} (hk : v.ownBlock = some k) : k < w.heap.size := by
  cases B with
  | row ty' es' sc xs => exact h.2.2.1.lt hk
  | box ty' es' x => exact h.2.2.1.lt hk

theorem Inv.lt (hI : Inv imm w ρ η) {k : Nat} (h : aliveB ρ k) : k < w.heap.size := by
  obtain ⟨b, v, ty, es, hb, hk⟩ := h
  obtain ⟨B, _, hB⟩ := hI.row b v ty es hb
  exact hB.lt hk

theorem Inv.step (hI : Inv imm w ρ η) (hE : Ext w ρ w' ρ')
    (hal : ∀ b v ty es, ρ' b = some (some (v, ty, es)) → (ρ b = some (some (v, ty, es)) ∧ η' b = η b ∧ ∀ k, v.ownBlock = some k → w'.heap[k]? = w.heap[k]?) ∨
      (∃ B, η' b = some B ∧ BlkOk w' (okB imm w' ρ') ρ' v ty es B ∧ ∀ k, v.ownBlock = some k → imm k ∧ ∀ b' v' ty' es', b' ≠ b → ρ' b' = some (some (v', ty', es')) → v'.ownBlock ≠ some k))
    (hdead : ∀ b, ρ' b = some none → η' b = none) : Inv imm w' ρ' η' where
  dist b b' v v' ty ty' es es' k h h' hk hk' := by
    by_cases hbb : b = b'
    · exact hbb
    · exfalso
      rcases hal b v ty es h with ⟨h1, _, _⟩ | ⟨B, _, _, h3⟩
      · rcases hal b' v' ty' es' h' with ⟨h1', _, _⟩ | ⟨B', _, _, h3'⟩
        · exact hbb (hI.dist _ _ _ _ _ _ _ _ _ h1 h1' hk hk')
        · exact (h3' k hk').2 b v ty es hbb h hk
      · exact (h3 k hk).2 b' v' ty' es' (Ne.symm hbb) h' hk'
  dead := hdead
  row b v ty es h := by
    rcases hal b v ty es h with ⟨h1, h2, h3⟩ | ⟨B, h1, h2, _⟩
    · obtain ⟨B, hB, hB'⟩ := hI.row b v ty es h1
      exact ⟨B, by rw [h2]; exact hB, hB'.mono h3 hE.okB (fun k hk => hE.heap k hk.2.1 hk.2.2) hE.le⟩
    · exact ⟨B, h1, h2⟩
  own k hk := by
    obtain ⟨b, v, ty, es, hb, hv⟩ := hk
    rcases hal b v ty es hb with ⟨h1, _, _⟩ | ⟨B, _, _, h3⟩
    · exact hI.own k ⟨b, v, ty, es, h1, hv⟩
    · exact (h3 k hv).1
  new k hk := hI.new k (Nat.le_trans hE.size hk)

/-- What lies behind a place: the program reads what the machine reads. -/
theorem load_ok {t : TypeId} {g : Bool} {off sz : Nat} {cs : List V} {v : V} {A : Addr} {f : Nat → Value} (hg : isAggT P t = some g) (hs : szOf P t = some sz) (hp : part g off sz cs = some v)
    (hc : ∀ t c, cs[t]? = some c → w.cell? (A.add t) = some (f t) ∧ (f t).oneCell' = true ∧ Rep w ok ρ c (f t)) :
    ∃ x, (loadVar t (A.add off)).run P w = .ok x w ∧ Rep w ok ρ v x := by
  unfold YtgamkmgdbfeigaaM.part at hp
  have cell : ∀ t, t < cs.length → w.cell? (A.add t) = some (f t) := fun t ht => (hc t _ (List.getElem?_eq_getElem ht)).1
  cases g with
  | true =>
    simp only [cond_true] at hp
    cases hb : Nat.ble (off + sz) cs.length with
    | false => rw [hb] at hp; cases hp
    | true =>
      rw [hb] at hp
      cases hp
      have hle : off + sz ≤ cs.length := Nat.le_of_ble_eq_true hb
      have hl := run_loadCells (P := P) w (A.add off) sz (fun j => f (off + j)) fun j hj => by rw [Addr.add_add]; exact cell _ (by omega)
      refine ⟨.agg ((List.range sz).map fun j => f (off + j)).toArray, by simp only [loadVar, Sem.run_bind, run_isAgg hg, Result.andThen_ok, if_true, (run_sizeOf (w := w) hs).1, hl, Sem.run_pure], ?_⟩
      refine .ag (by simp; omega) (fun t x hx => ?_) fun t c x hc' hx => ?_
      · simp only [List.getElem?_toArray, List.getElem?_map] at hx
        obtain ⟨i, hi, rfl⟩ := mapS hx
        have hi' := List.getElem?_eq_some_iff.1 hi
        obtain ⟨h1, h2⟩ := hi'
        simp at h1 h2
        subst h2
        exact (hc _ _ (List.getElem?_eq_getElem (show off + t < cs.length by omega))).2.1
      · rw [List.getElem?_take] at hc'
        split at hc'
        · rw [List.getElem?_drop] at hc'
          simp only [List.getElem?_toArray, List.getElem?_map] at hx
          obtain ⟨i, hi, rfl⟩ := mapS hx
          obtain ⟨h1, h2⟩ := List.getElem?_eq_some_iff.1 hi
          simp at h1 h2
          subst h2
          exact (hc _ _ hc').2.2
        · cases hc'
  | false =>
    simp only [cond_false] at hp
    obtain ⟨h1, h2, h3⟩ := hc _ _ hp
    exact ⟨f off, by simp only [loadVar, Sem.run_bind, run_isAgg hg, Result.andThen_ok, Bool.false_eq_true, if_false, run_load, h1], h3⟩

theorem ldV_ok {t : TypeId} {g : Bool} {off sz : Nat} {e v : V} {A : Addr} {f : Nat → Value} (hg : isAggT P t = some g) (hs : szOf P t = some sz) (hp : ldV g off sz e = some v)
    (hc : ∀ t c, e.cells[t]? = some c → w.cell? (A.add t) = some (f t) ∧ (f t).oneCell' = true ∧ Rep w ok ρ c (f t)) :
    ∃ x, (loadVar t (A.add off)).run P w = .ok x w ∧ Rep w ok ρ v x := by
  unfold ldV at hp
  split at hp
  · rename_i cs
    generalize hq : (g && (Nat.beq off 0 && Nat.beq sz cs.length)) = q at hp
    cases q with
    | false => exact load_ok hg hs hp hc
    | true =>
      cases hp
      simp only [Bool.and_eq_true] at hq
      obtain ⟨rfl, h1, h2⟩ := hq
      obtain rfl := Nat.eq_of_beq_eq_true h1
      obtain rfl := Nat.eq_of_beq_eq_true h2
      refine load_ok (off := 0) (cs := cs) hg hs ?_ hc
      simp [YtgamkmgdbfeigaaM.part, Nat.ble_eq_true_of_le (Nat.le_refl _)]
  · exact load_ok hg hs hp hc


/-- A row's cell in the world. -/
theorem RowOk.cell {v : Value} {ty es g n cap : Nat} {xs : List V} (h : RowOk w ok ρ v ty es xs) (hv : v = .slice (some ⟨g, 0, none⟩) n cap) :
    ∃ f : Nat → Nat → Value, ∀ (j t : Nat) (e c : V), xs[j]? = some e → e.cells[t]? = some c → w.cell? ⟨g, j * es + t, none⟩ = some (f j t) ∧ (f j t).oneCell' = true ∧ Rep w ok ρ c (f j t) := by
  obtain ⟨cs, h1, h2⟩ := h
  refine ⟨fun j t => cs.getD (j * es + t) undef, fun j t e c hj ht => ?_⟩
  obtain ⟨_, h3⟩ := h2 j e hj
  obtain ⟨x, hx, ho, hr⟩ := h3 t c ht
  have hc := h1.cells (g := g) (by rw [hv]; rfl) _ x hx
  rw [addr_add, Nat.zero_add] at hc
  have : cs.getD (j * es + t) undef = x := by simp [List.getD, hx]
  simp only [this]
  exact ⟨hc, ho, hr⟩

/-- What an operation on memory comes to. -/
structure StepTo (P : Program) (imm : Nat → Prop) (o' : Oper) (a : Act) (w : World) (ρ : Rho) (v : V) (lo hi : Nat) (η' : Nat → Option Blk) (x : Value) (w' : World) (ρ' : Rho) : Prop where
  run : (execOp a.eval o').run P w = .ok (.value x) w' ∨ ((execOp a.eval o').run P w = .ok .skip w' ∧ x = undef)
  rep : Rep w' (okB imm w' ρ') ρ' v x
  ext : Ext w ρ w' ρ'
  inv : Inv imm w' ρ' η'
  new : ∀ b, ρ b = none → ρ' b ≠ none → lo ≤ b ∧ b < hi

theorem upd_nil (η : Nat → Option Blk) (H : Hp) : upd [] η H H = η := by
  funext b
  unfold upd
  rw [if_neg]
  rintro (h | ⟨h1, h2⟩)
  · cases h
  · omega

theorem tid_pt {u : V} {b es i off : Nat} (h : u = .pt b es i off) : u.tid = [b] := by rw [h]; rfl

/-- What lies behind a place. -/
theorem ld_core (hI : Inv imm w ρ η) {t : TypeId} {g : Bool} {sz : Nat} (hg : isAggT P t = some g) (hs : szOf P t = some sz) {X : A} {τ : Env} {H H' : Hp} {v : V} (he : (O.ld g sz X).evP τ H = some (v, H')) {y : Value} (h2 : Rep w (okB imm w ρ) ρ (X.ev τ) y) (hp : ∀ b ∈ (X.ev τ).tid, η b = hget H b) :
    H' = H ∧ ∃ A z, y = .pointer (some A) ∧ (loadVar t A).run P w = .ok z w ∧ Rep w (okB imm w ρ) ρ v z := by
  simp only [O.evP] at he
  split at he
  · rename_i b es' i off hx
    rw [hx] at h2
    have hpb := hp b (by simp [hx, V.tid])
    cases h2 with
    | pt hd h =>
      rename_i A
      split at he
      · rename_i ty es sc xs hB
        cases hes : Nat.beq es es' with
        | false => rw [hes] at he; cases he
        | true =>
          rw [hes] at he
          obtain rfl := Nat.eq_of_beq_eq_true hes
          simp only [cond_true] at he
          obtain ⟨e, hxe, he⟩ := bindS he
          obtain ⟨v', hv', he⟩ := mapS he
          cases he
          cases hq : ρ b with
          | none => exact absurd hq hd
          | some q =>
            cases q with
            | none => have := hI.dead b hq; rw [hpb, hB] at this; cases this
            | some q =>
              obtain ⟨bv, bty, bes⟩ := q
              obtain ⟨B, hBη, hBk⟩ := hI.row b bv bty bes hq
              rw [hpb, hB] at hBη
              cases hBη
              obtain ⟨g', n, cap, hbv, rfl⟩ := h bv bty bes hq
              obtain ⟨_, rfl, hrow, _⟩ := hBk
              obtain ⟨f, hf⟩ := hrow.cell hbv
              have hcell : ∀ t c, e.cells[t]? = some c → w.cell? ((⟨g', i * es, none⟩ : Addr).add t) = some (f i t) ∧ (f i t).oneCell' = true ∧ Rep w (okB imm w ρ) noRho c (f i t) := by
                intro t c hc
                rw [addr_add]
                exact hf i t e c hxe hc
              obtain ⟨y', hy1, hy2⟩ := ldV_ok (A := ⟨g', i * es, none⟩) hg hs hv' hcell
              rw [addr_add] at hy1
              exact ⟨rfl, _, y', rfl, hy1 , (hy2.mono (fun _ h => h) (fun _ _ => rfl) (noRho_le ρ))⟩
      · rename_i ty es v0 hB
        cases hi0 : Nat.beq i 0 with
        | false => rw [hi0] at he; cases he
        | true =>
          rw [hi0] at he
          obtain rfl := Nat.eq_of_beq_eq_true hi0
          simp only [cond_true] at he
          obtain ⟨v', hv', he⟩ := mapS he
          cases he
          cases hq : ρ b with
          | none => exact absurd hq hd
          | some q =>
            cases q with
            | none => have := hI.dead b hq; rw [hpb, hB] at this; cases this
            | some q =>
              obtain ⟨bv, bty, bes⟩ := q
              obtain ⟨B, hBη, hBk⟩ := hI.row b bv bty bes hq
              rw [hpb, hB] at hBη
              cases hBη
              obtain ⟨g', n, cap, hbv, rfl⟩ := h bv bty bes hq
              obtain ⟨_, rfl, hrow, _⟩ := hBk
              obtain ⟨f, hf⟩ := hrow.cell hbv
              have hcell : ∀ t c, v0.cells[t]? = some c → w.cell? ((⟨g', 0, none⟩ : Addr).add t) = some (f 0 t) ∧ (f 0 t).oneCell' = true ∧ Rep w (okB imm w ρ) ρ c (f 0 t) := by
                intro t c hc
                rw [addr_add]
                have := hf 0 t v0 c rfl hc
                simpa using this
              obtain ⟨y', hy1, hy2⟩ := ldV_ok (A := ⟨g', 0, none⟩) hg hs hv' hcell
              rw [addr_add] at hy1
              exact ⟨rfl, _, y', rfl, (by simpa using hy1) , hy2⟩
      · cases he
  · rename_i cs hx
    rw [hx] at h2
    obtain ⟨v', hv', he⟩ := mapS he
    cases he
    cases h2 with
    | ip f ho hc h1 h =>
      rename_i A
      obtain ⟨y', hy1, hy2⟩ := load_ok (w := w) (ok := okB imm w ρ) (ρ := noRho) (A := A) (off := 0) hg hs hv' fun t c hc' => ⟨hc t (List.getElem?_eq_some_iff.1 hc').1, h1 t (List.getElem?_eq_some_iff.1 hc').1, h t c hc'⟩
      rw [show A.add 0 = A from rfl] at hy1
      exact ⟨rfl, _, y', rfl, hy1 , (hy2.mono (fun _ h => h) (fun _ _ => rfl) (noRho_le ρ))⟩
  · cases he

theorem ld_step (hI : Inv imm w ρ η) {o' : Oper} {t : TypeId} {x : Operand} (hop : o'.op = .load t x) {o : O} (ht : trO P o' = some o) {τ : Env} {H H' : Hp} {v : V} (he : o.evP τ H = some (v, H')) {a : Act}
    (hr : ∀ n ∈ o.tmps, Rep w (okB imm w ρ) ρ (look τ n) (a.tmps.getD n undef)) (hp : ∀ b ∈ o.touch τ H, η b = hget H b) :
    H' = H ∧ ∃ x, StepTo P imm o' a w ρ v H.length H'.length (upd (o.writes τ H) η H H') x w ρ := by
  unfold trO at ht
  simp only [hop] at ht
  obtain ⟨X, hX, ht⟩ := bindS ht
  obtain ⟨g, hg, ht⟩ := bindS ht
  obtain ⟨sz, hs, rfl⟩ := mapS ht
  have h2 := rep_trA hX (τ := τ) (a := a) hr
  have fin : H' = H → ∀ A y, a.eval x = .pointer (some A) → (loadVar t A).run P w = .ok y w → Rep w (okB imm w ρ) ρ v y → H' = H ∧ ∃ x, StepTo P imm o' a w ρ v H.length H'.length (upd ((O.ld g sz X).writes τ H) η H H') x w ρ := by
    intro hh A y hA hy hrep
    subst hh
    refine ⟨rfl, y, ⟨.inl ?_, hrep, Ext.refl _ _, ?_, fun b h1 h2 => absurd h1 h2⟩⟩
    · simp [execOp, hop, hA, Instr.loadAt, Instr.sureAddr, hy]
    · show Inv imm w ρ (upd [] η H' H')
      rw [upd_nil]; exact hI
  obtain ⟨hh, A, y, hA, hy, hrep⟩ := ld_core hI hg hs he h2 hp
  exact fin hh A y hA hy hrep

/-- The rows' places behind an operation that makes a row nb and gives up the rows ws. -/
def rhoMk (ρ : Rho) (ws : List Nat) (nb : Nat) (q : Value × Nat × Nat) : Rho := fun b => if b = nb then some (some q) else if b ∈ ws ∧ ρ b ≠ none then some none else ρ b

theorem rhoMk_le {ws : List Nat} {nb : Nat} {q : Value × Nat × Nat} (hnb : ρ nb = none) : rhoLe ρ (rhoMk ρ ws nb q) := by
  intro b p hp
  unfold rhoMk
  have : b ≠ nb := by rintro rfl; rw [hnb] at hp; cases hp
  rw [if_neg this]
  split
  · exact .inr rfl
  · exact .inl hp

theorem rhoMk_alive {ws : List Nat} {nb : Nat} {q p : Value × Nat × Nat} {b : Nat} (h : rhoMk ρ ws nb q b = some (some p)) : (b = nb ∧ p = q) ∨ (b ≠ nb ∧ b ∉ ws ∧ ρ b = some (some p)) := by
  unfold rhoMk at h
  split at h
  · cases h; exact .inl ⟨by assumption, rfl⟩
  · split at h
    · cases h
    · rename_i h1 h2
      refine .inr ⟨h1, fun hw => h2 ⟨hw, by rw [h]; simp⟩, h⟩

theorem Inv.make (hI : Inv imm w ρ η) {ws : List Nat} {nb : Nat} (hnb : ρ nb = none) {v : Value} {ty es : Nat} {B : Blk} (ho : w'.os = w.os) (ht : w'.tape = w.tape) (hu : w'.output = w.output) (hsz : w.heap.size ≤ w'.heap.size)
    (hh : ∀ k, k < w.heap.size → (∀ b v ty es, b ∈ ws → ρ b = some (some (v, ty, es)) → v.ownBlock ≠ some k) → w'.heap[k]? = w.heap[k]?)
    (hn : ∀ k, v.ownBlock = some k → w.heap.size ≤ k ∨ ∃ b v ty es, b ∈ ws ∧ ρ b = some (some (v, ty, es)) ∧ v.ownBlock = some k)
    (hB : Ext w ρ w' (rhoMk ρ ws nb (v, ty, es)) → BlkOk w' (okB imm w' (rhoMk ρ ws nb (v, ty, es))) (rhoMk ρ ws nb (v, ty, es)) v ty es B)
    (h1 : η' nb = some B) (h2 : ∀ b ∈ ws, b ≠ nb → η' b = none) (h3 : ∀ b, b ∉ ws → b ≠ nb → η' b = η b) :
    Ext w ρ w' (rhoMk ρ ws nb (v, ty, es)) ∧ Inv imm w' (rhoMk ρ ws nb (v, ty, es)) η' := by
  have hal : ∀ k, k < w.heap.size → aliveB (rhoMk ρ ws nb (v, ty, es)) k → aliveB ρ k := by
    rintro k hk ⟨b, v', ty', es', hb, hv⟩
    rcases rhoMk_alive hb with ⟨rfl, hq⟩ | ⟨_, _, hb'⟩
    · cases hq
      rcases hn k hv with h | ⟨b', v'', ty'', es'', _, hb', hv'⟩
      · omega
      · exact ⟨b', v'', ty'', es'', hb', hv'⟩
    · exact ⟨b, v', ty', es', hb', hv⟩
  have hE : Ext w ρ w' (rhoMk ρ ws nb (v, ty, es)) :=
    ⟨ho, ht, hu, hsz, fun k hk ha => hh k hk fun b v ty es _ hb hv => ha ⟨b, v, ty, es, hb, hv⟩, fun k hk ha hb => ha (hal k hk hb), rhoMk_le hnb⟩
  refine ⟨hE, hI.step hE (fun b v' ty' es' hb => ?_) fun b hb => ?_⟩
  · rcases rhoMk_alive hb with ⟨rfl, hq⟩ | ⟨hb1, hb2, hb3⟩
    · cases hq
      refine .inr ⟨B, h1, hB hE, fun k hk => ⟨?_, fun b' v'' ty'' es'' hne hb' hv' => ?_⟩⟩
      · rcases hn k hk with h | ⟨b', v'', ty'', es'', _, hb', hv'⟩
        · exact hI.new k h
        · exact hI.own k ⟨b', v'', ty'', es'', hb', hv'⟩
      · rcases rhoMk_alive hb' with ⟨h, _⟩ | ⟨_, hw, hb''⟩
        · exact hne h
        · rcases hn k hk with h | ⟨b1, v1, ty1, es1, hw1, hr1, hv1⟩
          · have := hI.lt ⟨b', v'', ty'', es'', hb'', hv'⟩; omega
          · have := hI.dist _ _ _ _ _ _ _ _ _ hb'' hr1 hv' hv1
            subst this
            exact hw hw1
    · refine .inl ⟨hb3, h3 b hb2 hb1, fun k hk => hh k (hI.lt ⟨b, v', ty', es', hb3, hk⟩) fun b' v'' ty'' es'' hw hb' hv' => ?_⟩
      have := hI.dist _ _ _ _ _ _ _ _ _ hb3 hb' hk hv'
      subst this
      exact hb2 hw
  · unfold rhoMk at hb
    split at hb
    · cases hb
    · rename_i hne
      split at hb
      · rename_i hw; exact h2 b hw.1 hne
      · rename_i hw
        rw [h3 b (fun h => hw ⟨h, by rw [hb]; simp⟩) hne]
        exact hI.dead b hb

theorem killH_length (H : Hp) (ws : List Nat) : (killH H ws).length = H.length := by
  unfold killH
  induction ws generalizing H with
  | nil => rfl
  | cons b ws ih => simp [ih]

theorem hget_lt {H : Hp} {b : Nat} {B : Blk} (h : hget H b = some B) : b < H.length := by
  unfold hget at h
  cases h' : H[b]? with
  | none => rw [h'] at h; cases h
  | some x => exact (List.getElem?_eq_some_iff.1 h').1

theorem hget_set_none (H : Hp) (b k : Nat) : hget (H.set b none) k = if k = b then none else hget H k := by
  unfold hget
  rw [List.getElem?_set]
  by_cases h : b = k
  · subst h
    simp only [if_true]
    split <;> rfl
  · rw [if_neg h, if_neg (Ne.symm h)]

theorem hget_kill (ws : List Nat) : ∀ (H : Hp) (b : Nat), hget (killH H ws) b = if b ∈ ws then none else hget H b := by
  unfold killH
  induction ws with
  | nil => intro H b; simp
  | cons c ws ih =>
    intro H b
    rw [List.foldl_cons, ih, hget_set_none]
    by_cases h1 : b ∈ ws
    · simp [h1]
    · by_cases h2 : b = c
      · simp [h2]
      · simp [h1, h2]

theorem hget_append (H : Hp) (B : Option Blk) (b : Nat) : hget (H ++ [B]) b = if b = H.length then B else hget H b := by
  unfold hget
  rw [List.getElem?_append]
  split
  · rw [if_neg (by omega)]
  · split
    · rename_i h; subst h; simp
    · rw [List.getElem?_eq_none (by simp; omega), List.getElem?_eq_none (by omega)]

/-- The memory behind it, at each place. -/
theorem upd_make {H : Hp} {ws : List Nat} {B : Blk} : (upd ws η H (killH H ws ++ [some B])) H.length = some B ∧ (∀ b ∈ ws, b ≠ H.length → (upd ws η H (killH H ws ++ [some B])) b = none) ∧
    ∀ b, b ∉ ws → b ≠ H.length → (upd ws η H (killH H ws ++ [some B])) b = η b := by
  have hl : (killH H ws ++ [some B]).length = H.length + 1 := by simp [killH_length]
  refine ⟨?_, fun b hb hne => ?_, fun b hb hne => ?_⟩
  · unfold upd
    rw [if_pos (.inr ⟨Nat.le_refl _, by omega⟩), hget_append, killH_length, if_pos rfl]
  · unfold upd
    rw [if_pos (.inl hb), hget_append, killH_length, if_neg hne, hget_kill, if_pos hb]
  · unfold upd
    rw [if_neg]
    rintro (h | ⟨h1, h2⟩)
    · exact hb h
    · omega

theorem Rep.ids_ne {v : V} {x : Value} (h : Rep w ok ρ v x) : ∀ b ∈ v.ids, ρ b ≠ none := by
  intro b hb
  cases h with
  | rf hd hc ha h => simp [V.ids, idL] at hb; subst hb; exact hd
  | pt hd h => simp [V.ids, idL] at hb; subst hb; exact hd
  | ag hl h1 h =>
    rename_i cs vs
    simp only [V.ids, List.mem_flatMap] at hb
    obtain ⟨c, hc, hb⟩ := hb
    obtain ⟨t, ht⟩ := List.mem_iff_getElem?.1 hc
    have hlt := (List.getElem?_eq_some_iff.1 ht).1
    obtain ⟨x', hx'⟩ : ∃ x', vs[t]? = some x' := ⟨vs[t]'(by omega), Array.getElem?_eq_getElem (by omega)⟩
    have h2 := h t c x' ht hx'
    cases h2 <;> simp [idL] at hb <;> (subst hb; assumption)
  | fn hl h =>
    rename_i f cs vs
    simp only [V.ids, List.mem_flatMap] at hb
    obtain ⟨c, hc, hb⟩ := hb
    obtain ⟨t, ht⟩ := List.mem_iff_getElem?.1 hc
    have hlt := (List.getElem?_eq_some_iff.1 ht).1
    obtain ⟨x', hx'⟩ : ∃ x', vs[t]? = some x' := ⟨vs[t]'(by omega), Array.getElem?_eq_getElem (by omega)⟩
    have h2 := h t c x' ht hx'
    cases h2 <;> simp [idL] at hb <;> (subst hb; assumption)
  | _ => simp [V.ids, idL] at hb


theorem run_box {e : TypeId} (x : Value) : (Instr.box e x).run P w = .ok (.pointer (some ⟨w.heap.size, 0, none⟩)) (w.alloc (.cells x.cells e)) := by
  simp [Instr.box, newVar, newRow]

theorem maxLen_one : 1 ≤ maxLen := by simp [maxLen]

/-- A row of one element, new: a variable. -/
theorem box_core (hI : Inv imm w ρ η) {e : TypeId} {sz : Nat} {u : V} {x : Value} (hgood : u.good sz = true) (hx : Rep w (okB imm w ρ) ρ u x) {H : Hp} (hn : ρ H.length = none) :
    ∃ ρ', Rep (w.alloc (.cells x.cells e)) (okB imm (w.alloc (.cells x.cells e)) ρ') ρ' (.pt H.length sz 0 0) (.pointer (some ⟨w.heap.size, 0, none⟩)) ∧ Ext w ρ (w.alloc (.cells x.cells e)) ρ' ∧
      Inv imm (w.alloc (.cells x.cells e)) ρ' (upd [] η H (H ++ [some (.box e sz u)])) ∧ ∀ b, ρ b = none → ρ' b ≠ none → H.length ≤ b ∧ b < H.length + 1 := by
  obtain ⟨g1, g2, g3, g4⟩ := good_ok hgood hx
  have hmk := upd_make (η := η) (H := H) (ws := []) (B := .box e sz u)
  simp only [killH, List.foldl_nil] at hmk
  obtain ⟨m1, m2, m3⟩ := hmk
  have := hI.make (w' := w.alloc (.cells x.cells e)) (ws := []) (nb := H.length) hn (v := .slice (some ⟨w.heap.size, 0, none⟩) 1 1) (ty := e) (es := sz) (B := .box e sz u) (η' := upd [] η H (H ++ [some (.box e sz u)])) rfl rfl rfl (by simp)
    (fun k hk _ => Below.heap_alloc w _ k hk) (fun k hk => by simp [Value.ownBlock] at hk; exact .inl (by omega)) (fun hE => ?_) m1 m2 m3
  · refine ⟨_, ?_, this.1, this.2, fun b hb hb' => ?_⟩
    · refine .pt (by simp [rhoMk]) fun v ty es' hv => ?_
      simp [rhoMk] at hv
      obtain ⟨rfl, _, _⟩ := hv
      exact ⟨_, _, _, rfl, by simp⟩
    · unfold rhoMk at hb'
      split at hb'
      · omega
      · simp [hb] at hb'
  · refine ⟨rfl, rfl, ⟨x.cells.toList, World.ownsRow_lit w x.cells 1 (Nat.zero_le _) maxLen_one (by simpa using g2), fun j e' hj => ?_⟩, _, rfl⟩
    cases j with
    | succ j => simp at hj
    | zero =>
      simp at hj
      subst hj
      refine ⟨g1, fun t c hc => ?_⟩
      have hlt := (List.getElem?_eq_some_iff.1 hc).1
      obtain ⟨y, hy⟩ : ∃ y, x.cells.toList[t]? = some y := ⟨x.cells.toList[t]'(by simp; omega), List.getElem?_eq_getElem (by simp; omega)⟩
      exact ⟨y, by simpa using hy, g4 t y hy, (g3.2 t c y hc hy).ext hE⟩

theorem box_step (hI : Inv imm w ρ η) {o' : Oper} (hop : (∃ e, o'.op = .alloc e) ∨ ∃ e x, o'.op = .box e x) {o : O} (ht : trO P o' = some o) {τ : Env} {H H' : Hp} {v : V} (he : o.evP τ H = some (v, H')) {a : Act}
    (hr : ∀ n ∈ o.tmps, Rep w (okB imm w ρ) ρ (look τ n) (a.tmps.getD n undef)) (hn : ∀ b, H.length ≤ b → b < H'.length → ρ b = none) :
    ∃ x w' ρ', StepTo P imm o' a w ρ v H.length H'.length (upd (o.writes τ H) η H H') x w' ρ' := by
  obtain ⟨e, sz, X, y, rfl, hy, hrun⟩ : ∃ e sz X y, o = .box e sz X ∧ Rep w (okB imm w ρ) ρ (X.ev τ) y ∧ (execOp a.eval o').run P w = .ok (.value (.pointer (some ⟨w.heap.size, 0, none⟩))) (w.alloc (.cells y.cells e)) := by
    unfold trO at ht
    rcases hop with ⟨e, hop⟩ | ⟨e, x, hop⟩
    · simp only [hop] at ht
      obtain ⟨z, hz, ht⟩ := bindS ht
      obtain ⟨sz, hs, rfl⟩ := mapS ht
      unfold zeroOf at hz
      obtain ⟨i, hi, hz⟩ := bindS hz
      obtain ⟨zv, hzv, hz⟩ := bindS hz
      refine ⟨e, sz, .c z, zv, rfl, rep_trV hz, ?_⟩
      simp [execOp, hop, Instr.alloc, zeroValue, typeInfo, hi, hzv, newVar, newRow]
    · simp only [hop] at ht
      obtain ⟨X, hX, ht⟩ := bindS ht
      obtain ⟨sz, hs, rfl⟩ := mapS ht
      refine ⟨e, sz, X, a.eval x, rfl, rep_trA hX hr, ?_⟩
      simp [execOp, hop, run_box]
  simp only [O.evP] at he
  cases hgood : (X.ev τ).good sz with
  | false => rw [hgood] at he; cases he
  | true =>
    rw [hgood] at he
    cases he
    obtain ⟨ρ', h1, h2, h3, h4⟩ := box_core hI (e := e) hgood hy (H := H) (hn _ (Nat.le_refl _) (by simp))
    exact ⟨_, _, ρ', .inl hrun, h1, h2, h3, fun b hb hb' => by have := h4 b hb hb'; simpa using this⟩

end

end Go.Proofs.YtgamkmgdbfeigaaM
