/- Values with the machine's memory read out of them; lists that are written out; rows that are given up. -/
import Derived.Test.YtgamkmgdbfeigaaM4
namespace Go.Proofs.YtgamkmgdbfeigaaM
open Go Go.RowKit

section
variable {P : Program} {imm : Nat → Prop} {w w' : World} {ok ok' : Nat → Prop} {ρ ρ' : Rho} {η η' : Nat → Option Blk}

def psB (ρ : Rho) (ids : List Nat) (k : Nat) : Prop := ∃ b v ty es, b ∈ ids ∧ ρ b = some (some (v, ty, es)) ∧ v.ownBlock = some k

/-- Blocks that may be read once the rows ids are given up. -/
def okF (imm : Nat → Prop) (w : World) (ρ : Rho) (ids : List Nat) (k : Nat) : Prop := okB imm w ρ k ∨ psB ρ ids k

theorem Inv.alive (hI : Inv imm w ρ η) {b : Nat} {B : Blk} (hd : ρ b ≠ none) (hB : η b = some B) : ∃ v ty es, ρ b = some (some (v, ty, es)) ∧ BlkOk w (okB imm w ρ) ρ v ty es B := by
  cases hq : ρ b with
  | none => exact absurd hq hd
  | some q =>
    cases q with
    | none => rw [hI.dead b hq] at hB; cases hB
    | some q =>
      obtain ⟨v, ty, es⟩ := q
      obtain ⟨B', h1, h2⟩ := hI.row b v ty es hq
      rw [hB] at h1
      cases h1
      exact ⟨v, ty, es, rfl, h2⟩

theorem Rep.isSc {w w' : World} {ok ok' : Nat → Prop} {ρ ρ' : Rho} {c : V} {x : Value} (h : Rep w ok ρ c x) (hc : c.isSc = true) : Rep w' ok' ρ' c x := by
  cases h <;> first | (cases hc; done) | exact .b _ | exact .i _ _ | (rename_i h1; exact .p _ h1)

theorem frL_ok (hI : Inv imm w ρ η) {ids : List Nat} {H : Hp} {c : V} {x : Value} (h : Rep w (okB imm w ρ) ρ c x) (hp : ∀ b ∈ idL c, η b = hget H b ∧ b ∈ ids) : Rep w (okF imm w ρ ids) noRho (frL H c) x := by
  have up : ∀ {ρ1 : Rho} {v : V} {y : Value}, Rep w (okB imm w ρ) ρ1 v y → Rep w (okF imm w ρ ids) ρ1 v y := fun h => h.mono (fun k hk => .inl hk) (fun _ _ => rfl) (rhoLe.refl _)
  cases h with
  | un x => exact .un x
  | b x => exact .b x
  | i k n => exact .i k n
  | p x h1 => exact .p x h1
  | ag => exact .un _
  | tu => exact .un _
  | fn => exact .un _
  | ip f ho hc h1 h => exact .ip f (fun h0 => .inl (ho h0)) hc h1 fun t c hc' => up (h t c hc')
  | pt hd h =>
    rename_i b es i off A
    obtain ⟨hp1, hp2⟩ := hp b (by simp [idL])
    simp only [frL]
    split
    · rename_i ty es' v hB
      cases hcond : (Nat.beq es es' && (Nat.beq i 0 && v.scal)) with
      | false => exact .un _
      | true =>
        simp only [cond_true]
        rw [Bool.and_eq_true, Bool.and_eq_true] at hcond
        obtain ⟨hes, hi, hsc⟩ := hcond
        obtain rfl := Nat.eq_of_beq_eq_true hes
        obtain rfl := Nat.eq_of_beq_eq_true hi
        obtain ⟨v0, ty0, es0, hal, hBk⟩ := hI.alive hd (by rw [hp1]; exact hB)
        obtain ⟨rfl, rfl, hrow, g0, hg0⟩ := hBk
        obtain ⟨g, n, cap, hv, hA⟩ := h v0 ty es hal
        obtain ⟨f, hf⟩ := hrow.cell hv
        unfold V.scal at hsc
        rw [List.all_eq_true] at hsc
        have hcell : ∀ t c, (v.cells.drop off)[t]? = some c → v.cells[off + t]? = some c := fun t c hc => by rw [List.getElem?_drop] at hc; exact hc
        have hex : ∀ t, t < (v.cells.drop off).length → ∃ c, v.cells[off + t]? = some c := fun t ht => ⟨_, hcell t _ (List.getElem?_eq_getElem ht)⟩
        refine .ip (fun t => f 0 (off + t)) (fun _ => .inr ⟨b, v0, ty, es, hp2, hal, by rw [hv, hA]; rfl⟩) (fun t ht => ?_) (fun t ht => ?_) fun t c hc => ?_
        · obtain ⟨c, hc⟩ := hex t ht
          have := (hf 0 (off + t) v c rfl hc).1
          rw [hA, addr_add]
          rw [show 0 * es + off + t = 0 * es + (off + t) by omega]
          exact this
        · obtain ⟨c, hc⟩ := hex t ht
          exact (hf 0 (off + t) v c rfl hc).2.1
        · have h2 := hcell t c hc
          exact (hf 0 (off + t) v c rfl h2).2.2.isSc (hsc c (List.mem_of_getElem? h2))
    · exact .un _
  | nl ty es => exact .sl (fun _ _ => undef) rfl (Nat.le_refl _) (fun j e h => by simp at h) (fun h => absurd h (Nat.lt_irrefl 0)) (fun j t h => absurd h (Nat.not_lt_zero j)) fun j t e c h => by simp at h
  | sl g hn hc he ha h1 h =>
    exact .sl g hn hc he (fun h0 => by obtain ⟨A, e1, e2, e3⟩ := ha h0; exact ⟨A, e1, .inl e2, e3⟩) h1 fun j t e c hj hc => up (h j t e c hj hc)
  | rf hd hc ha h =>
    rename_i b es off ln a c
    obtain ⟨hp1, hp2⟩ := hp b (by simp [idL])
    simp only [frL]
    split
    · rename_i ty es' sc xs hB
      cases hb : Nat.beq es es' with
      | false => exact .un _
      | true =>
        obtain rfl := Nat.eq_of_beq_eq_true hb
        simp only [cond_true]
        obtain ⟨v, ty', es', hal, hBk⟩ := hI.alive hd (by rw [hp1]; exact hB)
        obtain ⟨rfl, rfl, hrow, _⟩ := hBk
        obtain ⟨_, hRef⟩ := h v ty es hal
        obtain ⟨cs, hown, hcs⟩ := hrow
        have hrow' : RowOk w (okB imm w ρ) noRho v ty es xs := ⟨cs, hown, hcs⟩
        have empty : ln = 0 → Rep w (okF imm w ρ ids) noRho (.sl es ((xs.drop off).take ln)) (.slice a ln c) := by
          rintro rfl
          exact .sl (fun _ _ => undef) (by simp) hc (fun j e h => by simp at h) (fun h => absurd h (Nat.lt_irrefl 0)) (fun j t h => absurd h (Nat.not_lt_zero j)) fun j t e c h => by simp at h
        rcases hRef with ⟨g, n, cap, hv, r1, r2, r3⟩ | ⟨_, _, h0, _⟩ | ⟨h0, _⟩
        · cases r3
          have hn : n = xs.length := by
            rcases hown.2 with ⟨h1, _⟩ | ⟨g', cap', cur, h1, _⟩
            · rw [h1] at hv; cases hv
            · rw [h1] at hv; cases hv; rfl
          subst hn
          obtain ⟨f, hf⟩ := hrow'.cell hv
          have sel : ∀ (q : Nat) (e : V), ((xs.drop off).take ln)[q]? = some e → xs[off + q]? = some e ∧ q < ln := by
            intro q e hq
            rw [List.getElem?_take] at hq
            split at hq
            · rw [List.getElem?_drop] at hq; exact ⟨hq, by assumption⟩
            · cases hq
          have get : ∀ q t, q < ln → t < es → ∃ e c, xs[off + q]? = some e ∧ e.cells[t]? = some c := by
            intro q t hq ht
            refine ⟨xs[off + q]'(by omega), _, List.getElem?_eq_getElem (by omega), List.getElem?_eq_getElem ?_⟩
            rw [(hcs (off + q) _ (List.getElem?_eq_getElem (by omega))).1]
            exact ht
          refine .sl (fun q t => f (off + q) t) (by simp; omega) hc (fun q e hq => (hcs _ _ (sel q e hq).1).1) (fun h0 => ⟨_, rfl, .inr ⟨b, v, ty, es, hp2, hal, by rw [hv]; rfl⟩, fun q t hq ht => ?_⟩)
            (fun q t hq ht => ?_) fun q t e c hq hc' => up (hf _ _ _ _ (sel q e hq).1 hc').2.2
          · obtain ⟨e, c, h1, h2⟩ := get q t hq ht
            rw [addr_add, show off * es + (q * es + t) = (off + q) * es + t by rw [Nat.add_mul, Nat.add_assoc]]
            exact (hf _ _ _ _ h1 h2).1
          · obtain ⟨e, c, h1, h2⟩ := get q t hq ht
            exact (hf _ _ _ _ h1 h2).2.1
        · exact empty h0
        · exact empty h0
    · exact .un _

theorem frz_ok (hI : Inv imm w ρ η) {ids : List Nat} {H : Hp} {v : V} {x : Value} (h : Rep w (okB imm w ρ) ρ v x) (hp : ∀ b ∈ v.ids, η b = hget H b ∧ b ∈ ids) : Rep w (okF imm w ρ ids) noRho (frz H v) x := by
  cases h with
  | ag hl h1 h =>
    rename_i cs vs
    refine .ag (by simpa using hl) h1 fun t c y hc hy => ?_
    rw [List.getElem?_map] at hc
    obtain ⟨c', hc', rfl⟩ := mapS hc
    exact frL_ok hI (h t c' y hc' hy) fun b hb => hp b (by simp only [V.ids, List.mem_flatMap]; exact ⟨c', List.mem_of_getElem? hc', hb⟩)
  | fn hl h =>
    rename_i f cs vs
    refine .fn (by simpa using hl) fun t c y hc hy => ?_
    rw [List.getElem?_map] at hc
    obtain ⟨c', hc', rfl⟩ := mapS hc
    exact frL_ok hI (h t c' y hc' hy) fun b hb => hp b (by simp only [V.ids, List.mem_flatMap]; exact ⟨c', List.mem_of_getElem? hc', hb⟩)
  | un x => exact frL_ok hI (.un x) hp
  | b x => exact frL_ok hI (.b x) hp
  | i k n => exact frL_ok hI (.i k n) hp
  | p x h1 => exact frL_ok hI (.p x h1) hp
  | tu hl h => exact frL_ok hI (.tu hl h) hp
  | sl g hn hc he ha h1 h => exact frL_ok hI (.sl g hn hc he ha h1 h) hp
  | nl ty es => exact frL_ok hI (.nl ty es) hp
  | rf hd hc ha h => exact frL_ok hI (.rf hd hc ha h) hp
  | pt hd h => exact frL_ok hI (.pt hd h) hp
  | ip f ho hc h1 h => exact frL_ok hI (.ip f ho hc h1 h) hp

/-- Rows that are given up. -/
def rhoKill (ρ : Rho) (ws : List Nat) : Rho := fun b => if b ∈ ws ∧ ρ b ≠ none then some none else ρ b

theorem rhoKill_alive {ws : List Nat} {p : Value × Nat × Nat} {b : Nat} (h : rhoKill ρ ws b = some (some p)) : b ∉ ws ∧ ρ b = some (some p) := by
  unfold rhoKill at h
  split at h
  · cases h
  · rename_i h2; exact ⟨fun hw => h2 ⟨hw, by rw [h]; simp⟩, h⟩

theorem rhoKill_le (ρ : Rho) (ws : List Nat) : rhoLe ρ (rhoKill ρ ws) := by
  intro b p hp
  unfold rhoKill
  split
  · exact .inr rfl
  · exact .inl hp

theorem rhoKill_none {ws : List Nat} {b : Nat} (h : ρ b = none) : rhoKill ρ ws b = none := by
  unfold rhoKill; rw [if_neg (fun h' => h'.2 h)]; exact h

theorem Inv.kill (hI : Inv imm w ρ η) {ws : List Nat} (h2 : ∀ b ∈ ws, η' b = none) (h3 : ∀ b, b ∉ ws → η' b = η b) : Ext w ρ w (rhoKill ρ ws) ∧ Inv imm w (rhoKill ρ ws) η' := by
  have hE : Ext w ρ w (rhoKill ρ ws) := ⟨rfl, rfl, rfl, Nat.le_refl _, fun _ _ _ => rfl, fun k _ ha hb => by
    obtain ⟨b, v, ty, es, hb, hv⟩ := hb
    exact ha ⟨b, v, ty, es, (rhoKill_alive hb).2, hv⟩, rhoKill_le ρ ws⟩
  refine ⟨hE, hI.step hE (fun b v ty es hb => ?_) fun b hb => ?_⟩
  · obtain ⟨h4, h5⟩ := rhoKill_alive hb
    exact .inl ⟨h5, h3 b h4, fun _ _ => rfl⟩
  · unfold rhoKill at hb
    split at hb
    · rename_i hw; exact h2 b hw.1
    · by_cases hw : b ∈ ws
      · exact h2 b hw
      · rw [h3 b hw]; exact hI.dead b hb

/-- What may be read once rows are given up may be read then. -/
theorem okF_kill (hI : Inv imm w ρ η) {ws : List Nat} (k : Nat) (hk : okF imm w ρ ws k) : okB imm w (rhoKill ρ ws) k := by
  rcases hk with hk | ⟨b, v, ty, es, hb, h1, h2⟩
  · refine ⟨hk.1, hk.2.1, fun h => ?_⟩
    obtain ⟨b, v, ty, es, hb, hv⟩ := h
    exact hk.2.2 ⟨b, v, ty, es, (rhoKill_alive hb).2, hv⟩
  · refine ⟨hI.own k ⟨b, v, ty, es, h1, h2⟩, hI.lt ⟨b, v, ty, es, h1, h2⟩, fun h => ?_⟩
    obtain ⟨b', v', ty', es', hb', hv'⟩ := h
    obtain ⟨h3, h4⟩ := rhoKill_alive hb'
    have := hI.dist _ _ _ _ _ _ _ _ _ h1 h4 h2 hv'
    subst this
    exact h3 hb

theorem okF_nil {k : Nat} (hk : okF imm w ρ [] k) : okB imm w ρ k := by
  rcases hk with hk | ⟨b, v, ty, es, hb, _⟩
  · exact hk
  · cases hb


theorem bindFst {α : Type} {b : Bool} {x y : α} (h : (bif b then some x else none) = some y) : b = true ∧ x = y := by
  cases b with
  | false => cases h
  | true => cases h; exact ⟨rfl, rfl⟩

theorem flat_get {α : Type} (f : α → List Value) (es : Nat) : ∀ (l : List α) (j t : Nat) (x : α), (∀ y ∈ l, (f y).length = es) → l[j]? = some x → t < es → (l.flatMap f)[j * es + t]? = (f x)[t]?
  | [], j, t, x, _, h, _ => by simp at h
  | y :: l, j, t, x, hl, h, ht => by
    have hy := hl y (by simp)
    rw [List.flatMap_cons]
    cases j with
    | zero =>
      simp at h
      subst h
      rw [List.getElem?_append_left (by omega)]
      simp
    | succ j =>
      rw [List.getElem?_append_right (by rw [hy, Nat.succ_mul]; omega)]
      have := flat_get f es l j t x (fun z hz => hl z (by simp [hz])) (by simpa using h) ht
      rw [← this, hy]
      congr 1
      rw [Nat.succ_mul]
      omega

theorem flat_length {α : Type} (f : α → List Value) (es : Nat) : ∀ (l : List α), (∀ y ∈ l, (f y).length = es) → (l.flatMap f).length = l.length * es
  | [], _ => by simp
  | y :: l, hl => by
    rw [List.flatMap_cons, List.length_append, hl y (by simp), flat_length f es l fun z hz => hl z (by simp [hz]), List.length_cons, Nat.succ_mul]
    omega

theorem fill_all {e : TypeId} {sz : Nat} {a : Act} : ∀ {parts : List (Nat × Operand)} {k : Nat} {As : List A} (vs : Array Value), slParts P e k parts = some As → (∀ p ∈ parts, (a.eval p.2).cells.size = sz) → vs.size = (k + parts.length) * sz →
    ∃ vs', Instr.fill (fun i => some (i * sz, sz)) vs (parts.map fun (i, x) => (i, a.eval x)) = some vs' ∧ vs'.toList = vs.toList.take (k * sz) ++ parts.flatMap fun p => (a.eval p.2).cells.toList
  | [], k, As, vs, _, _, hs => ⟨vs, rfl, by simp at hs; rw [← hs, List.flatMap_nil, List.append_nil, List.take_of_length_le (by simp)]⟩
  | (i, x) :: parts, k, As, vs, h, hl, hs => by
    unfold slParts at h
    cases hb : Nat.beq i k with
    | false => rw [hb] at h; cases h
    | true =>
      rw [hb] at h
      obtain rfl := Nat.eq_of_beq_eq_true hb
      obtain ⟨A, hA, h⟩ := bindS h
      obtain ⟨l, hl', rfl⟩ := mapS h
      have hx := hl (i, x) (by simp)
      simp only at hx
      have hb1 : i * sz + sz ≤ vs.size := by
        rw [hs, List.length_cons, show i + (parts.length + 1) = (i + 1) + parts.length by omega, Nat.add_mul, Nat.succ_mul]
        omega
      have hf := foldl_set (a.eval x).cells.toList (i * sz) 0 vs (by simp; omega)
      simp only [Nat.add_zero, Array.toArray_toList] at hf
      have hsz : (Array.foldl (fun cs x => cs.setIfInBounds (i * sz + x.2) x.1) vs (a.eval x).cells.zipIdx).size = vs.size := by
        rw [← Array.length_toList, hf]
        simp
        omega
      obtain ⟨vs', g1, g2⟩ := fill_all (k := i + 1) (Array.foldl (fun cs x => cs.setIfInBounds (i * sz + x.2) x.1) vs (a.eval x).cells.zipIdx) hl' (fun p hp => hl p (by simp [hp])) (by rw [hsz, hs, List.length_cons]; congr 1; omega)
      refine ⟨vs', ?_, ?_⟩
      · simp only [List.map_cons, Instr.fill]
        rw [if_neg (by simp; omega)]
        exact g1
      · rw [g2, hf, List.flatMap_cons]
        rw [show (i + 1) * sz = (vs.toList.take (i * sz)).length + (a.eval x).cells.toList.length by rw [List.length_take, Nat.min_eq_left (by simp; omega), Nat.succ_mul]; simp; omega]
        rw [List.take_append, List.take_of_length_le (by omega), Nat.add_sub_cancel_left, List.take_append, List.take_of_length_le (Nat.le_refl _), Nat.sub_self, List.take_zero, List.append_nil, List.append_assoc]

theorem run_buildSlice {t e : TypeId} (hu : P.underlying t = some (.slice e)) {sz : Nat} (hs : szOf P e = some sz) (hz : (zeroOf P e).isSome = true) {n : Nat} (hn : n * sz ≤ 16777216) {parts : Array (Nat × Operand)} {a : Act} {As : List A}
    (hp : slParts P e 0 parts.toList = some As) (hl : parts.size = n) (hc : ∀ p ∈ parts.toList, (a.eval p.2).cells.size = sz) :
    (Instr.buildSlice t n (parts.map fun (i, x) => (i, a.eval x))).run P w = .ok (.slice (some ⟨w.heap.size, 0, none⟩) n n) (w.alloc (.cells (parts.toList.flatMap fun p => (a.eval p.2).cells.toList).toArray e)) := by
  obtain ⟨zv, hzv⟩ := Option.isSome_iff_exists.1 hz
  unfold zeroOf at hzv
  obtain ⟨i, hi, hzv⟩ := bindS hzv
  obtain ⟨z, hz', _⟩ := bindS hzv
  have hn' : ¬ n * sz > 16777216 := by omega
  by_cases h0 : n * sz = 0
  · have hsz := (run_sizeOf (P := P) (w := w) hs).2
    obtain rfl : n = 0 := by
      rcases Nat.mul_eq_zero.1 h0 with h | h
      · exact h
      · exact absurd h hsz
    have hpe : parts = #[] := by simpa using hl
    subst hpe
    simp [Instr.buildSlice, run_underlying hu, (run_sizeOf (w := w) hs).1, Instr.fill, newRow, Array.range_zero']
  · obtain ⟨vs', g1, g2⟩ := fill_all (P := P) (e := e) (sz := sz) (a := a) (k := 0) ((Array.range (n * sz)).map (z.cells[· % z.cells.size]!)) hp hc (by simp [hl])
    simp only [Nat.zero_mul, List.take_zero, List.nil_append] at g2
    have g1' : Instr.fill (fun i => some (i * sz, sz)) ((Array.range (n * sz)).map (z.cells[· % z.cells.size]!)) (parts.map fun (i, x) => (i, a.eval x)).toList = some vs' := by
      rw [Array.toList_map]; exact g1
    simp only [Instr.buildSlice, Sem.run_bind, run_underlying hu, Result.andThen_ok, (run_sizeOf (w := w) hs).1, if_neg hn', Sem.run_ite, if_neg h0]
    simp only [zeroValue, typeInfo, Sem.run_bind, run_program, Result.andThen_ok, hi, hz', Sem.run_pure, g1']
    rw [← g2]
    simp [newRow]

theorem frL_isSc {H : Hp} {c : V} (h : c.isSc = true) : frL H c = c := by cases c <;> first | rfl | cases h

theorem frz_scal {H : Hp} {v : V} (h : v.scal = true) : frz H v = v := by
  unfold V.scal at h
  rw [List.all_eq_true] at h
  cases v with
  | ag cs =>
    show V.ag (cs.map (frL H)) = .ag cs
    congr 1
    conv => rhs; rw [← List.map_id cs]
    exact List.map_congr_left fun c hc => frL_isSc (h c hc)
  | un => rfl
  | fn f caps => have := h (.fn f caps) (by simp [V.cells]); cases this
  | b x => rfl
  | i k n => rfl
  | p x => rfl
  | tu cs => have := h (.tu cs) (by simp [V.cells]); cases this
  | sl es xs => have := h (.sl es xs) (by simp [V.cells]); cases this
  | nl ty es => have := h (.nl ty es) (by simp [V.cells]); cases this
  | rf b es o n => have := h (.rf b es o n) (by simp [V.cells]); cases this
  | pt b es i o => have := h (.pt b es i o) (by simp [V.cells]); cases this
  | ip cs => have := h (.ip cs) (by simp [V.cells]); cases this

theorem slParts_get {e : TypeId} : ∀ {parts : List (Nat × Operand)} {k : Nat} {As : List A}, slParts P e k parts = some As → As.length = parts.length ∧ ∀ (j : Nat) (p : Nat × Operand), parts[j]? = some p → ∃ A, As[j]? = some A ∧ trA P e p.2 = some A
  | [], k, As, h => by cases h; exact ⟨rfl, fun j p h => by simp at h⟩
  | (i, x) :: parts, k, As, h => by
    unfold slParts at h
    cases hb : Nat.beq i k with
    | false => rw [hb] at h; cases h
    | true =>
      rw [hb] at h
      obtain ⟨A, hA, h⟩ := bindS h
      obtain ⟨l, hl', rfl⟩ := mapS h
      obtain ⟨h1, h2⟩ := slParts_get hl'
      refine ⟨by simp [h1], fun j p hj => ?_⟩
      cases j with
      | zero => simp at hj; subst hj; exact ⟨A, rfl, hA⟩
      | succ j => exact h2 j p (by simpa using hj)

theorem maxLen_of {n sz : Nat} (h : n * sz ≤ 16777216) (hs : sz ≠ 0) : n ≤ maxLen := by
  have : n * 1 ≤ n * sz := Nat.mul_le_mul_left n (Nat.pos_of_ne_zero hs)
  simp only [maxLen]
  omega

theorem hget_ids {H : Hp} {ids : List Nat} {B : Blk} :
    upd ids η H (killH H ids ++ [some B]) = upd [] (fun b => if b ∈ ids then none else η b) H (H ++ [some B]) := by
  funext b
  have h1 := upd_make (η := η) (H := H) (ws := ids) (B := B)
  have h2 := upd_make (η := fun b => if b ∈ ids then none else η b) (H := H) (ws := []) (B := B)
  simp only [killH, List.foldl_nil] at h2
  by_cases hb : b = H.length
  · subst hb; rw [h1.1, h2.1]
  · by_cases hm : b ∈ ids
    · rw [h1.2.1 b hm hb, h2.2.2 b (by simp) hb, if_pos hm]
    · rw [h1.2.2 b hm hb, h2.2.2 b (by simp) hb, if_neg hm]

/-- A row, new, of elements that lead nowhere. -/
theorem row_core (hI : Inv imm w ρ η) {e : TypeId} {sz : Nat} {sc : Bool} {xs : List V} {cs : List Value} {n : Nat} (hn : n = xs.length) (hm : n ≤ maxLen) (hcs : cs.length = n * sz)
    (hx : ∀ j u, xs[j]? = some u → u.cells.length = sz ∧ ∀ t c, u.cells[t]? = some c → ∃ x, cs[j * sz + t]? = some x ∧ x.oneCell' = true ∧ Rep w (okB imm w ρ) noRho c x) (hsc : sc = true → ∀ u ∈ xs, u.scal = true) {H : Hp} (hnb : ρ H.length = none) :
    ∃ ρ', Rep (w.alloc (.cells cs.toArray e)) (okB imm (w.alloc (.cells cs.toArray e)) ρ') ρ' (.rf H.length sz 0 n) (.slice (some ⟨w.heap.size, 0, none⟩) n n) ∧ Ext w ρ (w.alloc (.cells cs.toArray e)) ρ' ∧
      Inv imm (w.alloc (.cells cs.toArray e)) ρ' (upd [] η H (H ++ [some (.row e sz sc xs)])) ∧ ∀ b, ρ b = none → ρ' b ≠ none → H.length ≤ b ∧ b < H.length + 1 := by
  have hmk := upd_make (η := η) (H := H) (ws := []) (B := .row e sz sc xs)
  simp only [killH, List.foldl_nil] at hmk
  obtain ⟨m1, m2, m3⟩ := hmk
  have := hI.make (w' := w.alloc (.cells cs.toArray e)) (ws := []) (nb := H.length) hnb (v := .slice (some ⟨w.heap.size, 0, none⟩) n n) (ty := e) (es := sz) (B := .row e sz sc xs) (η' := upd [] η H (H ++ [some (.row e sz sc xs)])) rfl rfl rfl (by simp)
    (fun k hk _ => Below.heap_alloc w _ k hk) (fun k hk => by simp [Value.ownBlock] at hk; exact .inl (by omega)) (fun hE => ?_) m1 m2 m3
  · refine ⟨_, ?_, this.1, this.2, fun b hb hb' => ?_⟩
    · refine .rf (by simp [rhoMk]) (Nat.le_refl _) (fun _ => ⟨_, rfl⟩) fun v ty es' hv => ?_
      simp [rhoMk] at hv
      obtain ⟨rfl, _, rfl⟩ := hv
      exact ⟨rfl, .inl ⟨_, _, _, rfl, by omega, Nat.le_refl _, by simp⟩⟩
    · unfold rhoMk at hb'
      split at hb'
      · omega
      · simp [hb] at hb'
  · refine ⟨rfl, rfl, ⟨cs, ?_, fun j u hj => ⟨(hx j u hj).1, fun t c hc => ?_⟩⟩, hsc⟩
    · rw [← hn]
      exact World.ownsRow_lit w cs.toArray n (Nat.zero_le _) hm (by simpa using hcs)
    · obtain ⟨x, h1, h2, h3⟩ := (hx j u hj).2 t c hc
      exact ⟨x, h1, h2, h3.mono hE.okB (fun k hk => hE.heap k hk.2.1 hk.2.2) (rhoLe.refl _)⟩

theorem bsl_step (hI : Inv imm w ρ η) {o' : Oper} {t : TypeId} {n : Nat} {parts : Array (Nat × Operand)} (hop : o'.op = .buildSlice t n parts) {nk : Bool} {ty es : Nat} {ps : List A} (ht : trO P o' = some (.bsl false ty es ps))
    {τ : Env} {H H' : Hp} {v : V} (he : (O.bsl nk ty es ps).evP τ H = some (v, H')) {a : Act}
    (hr : ∀ n ∈ ps.flatMap A.tmps, Rep w (okB imm w ρ) ρ (look τ n) (a.tmps.getD n undef)) (hp : ∀ b ∈ ps.flatMap (fun x => (x.ev τ).ids), η b = hget H b) (hn : ∀ b, H.length ≤ b → b < H'.length → ρ b = none) :
    ∃ x w' ρ', StepTo P imm o' a w ρ v H.length H'.length (upd (ps.flatMap fun x => (x.ev τ).ids) η H H') x w' ρ' := by
  unfold trO at ht
  simp only [hop] at ht
  obtain ⟨e, hE, ht⟩ := bindS ht
  obtain ⟨sz, hs, ht⟩ := bindS ht
  generalize hq : (Nat.beq parts.size n && Nat.ble (n * sz) 16777216 && Option.isSome (zeroOf P e)) = q at ht
  cases q with
  | false => cases ht
  | true =>
    simp only [Bool.and_eq_true] at hq
    obtain ⟨⟨q1, q2⟩, q3⟩ := hq
    have q1 := Nat.eq_of_beq_eq_true q1
    have q2 := Nat.le_of_ble_eq_true q2
    obtain ⟨l, hl, ht⟩ := mapS ht
    cases ht
    have hu : P.underlying t = some (.slice ty) := by unfold elemOfS at hE; split at hE <;> cases hE; assumption
    simp only [O.evP] at he
    obtain ⟨hc, he⟩ := bindFst he
    cases he
    rw [Bool.and_eq_true, List.all_eq_true] at hc
    obtain ⟨hgood, _⟩ := hc
    obtain ⟨hlen, hget'⟩ := slParts_get hl
    have hrx : ∀ (j : Nat) (p : Nat × Operand), parts.toList[j]? = some p → ∃ A : A, ps[j]? = some A ∧ Rep w (okB imm w ρ) ρ (A.ev τ) (a.eval p.2) := by
      intro j p hj
      obtain ⟨A, hA, hA'⟩ := hget' j p hj
      exact ⟨A, hA, rep_trA hA' fun n hn => hr n (List.mem_flatMap.2 ⟨A, List.mem_of_getElem? hA, hn⟩)⟩
    have hsize : ∀ p ∈ parts.toList, (a.eval p.2).cells.size = es := by
      intro p hp
      obtain ⟨j, hj⟩ := List.mem_iff_getElem?.1 hp
      obtain ⟨A, hA, hrep⟩ := hrx j p hj
      have := hgood A (List.mem_of_getElem? hA)
      rw [Bool.and_eq_true] at this
      exact (good_ok this.1 hrep).2.1
    have hrun := run_buildSlice (w := w) hu hs q3 q2 hl q1 hsize
    have hnb : ρ H.length = none := hn _ (Nat.le_refl _) (by simp [killH_length])
    obtain ⟨hE1, hI1⟩ := hI.kill (ws := ps.flatMap fun x => (x.ev τ).ids) (η' := fun b => if b ∈ ps.flatMap (fun x => (x.ev τ).ids) then none else η b) (fun b hb => if_pos hb) fun b hb => if_neg hb
    have hkl : ∀ y ∈ parts.toList, ((fun p => (a.eval p.2).cells.toList) y).length = es := fun p hp => by simpa using hsize p hp
    have hn' : n = (ps.map fun x => frz H (x.ev τ)).length := by simp [hlen, ← q1]
    have hcore := row_core hI1 (e := ty) (sz := es) (sc := ps.all fun x => (x.ev τ).scal) (xs := ps.map fun x => frz H (x.ev τ)) (cs := parts.toList.flatMap fun p => (a.eval p.2).cells.toList) (n := n) hn'
      (maxLen_of q2 (run_sizeOf (P := P) (w := w) hs).2) (by rw [flat_length _ es _ hkl]; simp [q1]) (fun j u hj => ?_) (fun hsc u hu' => ?_) (H := H) (rhoKill_none hnb)
    · obtain ⟨ρ', r1, r2, r3, r4⟩ := hcore
      have hln : ps.length = n := by rw [hlen, ← q1]; simp
      refine ⟨.slice (some ⟨w.heap.size, 0, none⟩) n n, _, ρ', .inl ?_, ?_, hE1.trans r2, ?_, fun b hb hb' => ?_⟩
      · simp only [execOp, hop, Sem.run_bind, hrun, Result.andThen_ok, Sem.run_pure]
      · rw [hln]; exact r1
      · rw [hget_ids]; exact r3
      · have := r4 b (rhoKill_none hb) hb'
        simpa [killH_length] using this
    · rw [List.getElem?_map] at hj
      obtain ⟨A, hA, rfl⟩ := mapS hj
      have hjl := (List.getElem?_eq_some_iff.1 hA).1
      obtain ⟨pj, hp'⟩ : ∃ pj, parts.toList[j]? = some pj := ⟨parts.toList[j]'(by omega), List.getElem?_eq_getElem (by omega)⟩
      obtain ⟨A', hA', hrep⟩ := hrx j _ hp'
      rw [hA] at hA'
      cases hA'
      have hg := hgood A (List.mem_of_getElem? hA)
      rw [Bool.and_eq_true] at hg
      have hfz := frz_ok hI (ids := ps.flatMap fun x => (x.ev τ).ids) (H := H) hrep fun b hb => by
        have hm : b ∈ ps.flatMap fun x => (x.ev τ).ids := List.mem_flatMap.2 ⟨A, List.mem_of_getElem? hA, hb⟩
        exact ⟨hp b hm, hm⟩
      have hfz := hfz.mono (ok' := okB imm w (rhoKill ρ (ps.flatMap fun x => (x.ev τ).ids))) (w' := w) (fun k hk => okF_kill hI k hk) (fun _ _ => rfl) (rhoLe.refl _)
      obtain ⟨g1, g2, g3, g4⟩ := good_ok hg.2 hfz
      refine ⟨g1, fun t c hc => ?_⟩
      have hlt := (List.getElem?_eq_some_iff.1 hc).1
      obtain ⟨y, hx⟩ : ∃ y, (a.eval pj.2).cells.toList[t]? = some y := ⟨(a.eval pj.2).cells.toList[t]'(by simp; omega), List.getElem?_eq_getElem (by simp; omega)⟩
      refine ⟨_, ?_, g4 t _ hx, g3.2 t c _ hc hx⟩
      rw [flat_get _ es parts.toList j t _ hkl hp' (by omega)]
      exact hx
    · obtain ⟨A, hA, rfl⟩ := List.mem_map.1 hu'
      have := List.all_eq_true.1 hsc A hA
      rw [frz_scal this]
      exact this
end

end Go.Proofs.YtgamkmgdbfeigaaM
