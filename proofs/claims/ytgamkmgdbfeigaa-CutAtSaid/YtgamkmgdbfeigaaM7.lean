/- Appends and new slices. -/
import Derived.Test.YtgamkmgdbfeigaaM6
import Derived.Deep.AppendLies
namespace Go.Proofs.YtgamkmgdbfeigaaM
open Go Go.RowKit

section
variable {P : Program} {imm : Nat → Prop} {w w' : World} {ok ok' : Nat → Prop} {ρ ρ' : Rho} {η η' : Nat → Option Blk}

/-- The elements of a list value, as they lie in the world. -/
theorem elems_ok (hI : Inv imm w ρ η) {H : Hp} {es : Nat} {v : V} {x : Value} {ys : List V} (h : Rep w (okB imm w ρ) ρ v x) (he : elems H es v = some ys) (hp : ∀ b ∈ v.tid, η b = hget H b) :
    ∃ a c, x = .slice a ys.length c ∧ ∃ news : List Value, news.length = ys.length * es ∧ (0 < ys.length → ∃ A : Addr, a = some A ∧ ∀ (j : Nat) (u : Value), news[j]? = some u → w.cell? (A.add j) = some u) ∧ (∀ u ∈ news, u.oneCell' = true) ∧
      ∀ (q : Nat) (e : V), ys[q]? = some e → e.cells.length = es ∧ ∀ (t : Nat) (c : V), e.cells[t]? = some c → ∃ y, news[q * es + t]? = some y ∧ y.oneCell' = true ∧ Rep w (okB imm w ρ) noRho c y := by
  have mk : ∀ (A : Addr) (g : Nat → Nat → Value) (zs : List V), (∀ q t, q < zs.length → t < es → w.cell? (A.add (q * es + t)) = some (g q t)) → (∀ q t, q < zs.length → t < es → (g q t).oneCell' = true) → (∀ (q : Nat) (e : V), zs[q]? = some e → e.cells.length = es) →
      (∀ (q t : Nat) (e c : V), zs[q]? = some e → e.cells[t]? = some c → Rep w (okB imm w ρ) noRho c (g q t)) →
      ∃ news : List Value, news.length = zs.length * es ∧ (∀ (j : Nat) (u : Value), news[j]? = some u → w.cell? (A.add j) = some u) ∧ (∀ u ∈ news, u.oneCell' = true) ∧
      ∀ (q : Nat) (e : V), zs[q]? = some e → e.cells.length = es ∧ ∀ (t : Nat) (c : V), e.cells[t]? = some c → ∃ y, news[q * es + t]? = some y ∧ y.oneCell' = true ∧ Rep w (okB imm w ρ) noRho c y := by
    intro A g zs h1 h2 h3 h4
    have hl : ∀ y ∈ List.range zs.length, ((fun q => (List.range es).map (g q)) y).length = es := fun y _ => by simp
    have hlen : ((List.range zs.length).flatMap fun q => (List.range es).map (g q)).length = zs.length * es := by rw [flat_length _ es _ hl]; simp
    have hget' : ∀ q t, q < zs.length → t < es → ((List.range zs.length).flatMap fun q => (List.range es).map (g q))[q * es + t]? = some (g q t) := by
      intro q t hq ht
      rw [flat_get _ es _ q t q hl (List.getElem?_range hq) ht, List.getElem?_map, List.getElem?_range ht]
      rfl
    have split : ∀ j, j < zs.length * es → ∃ q t, q < zs.length ∧ t < es ∧ j = q * es + t := by
      intro j hj
      have hes : 0 < es := Nat.pos_of_ne_zero fun h => by rw [h, Nat.mul_zero] at hj; omega
      refine ⟨j / es, j % es, (Nat.div_lt_iff_lt_mul hes).2 hj, Nat.mod_lt j hes, ?_⟩
      have := Nat.div_add_mod j es
      rw [Nat.mul_comm] at this
      exact this.symm
    refine ⟨_, hlen, fun j u hj => ?_, fun u hu => ?_, fun q e hq => ⟨h3 q e hq, fun t c hc => ?_⟩⟩
    · obtain ⟨q, t, hq, ht, rfl⟩ := split j (by rw [← hlen]; exact (List.getElem?_eq_some_iff.1 hj).1)
      rw [hget' q t hq ht] at hj
      cases hj
      exact h1 q t hq ht
    · obtain ⟨j, hj⟩ := List.mem_iff_getElem?.1 hu
      obtain ⟨q, t, hq, ht, rfl⟩ := split j (by rw [← hlen]; exact (List.getElem?_eq_some_iff.1 hj).1)
      rw [hget' q t hq ht] at hj
      cases hj
      exact h2 q t hq ht
    · have hq' := (List.getElem?_eq_some_iff.1 hq).1
      have ht' : t < es := by rw [← h3 q e hq]; exact (List.getElem?_eq_some_iff.1 hc).1
      exact ⟨g q t, hget' q t hq' ht', h2 q t hq' ht', h4 q t e c hq hc⟩
  have none_ : ∃ news : List Value, news.length = ([] : List V).length * es ∧ (0 < ([] : List V).length → ∃ A : Addr, (none : Option Addr) = some A ∧ ∀ (j : Nat) (u : Value), news[j]? = some u → w.cell? (A.add j) = some u) ∧ (∀ u ∈ news, u.oneCell' = true) ∧
      ∀ (q : Nat) (e : V), ([] : List V)[q]? = some e → e.cells.length = es ∧ ∀ (t : Nat) (c : V), e.cells[t]? = some c → ∃ y, news[q * es + t]? = some y ∧ y.oneCell' = true ∧ Rep w (okB imm w ρ) noRho c y :=
    ⟨[], by simp, fun h => absurd h (by simp), fun u hu => by simp at hu, fun q e hq => by simp at hq⟩
  cases h with
  | sl g hn hc hl ha h1 h =>
    rename_i es' xs a n c
    simp only [elems] at he
    obtain ⟨hb, rfl⟩ := bindFst he
    obtain rfl := Nat.eq_of_beq_eq_true hb
    subst hn
    refine ⟨a, c, rfl, ?_⟩
    by_cases h0 : 0 < xs.length
    · obtain ⟨A, rfl, _, hcell⟩ := ha h0
      obtain ⟨news, n1, n2, n3, n4⟩ := mk A g xs hcell h1 hl h
      exact ⟨news, n1, fun _ => ⟨A, rfl, n2⟩, n3, n4⟩
    · have : xs = [] := List.eq_nil_of_length_eq_zero (by omega)
      subst this
      exact ⟨[], by simp, fun h => absurd h h0, fun u hu => by simp at hu, fun q e hq => by simp at hq⟩
  | nl ty es' =>
    cases he
    exact ⟨none, 0, rfl, none_⟩
  | rf hd hc ha h =>
    rename_i b es' off ln a c
    simp only [elems] at he
    cases hb : Nat.beq es es' with
    | false => rw [hb] at he; cases he
    | true =>
      rw [hb] at he
      obtain rfl := Nat.eq_of_beq_eq_true hb
      simp only [cond_true] at he
      split at he
      · rename_i ty es' sc xs hB
        obtain ⟨hb, rfl⟩ := bindFst he
        obtain rfl := Nat.eq_of_beq_eq_true hb
        obtain ⟨bv, bty, bes, hal, hBk⟩ := hI.alive hd (by rw [hp b (by simp [V.tid])]; exact hB)
        obtain ⟨rfl, rfl, hrow, _⟩ := hBk
        obtain ⟨_, hRef⟩ := h bv ty es hal
        have hrow' := hrow
        obtain ⟨cs, hown, hcs⟩ := hrow'
        have empty : ln = 0 → ∃ a' c', Value.slice a ln c = .slice a' ((xs.drop off).take ln).length c' ∧ ∃ news : List Value, news.length = ((xs.drop off).take ln).length * es ∧ (0 < ((xs.drop off).take ln).length → ∃ A : Addr, a' = some A ∧ ∀ (j : Nat) (u : Value), news[j]? = some u → w.cell? (A.add j) = some u) ∧ (∀ u ∈ news, u.oneCell' = true) ∧
            ∀ (q : Nat) (e : V), ((xs.drop off).take ln)[q]? = some e → e.cells.length = es ∧ ∀ (t : Nat) (c : V), e.cells[t]? = some c → ∃ y, news[q * es + t]? = some y ∧ y.oneCell' = true ∧ Rep w (okB imm w ρ) noRho c y := by
          rintro rfl
          exact ⟨a, c, by simp, [], by simp, fun h => absurd h (by simp), fun u hu => by simp at hu, fun q e hq => by simp at hq⟩
        rcases hRef with ⟨g, n, cap, hv, r1, r2, r3⟩ | ⟨_, _, h0, _⟩ | ⟨h0, _⟩
        · cases r3
          have hn : n = xs.length := by
            rcases hown.2 with ⟨h1, _⟩ | ⟨g', cap', cur, h1, _⟩
            · rw [h1] at hv; cases hv
            · rw [h1] at hv; cases hv; rfl
          subst hn
          obtain ⟨f, hf⟩ := hrow.cell hv
          have hlen : ((xs.drop off).take ln).length = ln := by simp; omega
          have sel : ∀ (q : Nat) (e : V), ((xs.drop off).take ln)[q]? = some e → xs[off + q]? = some e := by
            intro q e hq
            rw [List.getElem?_take] at hq
            split at hq
            · rw [List.getElem?_drop] at hq; exact hq
            · cases hq
          have get : ∀ q t, q < ln → t < es → ∃ e c, xs[off + q]? = some e ∧ e.cells[t]? = some c := by
            intro q t hq ht
            refine ⟨xs[off + q]'(by omega), _, List.getElem?_eq_getElem (by omega), List.getElem?_eq_getElem ?_⟩
            rw [(hcs (off + q) _ (List.getElem?_eq_getElem (by omega))).1]
            exact ht
          obtain ⟨news, n1, n2, n3, n4⟩ := mk ⟨g, off * es, none⟩ (fun q t => f (off + q) t) ((xs.drop off).take ln) (fun q t hq ht => by
              obtain ⟨e, c, h1, h2⟩ := get q t (by omega) ht
              rw [addr_add, show off * es + (q * es + t) = (off + q) * es + t by rw [Nat.add_mul, Nat.add_assoc]]
              exact (hf _ _ _ _ h1 h2).1) (fun q t hq ht => by
              obtain ⟨e, c, h1, h2⟩ := get q t (by omega) ht
              exact (hf _ _ _ _ h1 h2).2.1) (fun q e hq => (hcs _ _ (sel q e hq)).1) fun q t e c hq hc' => (hf _ _ _ _ (sel q e hq) hc').2.2
          exact ⟨_, _, by rw [hlen], news, n1, fun _ => ⟨_, rfl, n2⟩, n3, n4⟩
        · exact empty h0
        · exact empty h0
      · cases he
  | _ => cases he

theorem run_append_zero {t ty e : TypeId} (hu : P.underlying t = some (.slice e)) {sz : Nat} (hs : szOf P e = some sz) (a : Option Addr) (n cap c : Nat) (b : Option Addr) (h : n ≤ cap) :
    (Builtin.append_ #[t, t] ty #[.slice b n cap, .slice a 0 c]).run P w = .ok (.slice b n cap) w := by
  cases a <;> cases b <;> simp [Builtin.append_, run_underlying hu, (run_sizeOf (w := w) hs).1, Builtin.lenOf, Builtin.firstCells, loadCells, loadCellsFrom, storeCells, h]


theorem zeroGood_ok {e sz : Nat} (h : zeroGood P e sz = true) : ∃ i z, P.info? e = some i ∧ i.zero = some z ∧ z.cells.size = sz := by
  unfold zeroGood at h
  split at h
  · rename_i zv hz
    unfold zeroOf at hz
    obtain ⟨i, hi, hz⟩ := bindS hz
    obtain ⟨z, hz1, hz2⟩ := bindS hz
    exact ⟨i, z, hi, hz1, (good_ok (w := (default : World)) (ok := fun _ => True) (ρ := noRho) h (rep_trV hz2)).2.1⟩
  · cases h

/-- An append, whatever its size: what it comes to. -/
theorem run_app {t ty : TypeId} (hu : P.underlying t = some (.slice ty)) {es by_ : Nat} (hs : szOf P ty = some es) {i : TypeInfo} (hi : P.info? ty = some i) (hby : i.bytes = by_) (hb1 : 1 ≤ by_) (hz : zeroGood P ty es = true) {v : Value} {n : Nat} {cs : List Value} (hown : w.ownsRow 0 ty es v n cs)
    {a : Option Addr} {m c : Nat} {news : List Value} (hl : news.length = m * es) (hnews : 0 < m → ∃ A : Addr, a = some A ∧ ∀ (j : Nat) (u : Value), news[j]? = some u → w.cell? (A.add j) = some u) (h1 : ∀ u ∈ news, u.oneCell' = true) (hbytes : (n + m) * by_ ≤ 140737488355328) (tt : TypeId) :
    ∃ v' w', (Builtin.append_ #[t, t] tt #[v, .slice a m c]).run P w = .ok v' w' ∧ w'.ownsRow 0 ty es v' (n + m) (cs ++ news) ∧ w.grownBy w' v.ownBlock ∧ (∀ k, v'.ownBlock = some k → v.ownBlock = some k ∨ w.heap.size ≤ k) ∧ ∃ a' c', v' = .slice a' (n + m) c' ∧ n + m ≤ c' := by
  have hform : ∃ a' c', v = .slice a' n c' ∧ n ≤ c' := by
    rcases hown.2 with ⟨rfl, rfl⟩ | ⟨g, cap, cur, rfl, _, _, h, _⟩
    · exact ⟨_, _, rfl, Nat.le_refl _⟩
    · exact ⟨_, _, rfl, h⟩
  by_cases hm : m = 0
  · subst hm
    have hn : news = [] := List.eq_nil_of_length_eq_zero (by simpa using hl)
    subst hn
    obtain ⟨a', c', rfl, h⟩ := hform
    exact ⟨_, w, run_append_zero hu hs a n c' c a' h, by simpa using hown, ⟨rfl, rfl, rfl, Nat.le_refl _, fun _ _ _ => rfl⟩, fun k hk => .inl hk, _, _, rfl, h⟩
  · obtain ⟨A, rfl, hcell⟩ := hnews (Nat.pos_of_ne_zero hm)
    obtain ⟨i', z, hi', hz1, hz2⟩ := zeroGood_ok hz
    rw [hi] at hi'
    cases hi'
    have hsz : i.size = es ∧ es ≠ 0 := by
      have h0 := (run_sizeOf (P := P) (w := w) hs).2
      refine ⟨?_, h0⟩
      unfold szOf at hs
      obtain ⟨i2, hi2, hs⟩ := bindS hs
      rw [hi] at hi2
      cases hi2
      cases hq : Nat.beq i.size 0 with
      | true => rw [hq] at hs; cases hs
      | false => rw [hq] at hs; cases hs; rfl
    have hle : (n + m) * 1 ≤ (n + m) * by_ := Nat.mul_le_mul_left _ hb1
    obtain ⟨g, cap, w', r1, r2, r3, r4, r5⟩ := run_append_lies (P := P) w t tt 0 ty i z es by_ hu hi hz1 hsz.1 hby hz2 (Nat.pos_of_ne_zero hsz.2) v n cs hown A m c news hl hcell h1 (Nat.pos_of_ne_zero hm) (by simp only [maxLen]; omega) hbytes (Nat.zero_le _) w.heap.size rfl
    refine ⟨_, w', r1, r2, r3, fun k hk => ?_, _, _, rfl, ?_⟩
    · cases hk
      rcases r4 with h | h
      · exact .inl h
      · exact .inr (Nat.le_of_eq h.symm)
    · rcases r2.2 with ⟨h, _⟩ | ⟨g', cap', cur, h, _, _, h', _⟩
      · cases h
      · cases h; exact h'

theorem app_core (hI : Inv imm w ρ η) {t ty : TypeId} (hu : P.underlying t = some (.slice ty)) {es by_ : Nat} (hs : szOf P ty = some es) {i : TypeInfo} (hi : P.info? ty = some i) (hby : i.bytes = by_) (hb1 : 1 ≤ by_) (hz : zeroGood P ty es = true) {ws : List Nat} {v : Value} {xs : List V} {sc : Bool}
    (hrow : RowOk w (okB imm w ρ) noRho v ty es xs) (hsc : sc = true → ∀ e ∈ xs, e.scal = true) (hws : ∀ k, v.ownBlock = some k → ∃ b v' ty' es', b ∈ ws ∧ ρ b = some (some (v', ty', es')) ∧ v'.ownBlock = some k) {H : Hp} {X : V} {x : Value} {ys : List V} (hx : Rep w (okB imm w ρ) ρ X x) (he : elems H es X = some ys) (hp : ∀ b ∈ X.tid, η b = hget H b)
    (hbytes : (xs.length + ys.length) * by_ ≤ 140737488355328) (hnb : ρ H.length = none) (tt : TypeId) :
    ∃ v' w' ρ', (Builtin.append_ #[t, t] tt #[v, x]).run P w = .ok v' w' ∧ Rep w' (okB imm w' ρ') ρ' (.rf H.length es 0 (xs.length + ys.length)) v' ∧ Ext w ρ w' ρ' ∧
      Inv imm w' ρ' (upd ws η H (killH H ws ++ [some (.row ty es (sc && ys.all V.scal) (xs ++ ys))])) ∧ ∀ b, ρ b = none → ρ' b ≠ none → H.length ≤ b ∧ b < H.length + 1 := by
  obtain ⟨a, c, rfl, news, n1, n2, n3, n4⟩ := elems_ok hI hx he hp
  obtain ⟨cs, hown, hcs⟩ := hrow
  obtain ⟨v', w', r1, r2, r3, r4, a', c', rfl, r5⟩ := run_app hu hs hi hby hb1 hz hown n1 n2 n3 hbytes tt
  obtain ⟨m1, m2, m3⟩ := upd_make (η := η) (H := H) (ws := ws) (B := .row ty es (sc && ys.all V.scal) (xs ++ ys))
  have hmk := hI.make (w' := w') (ws := ws) (nb := H.length) hnb (v := .slice a' (xs.length + ys.length) c') (ty := ty) (es := es) (B := .row ty es (sc && ys.all V.scal) (xs ++ ys)) (η' := upd ws η H (killH H ws ++ [some (.row ty es (sc && ys.all V.scal) (xs ++ ys))]))
    r3.os r3.tape r3.output r3.size (fun k hk hne => ?_) (fun k hk => ?_) (fun hE => ?_) m1 m2 m3
  · refine ⟨_, w', _, r1, ?_, hmk.1, hmk.2, fun b hb hb' => ?_⟩
    · refine .rf (by simp [rhoMk]) r5 (fun h0 => ?_) fun v ty' es' hv => ?_
      · rcases r2.2 with ⟨h, h'⟩ | ⟨g, cap, cur, h, _⟩
        · omega
        · cases h; exact ⟨_, rfl⟩
      · simp [rhoMk] at hv
        obtain ⟨rfl, rfl, rfl⟩ := hv
        refine ⟨rfl, ?_⟩
        rcases r2.2 with ⟨h, h'⟩ | ⟨g, cap, cur, h, _, _, h', _⟩
        · rw [h'] at h ⊢
          exact .inr (.inl ⟨h, rfl, rfl, h⟩)
        · cases h
          exact .inl ⟨g, _, _, rfl, by omega, h', by simp⟩
    · unfold rhoMk at hb'
      split at hb'
      · omega
      · simp [hb] at hb'
  · refine r3.block k hk fun h => ?_
    obtain ⟨b, v', ty', es', hb, hb1, hb2⟩ := hws k h.symm
    exact hne b v' ty' es' hb hb1 hb2
  · rcases r4 k hk with h | h
    · exact .inr (hws k h)
    · exact .inl h
  · have lift : ∀ {c : V} {y : Value}, Rep w (okB imm w ρ) noRho c y → Rep w' (okB imm w' _) noRho c y := fun h => h.mono hE.okB (fun k hk => hE.heap k hk.2.1 hk.2.2) (rhoLe.refl _)
    refine ⟨rfl, rfl, ⟨cs ++ news, by rw [List.length_append]; exact r2, fun j e hj => ?_⟩, fun h => ?_⟩
    · have hcl := hown.1
      rw [List.getElem?_append] at hj
      split at hj
      · rename_i hlt
        refine ⟨(hcs j e hj).1, fun t c hc => ?_⟩
        obtain ⟨y, h1, h2, h3⟩ := (hcs j e hj).2 t c hc
        exact ⟨y, by rw [List.getElem?_append_left (List.getElem?_eq_some_iff.1 h1).1]; exact h1, h2, lift h3⟩
      · rename_i hlt
        refine ⟨(n4 _ e hj).1, fun t c hc => ?_⟩
        obtain ⟨y, h1, h2, h3⟩ := (n4 _ e hj).2 t c hc
        have hge : xs.length * es ≤ j * es := Nat.mul_le_mul_right es (by omega)
        refine ⟨y, ?_, h2, lift h3⟩
        rw [List.getElem?_append_right (by omega), ← h1]
        congr 1
        rw [hcl, Nat.sub_mul]
        omega
    · rw [Bool.and_eq_true] at h
      intro e he'
      rcases List.mem_append.1 he' with h' | h'
      · exact hsc h.1 e h'
      · exact List.all_eq_true.1 h.2 e h'

theorem app_step (hI : Inv imm w ρ η) {o' : Oper} {c : Call} (hop : o'.op = .call c) (hc : c.callee = .builtin .append) {ty es by_ : Nat} {S X : A} (ht : trO P o' = some (.app ty es by_ S X)) {τ : Env} {H H' : Hp} {v : V} (he : (O.app ty es by_ S X).evP τ H = some (v, H')) {a : Act}
    (hr : ∀ n ∈ S.tmps ++ X.tmps, Rep w (okB imm w ρ) ρ (look τ n) (a.tmps.getD n undef)) (hp : ∀ b ∈ (S.ev τ).tid ++ (X.ev τ).tid, η b = hget H b) (hn : ∀ b, H.length ≤ b → b < H'.length → ρ b = none) :
    ∃ x w' ρ', StepTo P imm o' a w ρ v H.length H'.length (upd ((S.ev τ).tid) η H H') x w' ρ' := by
  obtain ⟨s, x, t, i, hargs, htys, hE, hi, hs, hz, hb1, hS, hX, rfl⟩ : ∃ s x t i, c.args = #[s, x] ∧ c.argTypes = #[t, t] ∧ elemOfS P t = some ty ∧ P.info? ty = some i ∧ szOf P ty = some es ∧ zeroGood P ty es = true ∧ 1 ≤ by_ ∧ trA P t s = some S ∧ trA P t x = some X ∧ by_ = i.bytes := by
    unfold trO at ht
    simp only [hop, hc] at ht
    split at ht
    · rename_i s x t t' hargs htys
      cases hb : Nat.beq t t' with
      | false => rw [hb] at ht; cases ht
      | true =>
        rw [hb] at ht
        obtain rfl := Nat.eq_of_beq_eq_true hb
        obtain ⟨e, hE, ht⟩ := bindS ht
        obtain ⟨i, hi, ht⟩ := bindS ht
        obtain ⟨sz, hs, ht⟩ := bindS ht
        cases hz : (zeroGood P e sz && Nat.ble 1 i.bytes) with
        | false => rw [hz] at ht; cases ht
        | true =>
          rw [hz] at ht
          rw [Bool.and_eq_true] at hz
          obtain ⟨X', hX', ht⟩ := bindS ht
          obtain ⟨Y', hY', ht⟩ := mapS ht
          cases ht
          exact ⟨s, x, t, i, by apply Array.toList_inj.1; simpa using hargs, by apply Array.toList_inj.1; simpa using htys, hE, hi, hs, hz.1, Nat.le_of_ble_eq_true hz.2, hX', hY', rfl⟩
    · cases ht
  have hu : P.underlying t = some (.slice ty) := by unfold elemOfS at hE; split at hE <;> cases hE; assumption
  have hs' := rep_trA hS (τ := τ) (a := a) fun n hn => hr n (by simp [hn])
  have hx' := rep_trA hX (τ := τ) (a := a) fun n hn => hr n (by simp [hn])
  have fin : ∀ v' w' , (Builtin.append_ #[t, t] o'.type #[a.eval s, a.eval x]).run P w = .ok v' w' → (execOp a.eval o').run P w = .ok (.value v') w' := by
    intro v' w' h
    simp [execOp, hop, resolve, hc, hargs, htys, invoke, builtin, h]
  simp only [O.evP] at he
  obtain ⟨ys, hys, he⟩ := bindS he
  have hpx : ∀ b ∈ (X.ev τ).tid, η b = hget H b := fun b hb => hp b (by simp [hb])
  split at he
  · rename_i ty' es' hSe
    split at he
    · rename_i hby
      cases he
      rw [hSe] at hs'
      generalize hsv : a.eval s = sv at hs'
      cases hs'
      obtain ⟨v', w', ρ', r1, r2, r3, r4, r5⟩ := app_core hI hu hs hi rfl hb1 hz (ws := []) (v := .slice none 0 0) (xs := []) (sc := true) ⟨[], World.ownsRow_nil _ _ _ _, fun j e h => by simp at h⟩ (fun _ e h => by simp at h) (fun k hk => by cases hk)
        hx' hys hpx (by simpa using hby) (hn _ (Nat.le_refl _) (by simp)) o'.type
      refine ⟨v', w', ρ', .inl (fin _ _ (by rw [hsv]; exact r1)), by simpa using r2, r3, ?_, fun b hb hb' => by have := r5 b hb hb'; simpa using this⟩
      rw [hSe]
      simpa [V.tid, killH] using r4
    · cases he
  · rename_i b es'' off ln hSe
    split at he
    · rename_i ty' es' sc xs hB
      generalize hq : (Nat.beq off 0 && Nat.beq ty' ty && Nat.beq es' es && Nat.beq es'' es) = q at he
      cases q with
      | false => cases he
      | true =>
        simp only [Bool.and_eq_true] at hq
        obtain ⟨⟨⟨q1, q2⟩, q3⟩, q4⟩ := hq
        obtain rfl := Nat.eq_of_beq_eq_true q1
        obtain rfl := Nat.eq_of_beq_eq_true q2
        obtain rfl := Nat.eq_of_beq_eq_true q3
        obtain rfl := Nat.eq_of_beq_eq_true q4
        simp only [cond_true] at he
        split at he
        · rename_i hby
          obtain ⟨rfl, hby⟩ := hby
          cases he
          rw [hSe] at hs'
          generalize hsv : a.eval s = sv at hs'
          cases hs' with
          | rf hd hc' ha h =>
            have hpb : η b = hget H b := hp b (by simp [hSe, V.tid])
            obtain ⟨bv, bty, bes, hal, hBk⟩ := hI.alive hd (by rw [hpb]; exact hB)
            obtain ⟨rfl, rfl, hrow, hsc⟩ := hBk
            obtain ⟨_, hRef⟩ := h bv ty' es'' hal
            have hbv : a.eval s = bv := by
              rw [hsv]
              obtain ⟨cs, hown, _⟩ := hrow
              rcases hRef with ⟨g, n, cap, hv, r1, r2, r3⟩ | ⟨h1, _, h2, h3⟩ | ⟨_, h1⟩
              · rcases hown.2 with ⟨h1, _⟩ | ⟨g', cap', cur, h1, _⟩
                · rw [h1] at hv; cases hv
                · rw [h1] at hv
                  cases hv
                  rw [r3, h1]
                  simp
              · rw [h1, h3]
              · exact absurd rfl h1
            obtain ⟨v', w', ρ', r1, r2, r3, r4, r5⟩ := app_core hI hu hs hi rfl hb1 hz (ws := [b]) (v := bv) (xs := xs) (sc := sc) hrow hsc (fun k hk => ⟨b, bv, ty', es'', by simp, hal, hk⟩)
              hx' hys hpx hby (hn _ (Nat.le_refl _) (by simp)) o'.type
            refine ⟨v', w', ρ', .inl (fin _ _ (by rw [hbv]; exact r1)), r2, r3, ?_, fun b hb hb' => by have := r5 b hb hb'; simpa using this⟩
            rw [hSe]
            exact r4
        · cases he
    · cases he
  · cases he

theorem made_get (z : Array Value) (n es q t : Nat) (hz : z.size = es) (hq : q < n) (ht : t < es) : (madeCells z (n * es)).toList[q * es + t]? = z.toList[t]? := by
  have h1 : q * es + t < n * es := by
    have : (q + 1) * es ≤ n * es := Nat.mul_le_mul_right es (by omega)
    rw [Nat.succ_mul] at this
    omega
  have h2 : (q * es + t) % z.size = t := by rw [hz, Nat.add_comm, Nat.add_mul_mod_self_right, Nat.mod_eq_of_lt ht]
  simp [madeCells, h1, h2]
  rw [getElem!_pos z t (by omega), Array.getElem?_eq_getElem (by omega)]

theorem mks_step (hI : Inv imm w ρ η) {o' : Oper} {t : TypeId} {lo co : Operand} (hop : o'.op = .makeSlice t lo co) {o : O} (ht : trO P o' = some o) {τ : Env} {H H' : Hp} {v : V} (he : o.evP τ H = some (v, H')) {a : Act}
    (hr : ∀ n ∈ o.tmps, Rep w (okB imm w ρ) ρ (look τ n) (a.tmps.getD n undef)) (hn : ∀ b, H.length ≤ b → b < H'.length → ρ b = none) :
    ∃ x w' ρ', StepTo P imm o' a w ρ v H.length H'.length (upd (o.writes τ H) η H H') x w' ρ' := by
  unfold trO at ht
  simp only [hop] at ht
  obtain ⟨e, hE, ht⟩ := bindS ht
  obtain ⟨i, hi, ht⟩ := bindS ht
  obtain ⟨sz, hs, ht⟩ := bindS ht
  obtain ⟨z, hz, ht⟩ := bindS ht
  cases hq : (z.good sz && Nat.ble 1 i.bytes) with
  | false => rw [hq] at ht; cases ht
  | true =>
    rw [hq] at ht
    rw [Bool.and_eq_true] at hq
    have hb1 := Nat.le_of_ble_eq_true hq.2
    obtain ⟨L, hL, ht⟩ := bindS ht
    obtain ⟨C, hC, rfl⟩ := mapS ht
    have hu : P.underlying t = some (.slice e) := by unfold elemOfS at hE; split at hE <;> cases hE; assumption
    have hl := rep_trA hL (τ := τ) (a := a) fun n hn => hr n (by simp [O.tmps, hn])
    have hc := rep_trA hC (τ := τ) (a := a) fun n hn => hr n (by simp [O.tmps, hn])
    unfold zeroOf at hz
    obtain ⟨i', hi', hz⟩ := bindS hz
    rw [hi] at hi'
    cases hi'
    obtain ⟨zv, hzv, hz⟩ := bindS hz
    have hzr : Rep w (okB imm w ρ) noRho z zv := rep_trV hz
    obtain ⟨g1, g2, g3, g4⟩ := good_ok hq.1 hzr
    have hsz : i.size = sz ∧ sz ≠ 0 := by
      have h0 := (run_sizeOf (P := P) (w := w) hs).2
      refine ⟨?_, h0⟩
      unfold szOf at hs
      obtain ⟨i2, hi2, hs⟩ := bindS hs
      rw [hi] at hi2
      cases hi2
      cases hq : Nat.beq i.size 0 with
      | true => rw [hq] at hs; cases hs
      | false => rw [hq] at hs; cases hs; rfl
    simp only [O.evP] at he
    split at he
    · rename_i k n k' m hLe hCe
      rw [hLe] at hl
      rw [hCe] at hc
      split at he
      · rename_i hcond
        obtain ⟨rfl, h0, hby⟩ := hcond
        cases he
        obtain ⟨N, rfl⟩ := Int.eq_ofNat_of_zero_le h0
        simp only [Int.toNat_natCast] at hby hn ⊢
        have hle : N * 1 ≤ N * i.bytes := Nat.mul_le_mul_left _ hb1
        have hm : N ≤ maxLen := by simp only [maxLen]; omega
        have hrun := run_make (P := P) w t e i zv hu hi hzv k k' (N : Int) (N : Int) (by omega) (Int.le_refl _) (by
            have h : ((i.bytes * N : Nat) : Int) ≤ 281474976710656 := by rw [Nat.mul_comm] at hby; omega
            rwa [Int.natCast_mul] at h) (by simp only [maxLen] at hm; omega)
        simp only [Int.toNat_natCast] at hrun
        rw [hsz.1] at hrun
        have hcore := row_core hI (e := e) (sz := sz) (sc := z.scal) (xs := List.replicate N z) (cs := (madeCells zv.cells (N * sz)).toList) (n := N) (by simp) hm (by simp [size_madeCells]) (fun j u hj => ?_) (fun hsc u hu' => ?_) (H := H) (hn _ (Nat.le_refl _) (by simp))
        · obtain ⟨ρ', r1, r2, r3, r4⟩ := hcore
          refine ⟨_, _, ρ', .inl ?_, r1, r2, r3, fun b hb hb' => by have := r4 b hb hb'; simpa using this⟩
          simp only [execOp, hop, hl.int, hc.int, Sem.run_bind, hrun, Result.andThen_ok, Sem.run_pure, Array.toArray_toList]
        · have hjl : j < N := by have := (List.getElem?_eq_some_iff.1 hj).1; simpa using this
          rw [List.getElem?_replicate] at hj
          rw [if_pos hjl] at hj
          cases hj
          refine ⟨g1, fun t c hc' => ?_⟩
          have hlt := (List.getElem?_eq_some_iff.1 hc').1
          obtain ⟨y, hy⟩ : ∃ y, zv.cells.toList[t]? = some y := ⟨zv.cells.toList[t]'(by simp; omega), List.getElem?_eq_getElem (by simp; omega)⟩
          exact ⟨y, by rw [made_get zv.cells N sz j t g2 hjl (by omega)]; exact hy, g4 t y hy, g3.2 t c y hc' hy⟩
        · rw [(List.mem_replicate.1 hu').2]; exact hsc
      · cases he
    · cases he
end

end Go.Proofs.YtgamkmgdbfeigaaM
