/- Stores, appends, new slices. -/
import Derived.Test.YtgamkmgdbfeigaaM5
namespace Go.Proofs.YtgamkmgdbfeigaaM
open Go Go.RowKit

section
variable {P : Program} {imm : Nat → Prop} {w w' : World} {ok ok' : Nat → Prop} {ρ ρ' : Rho} {η η' : Nat → Option Blk}

theorem Inv.stored (hI : Inv imm w ρ η) {b g : Nat} {v : Value} {ty es : Nat} {B : Blk} (hb : ρ b = some (some (v, ty, es))) (hg : v.ownBlock = some g) (ho : w'.os = w.os) (ht : w'.tape = w.tape) (hu : w'.output = w.output) (hsz : w'.heap.size = w.heap.size)
    (hh : ∀ k, k ≠ g → w'.heap[k]? = w.heap[k]?) (hB : Ext w ρ w' ρ → BlkOk w' (okB imm w' ρ) ρ v ty es B) (h1 : η' b = some B) (h3 : ∀ b', b' ≠ b → η' b' = η b') : Ext w ρ w' ρ ∧ Inv imm w' ρ η' := by
  have hE : Ext w ρ w' ρ := ⟨ho, ht, hu, by omega, fun k _ ha => hh k (by rintro rfl; exact ha ⟨b, v, ty, es, hb, hg⟩), fun _ _ h => h, rhoLe.refl ρ⟩
  refine ⟨hE, hI.step hE (fun b' v' ty' es' hb' => ?_) fun b' hb' => ?_⟩
  · by_cases hbb : b' = b
    · subst hbb
      rw [hb] at hb'
      cases hb'
      refine .inr ⟨B, h1, hB hE, fun k hk => ⟨hI.own k ⟨b', v, ty, es, hb, hk⟩, fun b2 v2 ty2 es2 hne hb2 hv2 => hne (hI.dist _ _ _ _ _ _ _ _ _ hb2 hb hv2 hk)⟩⟩
    · refine .inl ⟨hb', h3 b' hbb, fun k hk => hh k ?_⟩
      rintro rfl
      exact hbb (hI.dist _ _ _ _ _ _ _ _ _ hb' hb hk hg)
  · have : b' ≠ b := by rintro rfl; rw [hb] at hb'; cases hb'
    rw [h3 b' this]
    exact hI.dead b' hb'

theorem take_seg (cur vs : List Value) (o N : Nat) (h : o + vs.length ≤ N) (hN : N ≤ cur.length) :
    (cur.take o ++ vs ++ cur.drop (o + vs.length)).take N = (cur.take N).take o ++ (vs ++ (cur.take N).drop (o + vs.length)) := by
  have e0 : (cur.take o).length = o := by rw [List.length_take]; exact Nat.min_eq_left (by omega)
  rw [List.append_assoc, List.take_append, e0, List.take_append, List.take_of_length_le (show (cur.take o).length ≤ N by omega), List.take_of_length_le (show vs.length ≤ N - o by omega), List.take_take, Nat.min_eq_left (show o ≤ N by omega), List.drop_take]
  congr 3
  omega

/-- A store into an own row. -/
theorem ownsRow_store {ty es n : Nat} {v : Value} {cs : List Value} (h : w.ownsRow 0 ty es v n cs) {g : Nat} (hg : v.ownBlock = some g) {o : Nat} {vs : List Value} (hfit : o + vs.length ≤ n * es) (h1 : ∀ v ∈ vs, v.oneCell' = true) :
    ∃ w', (storeCells ⟨g, o, none⟩ vs).run P w = .ok () w' ∧ w'.ownsRow 0 ty es v n (cs.take o ++ (vs ++ cs.drop (o + vs.length))) ∧ w'.os = w.os ∧ w'.tape = w.tape ∧ w'.output = w.output ∧ w'.heap.size = w.heap.size ∧ ∀ k, k ≠ g → w'.heap[k]? = w.heap[k]? := by
  rcases h.2 with ⟨rfl, _⟩ | ⟨g', cap, cur, rfl, hb, hg', hnc, hcm, hcs, htake⟩
  · cases hg
  · cases hg
    have hN : n * es ≤ cur.toList.length := by rw [Array.length_toList, hcs]; exact Nat.mul_le_mul_right es hnc
    refine ⟨_, run_storeCells_at P g' o ty vs 0 cur w hg' (by simp at hN; omega) h1, ⟨?_, .inr ⟨g', cap, _, rfl, hb, setRow_heap w g' cur _ ty _ hg', hnc, hcm, ?_, ?_⟩⟩, rfl, rfl, rfl, by simp, fun k hk => setRow_other w g' k _ hk⟩
    · have := h.1
      simp
      omega
    · simp at hN ⊢
      omega
    · rw [← htake]
      simpa using take_seg cur.toList vs o (n * es) hfit hN

theorem seg_get (cs vs : List Value) (o k : Nat) (h : o ≤ cs.length) : (cs.take o ++ (vs ++ cs.drop (o + vs.length)))[k]? = if k < o then cs[k]? else if k < o + vs.length then vs[k - o]? else cs[k]? := by
  have e0 : (cs.take o).length = o := by rw [List.length_take]; exact Nat.min_eq_left h
  rw [List.getElem?_append, e0]
  split
  · rw [List.getElem?_take, if_pos (by assumption)]
  · rw [List.getElem?_append]
    split
    · rw [if_pos (by omega)]
    · rw [if_neg (by omega), List.getElem?_drop]
      congr 1
      omega

theorem setPart_get (cs new : List V) (off k : Nat) (h : off ≤ cs.length) : (setPart cs off new)[k]? = if k < off then cs[k]? else if k < off + new.length then new[k - off]? else cs[k]? := by
  have e0 : (cs.take off).length = off := by rw [List.length_take]; exact Nat.min_eq_left h
  unfold setPart
  rw [List.getElem?_append, e0]
  split
  · rw [List.getElem?_take, if_pos (by assumption)]
  · rw [List.getElem?_append]
    split
    · rw [if_pos (by omega)]
    · rw [if_neg (by omega), List.getElem?_drop]
      congr 1
      omega

/-- A row with a part of one element stored anew. -/
theorem RowOk.store {ty es : Nat} {v : Value} {xs : List V} (h : RowOk w ok ρ v ty es xs) {g : Nat} (hg : v.ownBlock = some g) {i off : Nat} {e e' : V} (hi : xs[i]? = some e) {new : List V} {nx : List Value} (hnew : CellsOk w ok ρ new nx) (h1 : Ones nx)
    (hfit : off + new.length ≤ es) (he' : e'.cells = setPart e.cells off new) :
    ∃ w', (storeCells ⟨g, i * es + off, none⟩ nx).run P w = .ok () w' ∧ w'.os = w.os ∧ w'.tape = w.tape ∧ w'.output = w.output ∧ w'.heap.size = w.heap.size ∧ (∀ k, k ≠ g → w'.heap[k]? = w.heap[k]?) ∧
      ∀ {ok' : Nat → Prop} {ρ' : Rho}, (∀ k, ok k → ok' k) → (∀ k, ok k → w'.heap[k]? = w.heap[k]?) → rhoLe ρ ρ' → RowOk w' ok' ρ' v ty es (xs.set i e') := by
  obtain ⟨cs, hown, hcs⟩ := h
  have hil := (List.getElem?_eq_some_iff.1 hi).1
  have hel := (hcs i e hi).1
  have hnl := hnew.1
  have hf : i * es + off + nx.length ≤ xs.length * es := by
    have : (i + 1) * es ≤ xs.length * es := Nat.mul_le_mul_right es (by omega)
    rw [Nat.succ_mul] at this
    omega
  obtain ⟨w', r1, r2, r3, r4, r5, r6, r7⟩ := ownsRow_store (P := P) hown hg hf fun v hv => by obtain ⟨j, hj⟩ := List.mem_iff_getElem?.1 hv; exact h1 j v hj
  refine ⟨w', r1, r3, r4, r5, r6, r7, fun hok hw hle => ⟨_, by rw [List.length_set]; exact r2, fun j u hj => ?_⟩⟩
  have hcl := hown.1
  rw [List.getElem?_set] at hj
  have hcell : ∀ k, (cs.take (i * es + off) ++ (nx ++ cs.drop (i * es + off + nx.length)))[k]? = if k < i * es + off then cs[k]? else if k < i * es + off + nx.length then nx[k - (i * es + off)]? else cs[k]? := fun k => seg_get cs nx _ k (by omega)
  by_cases hij : i = j
  · subst hij
    rw [if_pos rfl, if_pos hil] at hj
    cases hj
    refine ⟨by rw [he', setPart_length (by omega)]; exact hel, fun t c hc => ?_⟩
    rw [he', setPart_get _ _ _ _ (by omega)] at hc
    rw [hcell]
    split at hc
    · obtain ⟨x, hx, hx1, hx2⟩ := (hcs i e hi).2 t c hc
      rw [if_pos (by omega)]
      exact ⟨x, hx, hx1, hx2.mono hok hw hle⟩
    · split at hc
      · rw [if_neg (by omega), if_pos (by omega)]
        have hlt := (List.getElem?_eq_some_iff.1 hc).1
        obtain ⟨y, hy⟩ : ∃ y, nx[t - off]? = some y := ⟨nx[t - off]'(by omega), List.getElem?_eq_getElem (by omega)⟩
        refine ⟨y, ?_, h1 _ y hy, (hnew.2 _ c y hc hy).mono hok hw hle⟩
        rw [← hy]
        congr 1
        omega
      · obtain ⟨x, hx, hx1, hx2⟩ := (hcs i e hi).2 t c hc
        rw [if_neg (by omega), if_neg (by omega)]
        exact ⟨x, hx, hx1, hx2.mono hok hw hle⟩
  · rw [if_neg hij] at hj
    refine ⟨(hcs j u hj).1, fun t c hc => ?_⟩
    obtain ⟨x, hx, hx1, hx2⟩ := (hcs j u hj).2 t c hc
    refine ⟨x, ?_, hx1, hx2.mono hok hw hle⟩
    rw [hcell]
    have ht : t < es := by rw [← (hcs j u hj).1]; exact (List.getElem?_eq_some_iff.1 hc).1
    rcases Nat.lt_or_gt_of_ne hij with h | h
    · have : (i + 1) * es ≤ j * es := Nat.mul_le_mul_right es (by omega)
      rw [Nat.succ_mul] at this
      rw [if_neg (by omega), if_neg (by omega)]
      exact hx
    · have : (j + 1) * es ≤ i * es := Nat.mul_le_mul_right es (by omega)
      rw [Nat.succ_mul] at this
      rw [if_pos (by omega)]
      exact hx

theorem setPart_all {cs new : List V} (h : new.length = cs.length) : setPart cs 0 new = new := by
  simp [setPart, ← h]

theorem upd_set {H : Hp} {ids : List Nat} {b : Nat} {B B0 : Blk} (hb : hget H b = some B0) (hn : b ∉ ids) :
    upd (b :: ids) η H ((killH H ids).set b (some B)) b = some B ∧ (∀ k ∈ ids, upd (b :: ids) η H ((killH H ids).set b (some B)) k = none) ∧ ∀ k, k ∉ ids → k ≠ b → upd (b :: ids) η H ((killH H ids).set b (some B)) k = η k := by
  have hlt := hget_lt hb
  have hg : ∀ k, hget ((killH H ids).set b (some B)) k = if k = b then some B else hget (killH H ids) k := by
    intro k
    unfold hget
    rw [List.getElem?_set]
    by_cases h : b = k
    · subst h
      rw [if_pos rfl, if_pos rfl, if_pos (by rw [killH_length]; exact hlt)]
      rfl
    · rw [if_neg h, if_neg (Ne.symm h)]
  refine ⟨?_, fun k hk => ?_, fun k hk hne => ?_⟩
  · unfold upd; rw [if_pos (.inl (by simp)), hg, if_pos rfl]
  · unfold upd
    rw [if_pos (.inl (by simp [hk])), hg, if_neg (by rintro rfl; exact hn hk), hget_kill, if_pos hk]
  · unfold upd
    rw [if_neg]
    rintro (h | ⟨h1, h2⟩)
    · simp at h; rcases h with h | h
      · exact hne h
      · exact hk h
    · rw [List.length_set, killH_length] at h2; omega

theorem hget_set {H : Hp} {b : Nat} {B0 B : Blk} (hb : hget H b = some B0) (k : Nat) : hget (H.set b (some B)) k = if k = b then some B else hget H k := by
  have hlt := hget_lt hb
  unfold hget
  rw [List.getElem?_set]
  by_cases h : b = k
  · subst h
    rw [if_pos rfl, if_pos rfl, if_pos hlt]
    rfl
  · rw [if_neg h, if_neg (Ne.symm h)]

theorem run_storeAt {t : TypeId} {sz : Nat} (hs : szOf P t = some sz) {A : Addr} {x : Value} (hx : x.cells.size = sz) (h : (storeCells A x.cells.toList).run P w = .ok () w') : (Instr.storeAt t (.pointer (some A)) x).run P w = .ok () w' := by
  simp [Instr.storeAt, Instr.sureAddr, storeVar, (run_sizeOf (w := w) hs).1, hx, h]

theorem st_step (hI : Inv imm w ρ η) {o' : Oper} {t : TypeId} {pl va : Operand} (hop : o'.op = .store t pl va) {nk : Bool} {sz : Nat} {X Y : A} (ht : trO P o' = some (.st false sz X Y)) {τ : Env} {H H' : Hp} {v : V}
    (he : (O.st nk sz X Y).evP τ H = some (v, H')) {a : Act} (hr : ∀ n ∈ X.tmps ++ Y.tmps, Rep w (okB imm w ρ) ρ (look τ n) (a.tmps.getD n undef)) (hp : ∀ b ∈ (X.ev τ).tid ++ (Y.ev τ).ids, η b = hget H b) :
    ∃ x w' ρ', StepTo P imm o' a w ρ v H.length H'.length (upd ((X.ev τ).tid ++ (Y.ev τ).ids) η H H') x w' ρ' := by
  unfold trO at ht
  simp only [hop] at ht
  obtain ⟨X', hX, ht⟩ := bindS ht
  obtain ⟨Y', hY, ht⟩ := bindS ht
  obtain ⟨sz', hs, ht⟩ := mapS ht
  cases ht
  have hx := rep_trA hX (τ := τ) (a := a) fun n hn => hr n (by simp [hn])
  have hy := rep_trA hY (τ := τ) (a := a) fun n hn => hr n (by simp [hn])
  simp only [O.evP] at he
  split at he
  · rename_i b es' i off hXe
    rw [hXe] at hx
    generalize hpl : a.eval pl = pv at hx
    have hpb : η b = hget H b := hp b (by simp [hXe, V.tid])
    cases hgood : (Y.ev τ).good sz with
    | false => rw [hgood] at he; cases he
    | true =>
      rw [hgood] at he
      simp only [cond_true] at he
      obtain ⟨g1, g2, g3, g4⟩ := good_ok hgood hy
      cases hx with
      | pt hd h =>
        rename_i A
        split at he
        · rename_i ty es sc xs hB
          obtain ⟨e, hxe, he⟩ := bindS he
          obtain ⟨hc, he⟩ := bindFst he
          cases he
          simp only [Bool.and_eq_true] at hc
          obtain ⟨⟨⟨⟨c0, c1⟩, c2⟩, c3⟩, _⟩ := hc
          obtain rfl := Nat.eq_of_beq_eq_true c1
          have c2 := Nat.le_of_ble_eq_true c2
          have c3 : b ∉ (Y.ev τ).ids := by simpa using c3
          obtain ⟨bv, bty, bes, hal, hBk⟩ := hI.alive hd (by rw [hpb]; exact hB)
          obtain ⟨rfl, rfl, hrow, hsc⟩ := hBk
          obtain ⟨g', n, cap, hbv, rfl⟩ := h bv ty es hal
          have hown : bv.ownBlock = some g' := by rw [hbv]; rfl
          obtain ⟨hE1, hI1⟩ := hI.kill (ws := (Y.ev τ).ids) (η' := fun k => if k ∈ (Y.ev τ).ids then none else η k) (fun b hb => if_pos hb) fun b hb => if_neg hb
          have hal1 : rhoKill ρ (Y.ev τ).ids b = some (some (bv, ty, es)) := by unfold rhoKill; rw [if_neg (fun h => c3 h.1)]; exact hal
          have hfz := frz_ok hI (ids := (Y.ev τ).ids) (H := H) hy fun k hk => ⟨hp k (by simp [hk]), hk⟩
          have hfz := hfz.mono (ok' := okB imm w (rhoKill ρ (Y.ev τ).ids)) (w' := w) (fun k hk => okF_kill hI k hk) (fun _ _ => rfl) (rhoLe.refl _)
          obtain ⟨f1, f2, f3, f4⟩ := good_ok c0 hfz
          have hrow1 := hrow.mono (w' := w) (ρ' := noRho) (ok' := okB imm w (rhoKill ρ (Y.ev τ).ids)) (fun _ _ => rfl) (fun k hk => okF_kill hI k (.inl hk)) (fun _ _ => rfl) (rhoLe.refl _)
          have hel : e.cells.length = es := by obtain ⟨cs, _, hcs⟩ := hrow; exact (hcs i e hxe).1
          have hcl : (bif Nat.beq off 0 && Nat.beq sz es then frz H (Y.ev τ) else .ag (setPart e.cells off (frz H (Y.ev τ)).cells)).cells = setPart e.cells off (frz H (Y.ev τ)).cells := by
            generalize hq : (Nat.beq off 0 && Nat.beq sz es) = q
            cases q with
            | false => rfl
            | true =>
              rw [Bool.and_eq_true] at hq
              obtain rfl := Nat.eq_of_beq_eq_true hq.1
              obtain rfl := Nat.eq_of_beq_eq_true hq.2
              exact (setPart_all (cs := e.cells) (new := (frz H (Y.ev τ)).cells) (by omega)).symm
          obtain ⟨w', r1, r2, r3, r4, r5, r6, r7⟩ := hrow1.store (P := P) hown hxe f3 f4 (by omega) hcl
          obtain ⟨u1, u2, u3⟩ := upd_set (η := η) (B := .row ty es (sc && (Y.ev τ).scal) (xs.set i (bif Nat.beq off 0 && Nat.beq sz es then frz H (Y.ev τ) else .ag (setPart e.cells off (frz H (Y.ev τ)).cells)))) hB c3
          have hst := hI1.stored (B := .row ty es (sc && (Y.ev τ).scal) (xs.set i (bif Nat.beq off 0 && Nat.beq sz es then frz H (Y.ev τ) else .ag (setPart e.cells off (frz H (Y.ev τ)).cells)))) (η' := upd (b :: (Y.ev τ).ids) η H ((killH H (Y.ev τ).ids).set b (some (.row ty es (sc && (Y.ev τ).scal) (xs.set i (bif Nat.beq off 0 && Nat.beq sz es then frz H (Y.ev τ) else .ag (setPart e.cells off (frz H (Y.ev τ)).cells)))))))
            hal1 hown r2 r3 r4 r5 r6 (fun hE => ⟨rfl, rfl, r7 hE.okB (fun k hk => hE.heap k hk.2.1 hk.2.2) (rhoLe.refl _), fun hs' u hu => ?_⟩) u1 fun k hk => ?_
          · refine ⟨undef, w', rhoKill ρ (Y.ev τ).ids, .inr ⟨?_, rfl⟩, .un _, hE1.trans hst.1, ?_, fun k hk hk' => absurd (rhoKill_none hk) hk'⟩
            · have := run_storeAt (P := P) hs g2 r1
              simp only [execOp, hop, Sem.run_bind, hpl, this, Result.andThen_ok, Sem.run_pure]
            · have e1 : (X.ev τ).tid ++ (Y.ev τ).ids = b :: (Y.ev τ).ids := by rw [hXe]; rfl
              rw [e1]
              exact hst.2
          · rw [Bool.and_eq_true] at hs'
            rcases List.mem_or_eq_of_mem_set hu with h1 | h1
            · exact hsc hs'.1 u h1
            · rw [h1]
              have hz := frz_scal (H := H) hs'.2
              unfold V.scal
              rw [hcl, hz]
              unfold setPart
              have he1 := hsc hs'.1 e (List.mem_of_getElem? hxe)
              unfold V.scal at he1
              have hs2 := hs'.2
              unfold V.scal at hs2
              rw [List.all_eq_true] at he1 hs2 ⊢
              intro c hc
              simp only [List.mem_append] at hc
              rcases hc with hc | hc | hc
              · exact he1 c (List.mem_of_mem_take hc)
              · exact hs2 c hc
              · exact he1 c (List.mem_of_mem_drop hc)
          · by_cases hm : k ∈ (Y.ev τ).ids
            · simp only [if_pos hm]; exact u2 k hm
            · simp only [if_neg hm]; exact u3 k hm hk
        · rename_i ty es v0 hB
          obtain ⟨hc, he⟩ := bindFst he
          cases he
          rw [Bool.and_eq_true, Bool.and_eq_true] at hc
          obtain rfl := Nat.eq_of_beq_eq_true hc.1.1
          have c2 := Nat.le_of_ble_eq_true hc.1.2
          obtain ⟨bv, bty, bes, hal, hBk⟩ := hI.alive hd (by rw [hpb]; exact hB)
          obtain ⟨rfl, rfl, hrow, hgv⟩ := hBk
          obtain ⟨g', n, cap, hbv, rfl⟩ := h bv ty es hal
          have hown : bv.ownBlock = some g' := by rw [hbv]; rfl
          have hel : v0.cells.length = es := by obtain ⟨cs, _, hcs⟩ := hrow; exact (hcs 0 v0 rfl).1
          have hcl : (bif Nat.beq off 0 && Nat.beq sz es then Y.ev τ else .ag (setPart v0.cells off (Y.ev τ).cells)).cells = setPart v0.cells off (Y.ev τ).cells := by
            generalize hq : (Nat.beq off 0 && Nat.beq sz es) = q
            cases q with
            | false => rfl
            | true =>
              rw [Bool.and_eq_true] at hq
              obtain rfl := Nat.eq_of_beq_eq_true hq.1
              obtain rfl := Nat.eq_of_beq_eq_true hq.2
              exact (setPart_all (cs := v0.cells) (new := (Y.ev τ).cells) (by omega)).symm
          obtain ⟨w', r1, r2, r3, r4, r5, r6, r7⟩ := hrow.store (P := P) hown (i := 0) rfl g3 g4 (by omega) hcl
          have hst := hI.stored (B := .box ty es (bif Nat.beq off 0 && Nat.beq sz es then Y.ev τ else .ag (setPart v0.cells off (Y.ev τ).cells))) (η' := upd (b :: (Y.ev τ).ids) η H (H.set b (some (.box ty es (bif Nat.beq off 0 && Nat.beq sz es then Y.ev τ else .ag (setPart v0.cells off (Y.ev τ).cells))))))
            hal hown r2 r3 r4 r5 r6 (fun hE => ⟨rfl, rfl, r7 hE.okB (fun k hk => hE.heap k hk.2.1 hk.2.2) (rhoLe.refl _), hgv⟩) ?_ fun k hk => ?_
          · refine ⟨undef, w', ρ, .inr ⟨?_, rfl⟩, .un _, hst.1, ?_, fun k hk hk' => absurd hk hk'⟩
            · have := run_storeAt (P := P) hs g2 r1
              simp only [Nat.zero_mul, Nat.zero_add] at hpl
              simp only [Nat.zero_mul, Nat.zero_add] at this
              simp only [execOp, hop, Sem.run_bind, hpl, this, Result.andThen_ok, Sem.run_pure]
            · have e1 : (X.ev τ).tid ++ (Y.ev τ).ids = b :: (Y.ev τ).ids := by rw [hXe]; rfl
              rw [e1]
              exact hst.2
          · unfold upd
            rw [if_pos (.inl (by simp)), hget_set hB, if_pos rfl]
          · unfold upd
            split
            · rename_i hcond
              rw [hget_set hB, if_neg hk]
              rcases hcond with h1 | ⟨h1, h2⟩
              · simp at h1
                rcases h1 with h1 | h1
                · exact absurd h1 hk
                · exact (hp k (by simp [h1])).symm
              · rw [List.length_set] at h2; omega
            · rfl
        · cases he
  · cases he
end

end Go.Proofs.YtgamkmgdbfeigaaM
