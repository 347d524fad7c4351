/- Each of the machine's operations that does not look at memory does what the program's operation does. -/
import Derived.Test.YtgamkmgdbfeigaaM1
import Derived.Laws.StructEq
import Derived.Laws.Small
import Derived.Laws.Tables
namespace Go.Proofs.YtgamkmgdbfeigaaM
open Go Go.RowKit

section
variable {P : Program} {w : World} {ok : Nat → Prop} {ρ : Rho}

theorem rep_trL {t : TypeId} {x : Value} {v : V} (h : trL P t x = some v) : Rep w ok ρ v x ∧ x.oneCell' = true := by
  unfold trL at h
  split at h <;> try (cases h; done)
  · cases h; exact ⟨.b _, rfl⟩
  · cases h; exact ⟨.i _ _, rfl⟩
  · cases h; exact ⟨.p _ rfl, rfl⟩
  · cases h; exact ⟨.p _ rfl, rfl⟩
  · cases h; exact ⟨.p _ rfl, rfl⟩
  · cases h; exact ⟨.p _ rfl, rfl⟩
  · split at h
    · cases h; exact ⟨.nl _ _, rfl⟩
    · cases h

theorem rep_trLs : ∀ {ts : List TypeId} {vs : List Value} {xs : List V}, trLs P ts vs = some xs →
    xs.length = vs.length ∧ (∀ (i : Nat) (x : V) (v : Value), xs[i]? = some x → vs[i]? = some v → Rep w ok ρ x v) ∧ ∀ (i : Nat) (v : Value), vs[i]? = some v → v.oneCell' = true
  | [], [], xs, h => by cases h; exact ⟨rfl, fun i x v h => by simp at h, fun i v h => by simp at h⟩
  | [], _ :: _, _, h => by cases h
  | _ :: _, [], _, h => by cases h
  | t :: ts, v :: vs, xs, h => by
    unfold trLs at h
    obtain ⟨x, hx, h⟩ := Option.bind_eq_some_iff.1 h
    obtain ⟨r, hr, rfl⟩ := Option.map_eq_some_iff.1 h
    obtain ⟨h1, h2, h3⟩ := rep_trLs hr
    have h4 := rep_trL (w := w) (ok := ok) (ρ := ρ) hx
    refine ⟨by simp [h1], fun i => ?_, fun i => ?_⟩
    · cases i with
      | zero => intro x' v' hx' hv'; simp at hx' hv'; subst hx'; subst hv'; exact h4.1
      | succ i => intro x' v' hx' hv'; exact h2 i x' v' (by simpa using hx') (by simpa using hv')
    · cases i with
      | zero => intro v' hv'; simp at hv'; subst hv'; exact h4.2
      | succ i => intro v' hv'; exact h3 i v' (by simpa using hv')

theorem rep_trV {t : TypeId} {x : Value} {v : V} (h : trV P t x = some v) : Rep w ok ρ v x := by
  unfold trV at h
  split at h
  · obtain ⟨r, hr, rfl⟩ := Option.map_eq_some_iff.1 h
    obtain ⟨h1, h2, h3⟩ := rep_trLs (w := w) (ok := ok) (ρ := ρ) hr
    exact .ag (by simpa using h1) (fun t x hx => h3 t x (by simpa using hx)) fun t c x hc hx => h2 t c x hc (by simpa using hx)
  · exact (rep_trL h).1

theorem rep_trA {t : TypeId} {x : Operand} {A : A} (h : trA P t x = some A) {τ : Env} {a : Act} (hr : ∀ n ∈ A.tmps, Rep w ok ρ (look τ n) (a.tmps.getD n undef)) : Rep w ok ρ (A.ev τ) (a.eval x) := by
  cases x with
  | tmp n => cases h; exact hr n (by simp [A.tmps])
  | const v =>
    obtain ⟨c, hc, rfl⟩ := Option.map_eq_some_iff.1 h
    exact rep_trV hc
  | func f => cases h; exact .fn rfl fun t c x hc => by simp at hc
  | global g => cases h

theorem rep_trAs {τ : Env} {a : Act} : ∀ {ts : List TypeId} {xs : List Operand} {As : List A}, trAs P ts xs = some As → (∀ n ∈ As.flatMap A.tmps, Rep w ok ρ (look τ n) (a.tmps.getD n undef)) →
    As.length = xs.length ∧ ∀ (i : Nat) (A : A) (x : Operand), As[i]? = some A → xs[i]? = some x → Rep w ok ρ (A.ev τ) (a.eval x)
  | [], [], As, h, _ => by cases h; exact ⟨rfl, fun i A x h => by simp at h⟩
  | [], _ :: _, _, h, _ => by cases h
  | _ :: _, [], _, h, _ => by cases h
  | t :: ts, v :: vs, As, h, hr => by
    unfold trAs at h
    obtain ⟨x, hx, h⟩ := Option.bind_eq_some_iff.1 h
    obtain ⟨r, hr', rfl⟩ := Option.map_eq_some_iff.1 h
    obtain ⟨h1, h2⟩ := rep_trAs (τ := τ) (a := a) hr' fun n hn => hr n (by simp [hn])
    have h4 := rep_trA (τ := τ) (a := a) hx fun n hn => hr n (by simp [hn])
    refine ⟨by simp [h1], fun i => ?_⟩
    cases i with
    | zero => intro A' x' hA hx'; simp at hA hx'; subst hA; subst hx'; exact h4
    | succ i => intro A' x' hA hx'; exact h2 i A' x' (by simpa using hA) (by simpa using hx')

theorem Rep.bool {x : Bool} {y : Value} (h : Rep w ok ρ (.b x) y) : y = .bool x := by cases h; rfl
theorem Rep.int {k : IntKind} {n : Int} {y : Value} (h : Rep w ok ρ (.i k n) y) : y = .int k n := by cases h; rfl

theorem run_isAgg {t : TypeId} {g : Bool} (h : isAggT P t = some g) : (isAgg t).run P w = .ok g w := by
  unfold isAggT at h
  obtain ⟨d, hd, rfl⟩ := Option.map_eq_some_iff.1 h
  unfold isAgg
  simp only [Sem.run_bind, run_underlying hd, Result.andThen_ok]
  cases d <;> rfl

theorem run_sizeOf {t : TypeId} {n : Nat} (h : szOf P t = some n) : (sizeOf t).run P w = .ok n w ∧ n ≠ 0 := by
  unfold szOf at h
  obtain ⟨i, hi, h⟩ := Option.bind_eq_some_iff.1 h
  cases h0 : Nat.beq i.size 0 with
  | true => rw [h0] at h; cases h
  | false =>
    rw [h0] at h
    cases h
    refine ⟨by simp [sizeOf, typeInfo, hi], fun h1 => ?_⟩
    rw [h1] at h0; cases h0

/-- A part of some cells, here and there. -/
theorem part_ok {g : Bool} {off sz : Nat} {cs : List V} {vs : Array Value} {v : V} (h : YtgamkmgdbfeigaaM.part g off sz cs = some v) (hl : cs.length = vs.size) (h1 : ∀ (t : Nat) (x : Value), vs[t]? = some x → x.oneCell' = true)
    (hr : ∀ (t : Nat) (c : V) (x : Value), cs[t]? = some c → vs[t]? = some x → Rep w ok ρ c x) {t : TypeId} (ht : isAggT P t = some g) (hs : szOf P t = some sz) :
    ∃ x, (Go.part t vs off).run P w = .ok x w ∧ Rep w ok ρ v x := by
  unfold YtgamkmgdbfeigaaM.part at h
  cases g with
  | true =>
    simp only [cond_true] at h
    cases hb : Nat.ble (off + sz) cs.length with
    | false => rw [hb] at h; cases h
    | true =>
      rw [hb] at h
      cases h
      have hle : off + sz ≤ cs.length := Nat.le_of_ble_eq_true hb
      refine ⟨.agg (vs.extract off (off + sz)), ?_, ?_⟩
      · simp [Go.part, run_isAgg ht, (run_sizeOf (w := w) hs).1]
      · refine .ag (by simp; omega) (fun t x hx => ?_) fun t c x hc hx => ?_
        · rw [Array.getElem?_extract] at hx
          split at hx
          · exact h1 _ _ hx
          · cases hx
        · rw [Array.getElem?_extract] at hx
          rw [List.getElem?_take] at hc
          split at hc
          · rw [List.getElem?_drop] at hc
            split at hx
            · exact hr _ _ _ hc hx
            · cases hx
          · cases hc
  | false =>
    simp only [cond_false] at h
    have hlt : off < cs.length := (List.getElem?_eq_some_iff.1 h).1
    obtain ⟨x, hx⟩ : ∃ x, vs[off]? = some x := ⟨vs[off]'(by omega), by simp⟩
    exact ⟨x, by simp [Go.part, run_isAgg ht, hx], hr _ _ _ h hx⟩

theorem run_intBin {op : BinOp} {k k' : IntKind} {x y : Int} {v : V} (h : intBin op k x y = some v) (hk : (isShift op || decide (k = k')) = true) (t : TypeId) :
    ∃ r, (binOp op t (.int k x) (.int k' y)).run P w = .ok r w ∧ Rep w ok ρ v r := by
  cases op <;> simp only [isShift, Bool.true_or, Bool.false_or, decide_eq_true_eq] at hk <;> simp only [intBin] at h
  case add => cases h; subst hk; exact ⟨_, by simp [binOp, Op.intArith], .i _ _⟩
  case sub => cases h; subst hk; exact ⟨_, by simp [binOp, Op.intArith], .i _ _⟩
  case mul => cases h; subst hk; exact ⟨_, by simp [binOp, Op.intArith], .i _ _⟩
  case quo => split at h <;> cases h; subst hk; rename_i h0; exact ⟨_, by simp [binOp, Op.intDiv, h0], .i _ _⟩
  case rem => split at h <;> cases h; subst hk; rename_i h0; exact ⟨_, by simp [binOp, Op.intDiv, h0], .i _ _⟩
  case and => cases h; subst hk; exact ⟨_, by simp [binOp, Op.intBits], .i _ _⟩
  case or => cases h; subst hk; exact ⟨_, by simp [binOp, Op.intBits], .i _ _⟩
  case xor => cases h; subst hk; exact ⟨_, by simp [binOp, Op.intBits], .i _ _⟩
  case shl => split at h <;> cases h; rename_i h0; exact ⟨_, by simp [binOp, Op.shift, h0], .i _ _⟩
  case shr => split at h <;> cases h; rename_i h0; exact ⟨_, by simp [binOp, Op.shift, h0], .i _ _⟩
  case andNot => cases h; subst hk; exact ⟨_, by simp [binOp, Op.intBits], .i _ _⟩
  case eql => cases h; subst hk; exact ⟨_, by simp [binOp, Op.intCmp], .b _⟩
  case neq => cases h; subst hk; exact ⟨_, by simp [binOp, Op.intCmp], .b _⟩
  case lss => cases h; subst hk; exact ⟨_, by simp [binOp, Op.intCmp], .b _⟩
  case leq => cases h; subst hk; exact ⟨_, by simp [binOp, Op.intCmp], .b _⟩
  case gtr => cases h; subst hk; exact ⟨_, by simp [binOp, Op.intCmp], .b _⟩
  case geq => cases h; subst hk; exact ⟨_, by simp [binOp, Op.intCmp], .b _⟩

theorem run_eqGuard_int (op : BinOp) (t : TypeId) (x y : Operand) (k k' : IntKind) (a b : Int) : (eqGuard op t x y (.int k a) (.int k' b)).run P w = .ok () w := by
  unfold eqGuard
  cases op <;> simp

theorem bin_ok {op : BinOp} {u v r : V} {a b : Value} (h : binV op u v = some r) (ha : Rep w ok ρ u a) (hb : Rep w ok ρ v b) (t : TypeId) (x y : Operand) :
    ∃ z, ((do eqGuard op t x y a b; binOp op t a b : Sem Value)).run P w = .ok z w ∧ Rep w ok ρ r z := by
  unfold binV at h
  split at h
  · obtain rfl := ha.int
    obtain rfl := hb.int
    rename_i k x' k' y'
    cases hc : (isShift op || decide (k = k')) with
    | false => rw [hc] at h; cases h
    | true =>
      rw [hc] at h
      obtain ⟨z, hz, hr⟩ := run_intBin (P := P) (w := w) (ok := ok) (ρ := ρ) h hc t
      exact ⟨z, by simp only [Sem.run_bind, run_eqGuard_int, Result.andThen_ok, hz], hr⟩
  · cases h

theorem un_ok {op : UnOp} {u r : V} {a : Value} (h : unV op u = some r) (ha : Rep w ok ρ u a) : ∃ z, (Op.unary op a).run P w = .ok z w ∧ Rep w ok ρ r z := by
  unfold unV at h
  split at h
  · obtain rfl := ha.int; cases h; exact ⟨_, by simp [Op.unary, Op.intArith], .i _ _⟩
  · obtain rfl := ha.int
    simp only [intBin] at h
    cases h
    exact ⟨_, by simp [Op.unary, Op.intBits], .i _ _⟩
  · obtain rfl := ha.bool; cases h; exact ⟨_, by simp [Op.unary], .b _⟩
  · cases h

def mkV (g : Bool) (xs : List Value) : Value := bif g then .agg xs.toArray else xs.headD undef

theorem eqs_len : ∀ {bs : List Bool} {cs ds : List V} {r : Bool}, eqs bs cs ds = some r → cs.length = bs.length ∧ ds.length = bs.length
  | [], [], [], _, _ => ⟨rfl, rfl⟩
  | b :: bs, c :: cs, d :: ds, r, h => by
    unfold eqs at h
    obtain ⟨a, _, h⟩ := Option.bind_eq_some_iff.1 h
    obtain ⟨z, hz, _⟩ := Option.map_eq_some_iff.1 h
    have := eqs_len hz
    simp [this.1, this.2]
  | [], _ :: _, _, _, h => by simp [eqs] at h
  | [], [], _ :: _, _, h => by simp [eqs] at h
  | _ :: _, [], _, _, h => by simp [eqs] at h
  | _ :: _, _ :: _, [], _, h => by simp [eqs] at h

theorem eqs_append : ∀ {bs bs' : List Bool} {cs ds : List V} {r : Bool}, eqs (bs ++ bs') cs ds = some r →
    ∃ a c, eqs bs (cs.take bs.length) (ds.take bs.length) = some a ∧ eqs bs' (cs.drop bs.length) (ds.drop bs.length) = some c ∧ r = (a && c)
  | [], bs', cs, ds, r, h => ⟨true, r, by simp [eqs], by simpa using h, by simp⟩
  | b :: bs, bs', [], ds, r, h => by simp [eqs] at h
  | b :: bs, bs', c :: cs, [], r, h => by simp [eqs] at h
  | b :: bs, bs', c :: cs, d :: ds, r, h => by
    simp only [List.cons_append, eqs] at h
    obtain ⟨a, ha, h⟩ := Option.bind_eq_some_iff.1 h
    obtain ⟨z, hz, rfl⟩ := Option.map_eq_some_iff.1 h
    obtain ⟨p, q, h1, h2, rfl⟩ := eqs_append hz
    exact ⟨a && p, q, by simp [eqs, ha, h1], by simpa using h2, by cases a <;> simp⟩

/-- Cells, here and there. -/
def CellsOk (w : World) (ok : Nat → Prop) (ρ : Rho) (cs : List V) (xs : List Value) : Prop :=
  cs.length = xs.length ∧ ∀ (t : Nat) (c : V) (x : Value), cs[t]? = some c → xs[t]? = some x → Rep w ok ρ c x

theorem CellsOk.take {cs : List V} {xs : List Value} (h : CellsOk w ok ρ cs xs) (n : Nat) : CellsOk w ok ρ (cs.take n) (xs.take n) := by
  refine ⟨by simp [h.1], fun t c x hc hx => ?_⟩
  rw [List.getElem?_take] at hc hx
  split at hc
  · rename_i hlt; rw [if_pos hlt] at hx; exact h.2 t c x hc hx
  · cases hc

theorem CellsOk.drop {cs : List V} {xs : List Value} (h : CellsOk w ok ρ cs xs) (n : Nat) : CellsOk w ok ρ (cs.drop n) (xs.drop n) := by
  refine ⟨by simp [h.1], fun t c x hc hx => ?_⟩
  rw [List.getElem?_drop] at hc hx
  exact h.2 _ c x hc hx

theorem run_part_mk {g : Bool} {sz off : Nat} {vs : List Value} {t : TypeId} (ht : isAggT P t = some g) (hs : szOf P t = some sz) (hl : off + sz ≤ vs.length) (h1 : g = false → sz = 1) :
    (Go.part t vs.toArray off).run P w = .ok (mkV g ((vs.drop off).take sz)) w := by
  cases g with
  | true =>
    simp only [Go.part, Sem.run_bind, run_isAgg ht, Result.andThen_ok, if_true, (run_sizeOf (w := w) hs).1, Sem.run_pure, mkV, cond_true, List.extract_toArray, List.extract_eq_take_drop]
    congr 4
    omega
  | false =>
    have h := h1 rfl
    subst h
    have hlt : off < vs.length := by omega
    simp only [Go.part, Sem.run_bind, run_isAgg ht, Result.andThen_ok, Bool.false_eq_true, if_false, mkV, cond_false, List.getElem?_toArray, List.getElem?_eq_getElem hlt, Sem.run_pure]
    rw [List.drop_eq_getElem_cons hlt]
    rfl

theorem flatTy_one {n : Nat} {t : TypeId} {bs : List Bool} (h : flatTy P n t = some bs) (hg : isAggT P t = some false) : bs.length = 1 := by
  cases n with
  | zero => cases h
  | succ n =>
    unfold flatTy at h
    unfold isAggT at hg
    split at h
    · cases h; rfl
    · cases h; rfl
    · rename_i fs hu; rw [hu] at hg; cases hg
    · cases h

theorem flat_ok : ∀ (n : Nat) (t : TypeId) (bs : List Bool), flatTy P n t = some bs → ∀ (d : Nat), n ≤ d → ∀ (xs ys : List Value) (cs ds : List V) (r g : Bool), isAggT P t = some g → eqs bs cs ds = some r →
    CellsOk w ok ρ cs xs → CellsOk w ok ρ ds ys → (Op.equalIn d t (mkV g xs) (mkV g ys)).run P w = .ok r w := by
  intro n
  induction n with
  | zero => intro t bs h; cases h
  | succ n ih =>
    intro t bs h d hd xs ys cs ds r g hg he hx hy
    obtain ⟨d, rfl⟩ : ∃ e, d = e + 1 := ⟨d - 1, by omega⟩
    unfold flatTy at h
    split at h
    · rename_i hu
      cases h
      have hg' : g = false := by unfold isAggT at hg; rw [hu] at hg; cases hg; rfl
      subst hg'
      obtain ⟨l1, l2⟩ := eqs_len he
      match cs, ds, l1, l2 with
      | [c], [e], _, _ =>
        match xs, ys, hx.1, hy.1 with
        | [x], [y], _, _ =>
          have h1 := hx.2 0 c x rfl rfl
          have h2 := hy.2 0 e y rfl rfl
          simp only [eqs] at he
          obtain ⟨a, ha, he⟩ := Option.bind_eq_some_iff.1 he
          cases he
          cases c <;> cases e <;> simp only [eq1] at ha <;> try (cases ha; done)
          cases ha
          obtain rfl := h1.bool
          obtain rfl := h2.bool
          simp [mkV, run_equalIn_bool' w d t _ _ hu]
    · rename_i k hu
      cases h
      have hg' : g = false := by unfold isAggT at hg; rw [hu] at hg; cases hg; rfl
      subst hg'
      obtain ⟨l1, l2⟩ := eqs_len he
      match cs, ds, l1, l2 with
      | [c], [e], _, _ =>
        match xs, ys, hx.1, hy.1 with
        | [x], [y], _, _ =>
          have h1 := hx.2 0 c x rfl rfl
          have h2 := hy.2 0 e y rfl rfl
          simp only [eqs] at he
          obtain ⟨a, ha, he⟩ := Option.bind_eq_some_iff.1 he
          cases he
          obtain ⟨k1, n1, rfl⟩ : ∃ k1 n1, c = .i k1 n1 := by cases c <;> first | exact ⟨_, _, rfl⟩ | (cases e <;> cases ha)
          obtain ⟨k2, n2, rfl⟩ : ∃ k2 n2, e = .i k2 n2 := by cases e <;> first | exact ⟨_, _, rfl⟩ | cases ha
          simp only [eq1] at ha
          by_cases hk : k1 = k2
          · subst hk
            simp only [decide_true, cond_true, Option.some.injEq] at ha
            subst ha
            obtain rfl := h1.int
            obtain rfl := h2.int
            simp [mkV, run_equalIn_int w d t _ _ _ _ hu]
          · simp [hk] at ha
    · rename_i fs hu
      have hg' : g = true := by unfold isAggT at hg; rw [hu] at hg; cases hg; rfl
      subst hg'
      cases hst : P.stoodInHeld t with
      | true => rw [hst] at h; cases h
      | false =>
        rw [hst] at h
        simp only [cond_false] at h
        have hfo : P.fieldsOf t = fs := by unfold Program.fieldsOf; rw [hu]
        simp only [mkV, cond_true]
        rw [run_equalIn_agg w d t _ _ (by rw [hfo]; exact hu) hst, hfo]
        have key : ∀ (l : List Field) (off : Nat) (bs : List Bool) (r : Bool), flatFs P (flatTy P n) off l = some bs → eqs bs (cs.drop off) (ds.drop off) = some r → off + bs.length ≤ xs.length → off + bs.length ≤ ys.length →
            (Op.eqFields d xs.toArray ys.toArray l).run P w = .ok r w := by
          intro l
          induction l with
          | nil =>
            intro off bs r hb hr _ _
            cases hb
            cases hc : cs.drop off <;> cases hd' : ds.drop off <;> rw [hc, hd'] at hr <;> simp [eqs] at hr
            subst hr
            rfl
          | cons f l ihl =>
            intro off bs r hb hr hlx hly
            unfold flatFs at hb
            cases hq : (Nat.beq f.offset off && f.name != "_") with
            | false => rw [hq] at hb; cases hb
            | true =>
              rw [hq] at hb
              simp only [cond_true] at hb
              obtain ⟨m, hm, hb⟩ := Option.bind_eq_some_iff.1 hb
              obtain ⟨k, hk, hb⟩ := Option.bind_eq_some_iff.1 hb
              cases hkm : Nat.beq k m.length with
              | false => rw [hkm] at hb; cases hb
              | true =>
                rw [hkm] at hb
                simp only [cond_true] at hb
                obtain ⟨l', hl', rfl⟩ := Option.map_eq_some_iff.1 hb
                obtain rfl := Nat.eq_of_beq_eq_true hkm
                rw [Bool.and_eq_true] at hq
                have ho : f.offset = off := Nat.eq_of_beq_eq_true hq.1
                have hn : f.name ≠ "_" := by simpa using hq.2
                obtain ⟨a, c, ha, hc, rfl⟩ := eqs_append hr
                have hgf : ∃ g', isAggT P f.type = some g' := by
                  cases n with
                  | zero => cases hm
                  | succ n =>
                    unfold flatTy at hm
                    unfold isAggT
                    cases hu' : P.underlying f.type with
                    | none => rw [hu'] at hm; cases hm
                    | some d => exact ⟨_, rfl⟩
                obtain ⟨g', hg'⟩ := hgf
                rw [List.length_append] at hlx hly
                have hone : g' = false → m.length = 1 := fun e => flatTy_one hm (by rw [hg', e])
                have p1 := run_part_mk (w := w) (vs := xs) (off := f.offset) hg' hk (by omega) hone
                have p2 := run_part_mk (w := w) (vs := ys) (off := f.offset) hg' hk (by omega) hone
                have e1 := ih f.type m hm d (by omega) _ _ _ _ a g' hg' ha ((hx.drop off).take m.length) ((hy.drop off).take m.length)
                rw [ho] at p1 p2
                simp only [Op.eqFields, hn, ne_eq, not_false_eq_true, if_true, Sem.run_bind, ho, p1, p2, Result.andThen_ok, e1]
                cases a with
                | false => simp
                | true =>
                  simp only [Bool.not_true, Bool.false_eq_true, if_false, Bool.true_and]
                  exact ihl (off + m.length) l' c hl' (by rw [List.drop_drop, List.drop_drop] at hc; rw [Nat.add_comm] at hc; simpa [Nat.add_comm] using hc) (by omega) (by omega)
        obtain ⟨l1, l2⟩ := eqs_len he
        exact key fs.toList 0 bs r h (by simpa using he) (by rw [← hx.1]; omega) (by rw [← hy.1]; omega)
    · cases h

theorem cellsIf_ok {g : Bool} {v : V} {x : Value} {cs : List V} (h : cellsIf g v = some cs) (hr : Rep w ok ρ v x) : ∃ xs, x = mkV g xs ∧ CellsOk w ok ρ cs xs := by
  cases g with
  | true =>
    cases v <;> simp only [cellsIf] at h <;> try (cases h; done)
    cases h
    cases hr with
    | ag hl h1 h => exact ⟨_, rfl, by simpa using hl, fun t c x hc hx => h t c x hc (by simpa using hx)⟩
  | false =>
    have : cs = [v] := by cases v <;> simp only [cellsIf] at h <;> cases h <;> rfl
    subst this
    refine ⟨[x], rfl, rfl, fun t c y hc hy => ?_⟩
    cases t with
    | zero => simp at hc hy; subst hc; subst hy; exact hr
    | succ t => simp at hc

theorem run_len_slice {t ty e : TypeId} (h : elemOfS P t = some e) (a : Option Addr) (n c : Nat) : (Builtin.len_ #[t] ty #[.slice a n c]).run P w = .ok (.int .i64 n) w := by
  unfold elemOfS at h
  split at h
  · rename_i hu; simp [Builtin.len_, run_underlying hu, goInt]
  · cases h

def lenV : V → Option Int
  | .rf _ _ _ ln => some (ln : Int)
  | .sl _ xs => some (xs.length : Int)
  | .nl _ _ => some 0
  | _ => none

theorem Rep.sliceLen {u : V} {x : Value} {n : Int} (h : Rep w ok ρ u x) (hu : lenV u = some n) : ∃ a m c, x = .slice a m c ∧ (m : Int) = n := by
  cases h <;> simp [lenV] at hu
  case sl _ hn _ _ _ _ _ => subst hu; exact ⟨_, _, _, rfl, by rw [hn]⟩
  case nl => subst hu; exact ⟨_, _, _, rfl, rfl⟩
  case rf => subst hu; exact ⟨_, _, _, rfl, rfl⟩

theorem setPart_length {cs new : List V} {off : Nat} (h : off + new.length ≤ cs.length) : (setPart cs off new).length = cs.length := by
  simp [setPart]; omega

/-- A slice's index, here and there. -/
theorem ia_ok {t e : TypeId} (hu : P.underlying t = some (.slice e)) {sz : Nat} (hs : szOf P e = some sz) {r : V} {H H' : Hp} {τ : Env} {X I : A} {x y : Value}
    (he : (O.ia sz X I).evP τ H = some (r, H')) (hx : Rep w ok ρ (X.ev τ) x) (hy : Rep w ok ρ (I.ev τ) y) :
    H' = H ∧ ∃ z, (Instr.indexAt t x y).run P w = .ok z w ∧ Rep w ok ρ r z := by
  simp only [O.evP] at he
  split at he
  · rename_i b es' off ln k n hX hI
    rw [hI] at hy
    obtain rfl := hy.int
    rw [hX] at hx
    cases hb : Nat.beq sz es' with
    | false => rw [hb] at he; cases he
    | true =>
      rw [hb] at he
      obtain rfl := Nat.eq_of_beq_eq_true hb
      simp only [cond_true] at he
      split at he
      · rename_i hn
        cases he
        cases hx with
        | rf hd hc ha h =>
          obtain ⟨A, rfl⟩ := ha (by omega)
          refine ⟨rfl, .pointer (some (A.add (n.toNat * sz))), ?_, ?_⟩
          · simp [Instr.indexAt, asIntOf, run_underlying hu, (run_sizeOf (w := w) hs).1, hn]
          · refine .pt hd fun v ty es'' hv => ?_
            obtain ⟨rfl, hr⟩ := h v ty es'' hv
            rcases hr with ⟨g, n', cap, rfl, h1, h2, h3⟩ | ⟨_, _, h0, _⟩ | ⟨h0, _⟩
            · cases h3
              refine ⟨g, n', cap, rfl, ?_⟩
              simp only [Addr.add]
              split
              · rename_i h4
                congr 1
                rw [Nat.add_mul, h4]
                simp
              · congr 1
                rw [Nat.add_mul, Nat.add_zero]
            · omega
            · omega
      · cases he
  · rename_i es' xs k n hX hI
    rw [hI] at hy
    obtain rfl := hy.int
    rw [hX] at hx
    cases hb : Nat.beq sz es' with
    | false => rw [hb] at he; cases he
    | true =>
      rw [hb] at he
      obtain rfl := Nat.eq_of_beq_eq_true hb
      simp only [cond_true] at he
      split at he
      · rename_i hn
        obtain ⟨e', he', he⟩ := Option.map_eq_some_iff.1 he
        cases he
        cases hx with
        | sl g hn' hc hl ha h1 h =>
          have hlt : n.toNat < xs.length := by omega
          have hes := hl _ _ he'
          obtain ⟨A, rfl, hok, hcell⟩ := ha (by omega)
          refine ⟨rfl, .pointer (some (A.add (n.toNat * sz))), ?_, ?_⟩
          · subst hn'
            simp [Instr.indexAt, asIntOf, run_underlying hu, (run_sizeOf (w := w) hs).1, hn]
          · refine .ip (g n.toNat) (fun _ => by rw [add_block]; exact hok) (fun t ht => ?_) (fun t ht => h1 _ _ (by omega) (by omega)) fun t c hc' => h _ _ _ _ he' hc'
            rw [Addr.add_add]
            exact hcell _ _ (by omega) (by omega)
      · cases he
  · cases he

theorem optA_ok {τ : Env} {a : Act} {d n : Nat} {X : Option A} {x : Option Operand} (ht : trOptA P x = some X) (h : optA τ d X = some n) (hr : ∀ m ∈ optTmps X, Rep w ok ρ (look τ m) (a.tmps.getD m undef)) :
    (x = none ∧ n = d) ∨ ∃ xo k, x = some xo ∧ a.eval xo = .int k n := by
  cases x with
  | none => cases ht; cases h; exact .inl ⟨rfl, rfl⟩
  | some xo =>
    right
    obtain ⟨A, hA, rfl⟩ := Option.map_eq_some_iff.1 ht
    have h1 := rep_trA hA hr
    simp only [optA, V.asNat] at h
    split at h
    · rename_i k m hm
      rw [hm] at h1
      split at h
      · rename_i h0
        cases h
        exact ⟨xo, k, rfl, by rw [h1.int, Int.toNat_of_nonneg h0]⟩
      · cases h
    · cases h

theorem run_sub {t e : TypeId} (hu : P.underlying t = some (.slice e)) {sz : Nat} (hs : szOf P e = some sz) (a : Option Addr) (n c l h : Nat) (x y : Option Value) (h1 : l ≤ h) (h2 : h ≤ c)
    (hx : (x = none ∧ l = 0) ∨ ∃ k, x = some (.int k l)) (hy : (y = none ∧ h = n) ∨ ∃ k, y = some (.int k h)) :
    (Instr.sliceAt t (.slice a n c) x y none).run P w = .ok (.slice (if c = l then a else a.map (·.add (l * sz))) (h - l) (c - l)) w := by
  rcases hx with ⟨rfl, rfl⟩ | ⟨k, rfl⟩ <;> rcases hy with ⟨rfl, rfl⟩ | ⟨k', rfl⟩ <;>
    simp [Instr.sliceAt, Instr.slice, Instr.sliceBounds, Instr.sliceBound, asIntOf, run_underlying hu, (run_sizeOf (w := w) hs).1, h1, h2]

theorem sub_ok {t e : TypeId} (hu : P.underlying t = some (.slice e)) {sz : Nat} (hs : szOf P e = some sz) {r : V} {H H' : Hp} {τ : Env} {X : A} {L U : Option A} {x : Value} {l u : Option Operand} {a : Act}
    (he : (O.sub sz X L U).evP τ H = some (r, H')) (hx : Rep w ok ρ (X.ev τ) x) (hL : trOptA P l = some L) (hU : trOptA P u = some U) (hr : ∀ m ∈ optTmps L ++ optTmps U, Rep w ok ρ (look τ m) (a.tmps.getD m undef)) :
    H' = H ∧ ∃ z, (Instr.sliceAt t x (l.map a.eval) (u.map a.eval) none).run P w = .ok z w ∧ Rep w ok ρ r z := by
  have fin : ∀ {i d : Nat} {D : Option A} {q : Option Operand}, ((q = none ∧ i = d) ∨ ∃ xo k, q = some xo ∧ a.eval xo = .int k i) → (q.map a.eval = none ∧ i = d) ∨ ∃ k, q.map a.eval = some (.int k i) := by
    intro i d D q h
    rcases h with ⟨rfl, rfl⟩ | ⟨xo, k, rfl, hk⟩
    · exact .inl ⟨rfl, rfl⟩
    · exact .inr ⟨k, by simp [hk]⟩
  simp only [O.evP] at he
  split at he
  · rename_i b es off ln hX
    rw [hX] at hx
    obtain ⟨i, hi, he1⟩ := Option.bind_eq_some_iff.1 he
    obtain ⟨j, hj, he2⟩ := Option.bind_eq_some_iff.1 he1
    clear he he1
    split at he2
    · rename_i hij
      obtain ⟨rfl, hij⟩ := hij
      cases he2
      cases hx with
      | rf hd hc ha h =>
        rename_i A c
        have h1 := optA_ok (w := w) (ok := ok) (ρ := ρ) (a := a) hL hi fun m hm => hr m (by simp [hm])
        have h2 := optA_ok (w := w) (ok := ok) (ρ := ρ) (a := a) hU hj fun m hm => hr m (by simp [hm])
        refine ⟨rfl, _, run_sub hu hs A ln c i j _ _ hij.1 (by omega) (fin (D := L) h1) (fin (D := U) h2), ?_⟩
        refine .rf hd (by omega) (fun h0 => ?_) fun v ty es' hv => ?_
        · obtain ⟨A', rfl⟩ := ha (by omega)
          split <;> exact ⟨_, rfl⟩
        · obtain ⟨rfl, hr'⟩ := h v ty es' hv
          refine ⟨rfl, ?_⟩
          rcases hr' with ⟨g, n', cap, rfl, g1, g2, g3⟩ | ⟨rfl, rfl, rfl, g3⟩ | ⟨rfl, g1⟩
          · cases g3
            by_cases h0 : cap - off = i
            · rw [if_pos h0]
              by_cases h1 : off + i = 0
              · refine .inl ⟨g, n', cap, rfl, by omega, g2, ?_⟩
                obtain ⟨rfl, rfl⟩ : off = 0 ∧ i = 0 := by omega
                simp
              · exact .inr (.inr ⟨by omega, h1⟩)
            · rw [if_neg h0]
              refine .inl ⟨g, n', cap, rfl, by omega, g2, ?_⟩
              have e1 : (⟨g, off * es', none⟩ : Addr).add (i * es') = ⟨g, (off + i) * es', none⟩ := by
                simp only [Addr.add]
                split
                · rename_i h4; rw [Nat.add_mul, h4]; simp
                · rw [Nat.add_mul]
              simp only [Option.map_some, e1]
              congr 1
              omega
          · cases g3
            obtain ⟨rfl, rfl⟩ : i = 0 ∧ j = 0 := by omega
            exact .inr (.inl ⟨rfl, rfl, rfl, by simp⟩)
          · obtain ⟨rfl, rfl⟩ : i = 0 ∧ j = 0 := by omega
            exact .inr (.inr ⟨rfl, by omega⟩)
    · cases he2
  · rename_i es xs hX
    rw [hX] at hx
    obtain ⟨i, hi, he1⟩ := Option.bind_eq_some_iff.1 he
    obtain ⟨j, hj, he2⟩ := Option.bind_eq_some_iff.1 he1
    clear he he1
    split at he2
    · rename_i hij
      obtain ⟨rfl, hij⟩ := hij
      cases he2
      cases hx with
      | sl g hn hc hl ha h1' h =>
        rename_i A n c
        subst hn
        have h1 := optA_ok (w := w) (ok := ok) (ρ := ρ) (a := a) hL hi fun m hm => hr m (by simp [hm])
        have h2 := optA_ok (w := w) (ok := ok) (ρ := ρ) (a := a) hU hj fun m hm => hr m (by simp [hm])
        refine ⟨rfl, _, run_sub hu hs A xs.length c i j _ _ hij.1 (by omega) (fin (D := L) h1) (fin (D := U) h2), ?_⟩
        have sel : ∀ (q : Nat) (e : V), ((xs.drop i).take (j - i))[q]? = some e → xs[i + q]? = some e ∧ q < j - i := by
          intro q e hq
          rw [List.getElem?_take] at hq
          split at hq
          · rw [List.getElem?_drop] at hq; exact ⟨hq, by assumption⟩
          · cases hq
        refine .sl (fun q t => g (i + q) t) (by simp; omega) (by omega) (fun q e hq => hl _ _ (sel q e hq).1) (fun h0 => ?_) (fun q t hq ht => h1' _ _ (by omega) ht) fun q t e c' hq hc' => h _ _ _ _ (sel q e hq).1 hc'
        obtain ⟨A', rfl, hok, hcell⟩ := ha (by omega)
        refine ⟨if c = i then A' else A'.add (i * sz), by split <;> simp, by split <;> simp [add_block, hok], fun q t hq ht => ?_⟩
        rw [if_neg (by omega), Addr.add_add]
        have := hcell (i + q) t (by omega) ht
        rwa [Nat.add_mul, Nat.add_assoc] at this
    · cases he2
  · cases he

theorem foldl_set (vs : List Value) : ∀ (off k0 : Nat) (cells : Array Value), off + k0 + vs.length ≤ cells.size →
    ((vs.toArray.zipIdx k0).foldl (fun cs x => cs.setIfInBounds (off + x.2) x.1) cells).toList = cells.toList.take (off + k0) ++ (vs ++ cells.toList.drop (off + k0 + vs.length)) := by
  intro off k0 cells
  rw [← Array.foldl_toList]
  simp only [Array.toList_zipIdx]
  induction vs generalizing k0 cells with
  | nil => intro _; simp
  | cons v vs ih =>
    intro h
    simp only [List.length_cons] at h
    simp only [List.zipIdx_cons, List.foldl_cons]
    rw [ih (k0 + 1) (cells.setIfInBounds (off + k0) v) (by simp; omega)]
    simp only [Array.toList_setIfInBounds, List.length_cons]
    have hlt : off + k0 < cells.toList.length := by simp; omega
    rw [List.take_set, List.drop_set_of_lt (by omega)]
    rw [show off + (k0 + 1) = off + k0 + 1 by omega, List.take_succ_eq_append_getElem hlt, List.set_append]
    have e0 : (cells.toList.take (off + k0)).length = off + k0 := by rw [List.length_take]; exact Nat.min_eq_left (by omega)
    rw [e0, if_neg (by omega), Nat.sub_self]
    simp only [List.set_cons_zero, List.append_assoc, List.cons_append, List.nil_append]
    rw [show off + k0 + 1 + vs.length = off + k0 + (vs.length + 1) by omega]

theorem oneCell_cells {x : Value} (h : x.oneCell' = true) : x.cells = #[x] := by cases x <;> first | rfl | cases h

theorem one_cells {v : V} {x : Value} (h : Rep w ok ρ v x) (hv : v.cells = [v]) (hx : x.cells = #[x]) : CellsOk w ok ρ v.cells x.cells.toList := by
  rw [hv, hx]
  refine ⟨rfl, fun t c y hc hy => ?_⟩
  cases t with
  | zero => simp at hc hy; subst hc; subst hy; exact h
  | succ t => simp at hc

theorem V.cells_ok {v : V} {x : Value} (h : Rep w ok ρ v x) (hl : v.cells.length = x.cells.size) : CellsOk w ok ρ v.cells x.cells.toList := by
  cases h with
  | un => exact ⟨by simpa using hl, fun t c y hc => by simp [V.cells] at hc⟩
  | ag hl' h1 h => exact ⟨by simpa using hl, fun t c y hc hy => h t c y hc (by simpa [Value.cells] using hy)⟩
  | p _ h1 => exact one_cells (.p _ h1) rfl (oneCell_cells h1)
  | b x => exact one_cells (.b x) rfl rfl
  | i k n => exact one_cells (.i k n) rfl rfl
  | tu hl' h => exact one_cells (.tu hl' h) rfl rfl
  | sl g hn hc he ha h1 h => exact one_cells (.sl g hn hc he ha h1 h) rfl rfl
  | nl ty es => exact one_cells (.nl ty es) rfl rfl
  | rf hd hc ha h => exact one_cells (.rf hd hc ha h) rfl rfl
  | pt hd h => exact one_cells (.pt hd h) rfl rfl
  | ip f ho hc h1 h => exact one_cells (.ip f ho hc h1 h) rfl rfl
  | fn hl' h => exact one_cells (.fn hl' h) rfl rfl

/-- A value with cells lies in cells, each of one cell, unless it is a tuple. -/
theorem Rep.size {v : V} {x : Value} (h : Rep w ok ρ v x) (hv : v ≠ .un) : v.cells.length = x.cells.size := by
  cases h with
  | un => exact absurd rfl hv
  | ag hl' h1 h => exact hl'
  | p _ h1 => rw [oneCell_cells h1]; rfl
  | _ => rfl

theorem Rep.ones {v : V} {x : Value} (h : Rep w ok ρ v x) (hv : v ≠ .un) (ht : ∀ cs, v ≠ .tu cs) : ∀ y ∈ x.cells.toList, y.oneCell' = true := by
  cases h with
  | un => exact absurd rfl hv
  | tu => exact absurd rfl (ht _)
  | ag hl' h1 h =>
    intro y hy
    obtain ⟨t, hlt, rfl⟩ := List.mem_iff_getElem.1 hy
    exact h1 t _ (by simp [Value.cells])
  | p _ h1 => rw [oneCell_cells h1]; simpa using h1
  | _ => simp [Value.cells, Value.oneCell']
end

end Go.Proofs.YtgamkmgdbfeigaaM
