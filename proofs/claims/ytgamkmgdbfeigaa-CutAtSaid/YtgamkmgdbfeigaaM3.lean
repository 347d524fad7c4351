/- The operations that do not look at memory, all at once: what the machine makes of one, the program makes, too. -/
import Derived.Test.YtgamkmgdbfeigaaM2
import Derived.DataElems
namespace Go.Proofs.YtgamkmgdbfeigaaM
open Go Go.RowKit

section
variable {P : Program} {w : World} {ok : Nat → Prop} {ρ : Rho}

/-- Cells that are one cell each. -/
def Ones (xs : List Value) : Prop := ∀ (t : Nat) (x : Value), xs[t]? = some x → x.oneCell' = true

theorem CellsOk.set {cs : List V} {xs : List Value} {new : List V} {nx : List Value} {off : Nat} (h : CellsOk w ok ρ cs xs) (hn : CellsOk w ok ρ new nx) (hl : off + new.length ≤ cs.length) :
    CellsOk w ok ρ (setPart cs off new) (xs.take off ++ (nx ++ xs.drop (off + nx.length))) := by
  have e1 := h.1
  have e2 := hn.1
  refine ⟨by simp [setPart]; omega, fun t c x hc hx => ?_⟩
  unfold setPart at hc
  have l1 : (cs.take off).length = off := by rw [List.length_take]; exact Nat.min_eq_left (by omega)
  have l2 : (xs.take off).length = off := by rw [List.length_take]; exact Nat.min_eq_left (by omega)
  rw [List.getElem?_append] at hc hx
  rw [l1] at hc
  rw [l2] at hx
  by_cases h1 : t < off
  · rw [if_pos h1, List.getElem?_take, if_pos h1] at hc hx
    exact h.2 t c x hc hx
  · rw [if_neg h1] at hc hx
    rw [List.getElem?_append] at hc hx
    by_cases h2 : t - off < new.length
    · rw [if_pos h2] at hc
      rw [if_pos (by omega)] at hx
      exact hn.2 _ c x hc hx
    · rw [if_neg h2, List.getElem?_drop] at hc
      rw [if_neg (by omega), List.getElem?_drop, ← e2] at hx
      exact h.2 _ c x hc hx

theorem Ones.set {xs nx : List Value} {off : Nat} (h : Ones xs) (hn : Ones nx) : Ones (xs.take off ++ (nx ++ xs.drop (off + nx.length))) := by
  intro t x hx
  have hx' := List.mem_of_getElem? hx
  simp only [List.mem_append] at hx'
  rcases hx' with hx' | hx' | hx'
  · obtain ⟨i, hi⟩ := List.mem_iff_getElem?.1 (List.mem_of_mem_take hx'); exact h _ _ hi
  · obtain ⟨i, hi⟩ := List.mem_iff_getElem?.1 hx'; exact hn _ _ hi
  · obtain ⟨i, hi⟩ := List.mem_iff_getElem?.1 (List.mem_of_mem_drop hx'); exact h _ _ hi

theorem good_ok {v : V} {sz : Nat} {x : Value} (h : v.good sz = true) (hr : Rep w ok ρ v x) : v.cells.length = sz ∧ x.cells.size = sz ∧ CellsOk w ok ρ v.cells x.cells.toList ∧ Ones x.cells.toList := by
  have hu : v ≠ .un := by rintro rfl; cases h
  have ht : ∀ cs, v ≠ .tu cs := by rintro cs rfl; cases h
  have hl : v.cells.length = sz := by
    unfold V.good at h
    split at h
    · cases h
    · cases h
    · exact Nat.eq_of_beq_eq_true h
  have hs := hr.size hu
  refine ⟨hl, by omega, V.cells_ok hr hs, fun t x hx => hr.ones hu ht x (List.mem_of_getElem? hx)⟩

theorem fill_ok {τ : Env} {a : Act} {place : Nat → Option (Nat × Nat)} {ty : Nat → Option TypeId} : ∀ {parts : List (Nat × Operand)} {l : List (Nat × Nat × A)} {cs r : List V} {vs : Array Value},
    bldParts P place ty parts = some l → (∀ n ∈ l.flatMap (fun q => q.2.2.tmps), Rep w ok ρ (look τ n) (a.tmps.getD n undef)) → CellsOk w ok ρ cs vs.toList → Ones vs.toList → bldV τ cs l = some r →
    ∃ vs', Instr.fill place vs (parts.map fun (i, x) => (i, a.eval x)) = some vs' ∧ CellsOk w ok ρ r vs'.toList ∧ Ones vs'.toList
  | [], l, cs, r, vs, hp, _, hc, h1, hb => by
    cases hp
    cases hb
    exact ⟨vs, rfl, hc, h1⟩
  | (i, x) :: parts, l, cs, r, vs, hp, hr, hc, h1, hb => by
    unfold bldParts at hp
    obtain ⟨q, hq, hp⟩ := Option.bind_eq_some_iff.1 hp
    obtain ⟨t, ht, hp⟩ := Option.bind_eq_some_iff.1 hp
    obtain ⟨A, hA, hp⟩ := Option.bind_eq_some_iff.1 hp
    obtain ⟨l', hl', rfl⟩ := Option.map_eq_some_iff.1 hp
    obtain ⟨off, sz⟩ := q
    have hx := rep_trA hA (τ := τ) (a := a) fun n hn => hr n (by simp [hn])
    simp only [bldV] at hb
    cases hbb : ((A.ev τ).good sz && Nat.ble (off + sz) cs.length) with
    | false => rw [hbb] at hb; cases hb
    | true =>
      rw [hbb] at hb
      rw [Bool.and_eq_true] at hbb
      obtain ⟨e1, e3, e4, e5⟩ := good_ok hbb.1 hx
      have e2 := Nat.le_of_ble_eq_true hbb.2
      simp only [cond_true] at hb
      have hsz : cs.length = vs.size := by simpa using hc.1
      have hf := foldl_set (a.eval x).cells.toList off 0 vs (by simp; omega)
      simp only [Nat.add_zero, Array.toArray_toList] at hf
      obtain ⟨vs', g1, g2, g3⟩ := fill_ok (vs := (Array.foldl (fun cs x => cs.setIfInBounds (off + x.2) x.1) vs (a.eval x).cells.zipIdx)) hl' (fun n hn => hr n (by simp [hn])) (by
          rw [hf]
          exact hc.set e4 (by omega)) (by rw [hf]; exact h1.set e5) hb
      refine ⟨vs', ?_, g2, g3⟩
      simp only [List.map_cons, Instr.fill, hq]
      rw [if_neg (by simp; omega)]
      exact g1

theorem bld_ok {o' : Oper} {t : TypeId} {parts : Array (Nat × Operand)} (ho : o'.op = .build t parts) {o : O} (ht : trO P o' = some o) {τ : Env} {H H' : Hp} {v : V} (he : o.evP τ H = some (v, H')) {a : Act}
    (hr : ∀ n ∈ o.tmps, Rep w ok ρ (look τ n) (a.tmps.getD n undef)) : H' = H ∧ ∃ x, (Instr.build t (parts.map fun (i, x) => (i, a.eval x))).run P w = .ok x w ∧ Rep w ok ρ v x := by
  unfold trO at ht
  simp only [ho] at ht
  obtain ⟨z, hz, ht⟩ := Option.bind_eq_some_iff.1 ht
  unfold zeroOf at hz
  obtain ⟨it, hit, hz⟩ := Option.bind_eq_some_iff.1 hz
  obtain ⟨zv, hzv, hz⟩ := Option.bind_eq_some_iff.1 hz
  have hzr := rep_trV (w := w) (ok := ok) (ρ := ρ) hz
  have hzc : CellsOk w ok ρ z.cells zv.cells.toList ∧ Ones zv.cells.toList := by
    have hu : z ≠ .un := by rintro rfl; unfold trV at hz; split at hz; · obtain ⟨_, _, h⟩ := Option.map_eq_some_iff.1 hz; cases h
                            unfold trL at hz; split at hz <;> try (cases hz; done)
                            split at hz <;> cases hz
    have ht : ∀ cs, z ≠ .tu cs := by rintro cs rfl; unfold trV at hz; split at hz; · obtain ⟨_, _, h⟩ := Option.map_eq_some_iff.1 hz; cases h
                                     unfold trL at hz; split at hz <;> try (cases hz; done)
                                     split at hz <;> cases hz
    exact ⟨V.cells_ok hzr (hzr.size hu), fun t x hx => hzr.ones hu ht x (List.mem_of_getElem? hx)⟩
  split at ht
  · rename_i fs hu
    obtain ⟨pl, hpl, ht⟩ := Option.bind_eq_some_iff.1 ht
    obtain ⟨l, hl, rfl⟩ := Option.map_eq_some_iff.1 ht
    simp only [O.evP] at he
    obtain ⟨cs, hcs, he⟩ := Option.map_eq_some_iff.1 he
    cases he
    obtain ⟨vs', g1, g2, g3⟩ := fill_ok (a := a) hl (by simpa [O.tmps] using hr) hzc.1 hzc.2 hcs
    refine ⟨rfl, .agg vs', run_build w t _ vs' ?_, .ag (by simpa using g2.1) (fun t x hx => g3 t x (by simpa using hx)) fun t c x hc hx => g2.2 t c x hc (by simpa using hx)⟩
    unfold Program.built
    simp only [hit, hu, hzv, hpl]
    rw [Array.toList_map]
    exact g1
  · rename_i n e hu
    obtain ⟨ie, hie, ht⟩ := Option.bind_eq_some_iff.1 ht
    obtain ⟨l, hl, rfl⟩ := Option.map_eq_some_iff.1 ht
    simp only [O.evP] at he
    obtain ⟨cs, hcs, he⟩ := Option.map_eq_some_iff.1 he
    cases he
    obtain ⟨vs', g1, g2, g3⟩ := fill_ok (a := a) hl (by simpa [O.tmps] using hr) hzc.1 hzc.2 hcs
    refine ⟨rfl, .agg vs', run_build w t _ vs' ?_, .ag (by simpa using g2.1) (fun t x hx => g3 t x (by simpa using hx)) fun t c x hc hx => g2.2 t c x hc (by simpa using hx)⟩
    unfold Program.built
    simp only [hit, hu, hzv, hie]
    rw [Array.toList_map]
    exact g1
  · cases ht

theorem bindS {α β : Type} {x : Option α} {f : α → Option β} {r : β} (h : x.bind f = some r) : ∃ a, x = some a ∧ f a = some r := Option.bind_eq_some_iff.1 h
theorem mapS {α β : Type} {x : Option α} {f : α → β} {r : β} (h : x.map f = some r) : ∃ a, x = some a ∧ f a = r := Option.map_eq_some_iff.1 h

theorem addr_add (g o n : Nat) : (⟨g, o, none⟩ : Addr).add n = ⟨g, o + n, none⟩ := by
  unfold Addr.add; split
  · rename_i h; subst h; rfl
  · rfl

def ptAdd (n : Nat) : V → Option V
  | .pt b es i o => some (.pt b es i (o + n))
  | .ip cs => some (.ip (cs.drop n))
  | _ => none

theorem Rep.addrOf {v v' : V} {x : Value} {n : Nat} (h : Rep w ok ρ v x) (hv : ptAdd n v = some v') : ∃ A, x = .pointer (some A) := by
  cases h <;> first | (cases hv; done) | exact ⟨_, rfl⟩

theorem pt_add {v v' : V} {A : Addr} {n : Nat} (h : Rep w ok ρ v (.pointer (some A))) (hv : ptAdd n v = some v') :
    Rep w ok ρ v' (.pointer (some (A.add n))) := by
  cases h with
  | pt hd h =>
    cases hv
    refine .pt hd fun v ty es' hv => ?_
    obtain ⟨g, m, cap, h1, rfl⟩ := h v ty es' hv
    exact ⟨g, m, cap, h1, by rw [addr_add, Nat.add_assoc]⟩
  | ip f ho hc h1 h =>
    cases hv
    refine .ip (fun t => f (n + t)) (fun h0 => by rw [add_block]; exact ho (by simp at h0; omega)) (fun t ht => ?_) (fun t ht => h1 _ (by simp at ht; omega)) fun t c hc' => h _ _ (by rwa [List.getElem?_drop] at hc')
    rw [Addr.add_add]
    exact hc _ (by simp at ht; omega)
  | un => cases hv
  | p => cases hv

theorem pure_step {o' : Oper} {o : O} (ht : trO P o' = some o) {τ : Env} {H H' : Hp} {v : V} (hk : o.isPure = true) (he : o.evP τ H = some (v, H')) {a : Act}
    (hr : ∀ n ∈ o.tmps, Rep w ok ρ (look τ n) (a.tmps.getD n undef)) : H' = H ∧ ∃ x, (execOp a.eval o').run P w = .ok (.value x) w ∧ Rep w ok ρ v x := by
  have ht0 := ht
  unfold trO at ht
  cases hop : o'.op <;> simp only [hop] at ht
  case move x =>
    obtain ⟨X, hX, rfl⟩ := mapS ht
    cases he
    exact ⟨rfl, _, by simp [execOp, hop], rep_trA hX hr⟩
  case assign x =>
    obtain ⟨X, hX, rfl⟩ := mapS ht
    cases he
    exact ⟨rfl, _, by simp [execOp, hop], rep_trA hX hr⟩
  case pick c x y =>
    obtain ⟨C, hC, ht⟩ := bindS ht
    obtain ⟨X, hX, ht⟩ := bindS ht
    obtain ⟨Y, hY, rfl⟩ := mapS ht
    have h1 := rep_trA hC (τ := τ) (a := a) fun n hn => hr n (by simp [O.tmps, hn])
    have h2 := rep_trA hX (τ := τ) (a := a) fun n hn => hr n (by simp [O.tmps, hn])
    have h3 := rep_trA hY (τ := τ) (a := a) fun n hn => hr n (by simp [O.tmps, hn])
    simp only [O.evP] at he
    split at he
    · rename_i t hc
      rw [hc] at h1
      cases he
      refine ⟨rfl, if t then a.eval x else a.eval y, by simp [execOp, hop, h1.bool, asBool], ?_⟩
      cases t
      · exact h3
      · exact h2
    · cases he
  case build t parts =>
    obtain ⟨h1, x, h2, h3⟩ := bld_ok (w := w) (ok := ok) (ρ := ρ) hop ht0 he hr
    exact ⟨h1, x, by simp [execOp, hop, h2], h3⟩
  case binOp op t x y yt =>
    cases hi : isIntT P t with
    | true =>
      rw [hi] at ht
      obtain ⟨X, hX, ht⟩ := bindS ht
      obtain ⟨Y, hY, rfl⟩ := mapS ht
      have h2 := rep_trA hX (τ := τ) (a := a) fun n hn => hr n (by simp [O.tmps, hn])
      have h3 := rep_trA hY (τ := τ) (a := a) fun n hn => hr n (by simp [O.tmps, hn])
      simp only [O.evP] at he
      obtain ⟨r, hr', he⟩ := mapS he
      cases he
      obtain ⟨z, hz, hz'⟩ := bin_ok (P := P) hr' h2 h3 t x y
      refine ⟨rfl, z, ?_, hz'⟩
      simp only [execOp, hop, Sem.run_bind] at hz ⊢
      rw [hz]
      rfl
    | false =>
      rw [hi] at ht
      simp only [cond_false] at ht
      have key : ∀ (neg : Bool) (op : BinOp), (op = .eql ∧ neg = false ∨ op = .neq ∧ neg = true) → ((flatTy P 9 t).bind fun bs => (isAggT P t).bind fun g => bif P.eqGuardType P.depth t then none else (trA P t x).bind fun x => (trA P t y).map fun y => O.eq neg g bs x y) = some o →
          H' = H ∧ ∃ z, (do eqGuard op t x y (a.eval x) (a.eval y); binOp op t (a.eval x) (a.eval y) : Sem Value).run P w = .ok z w ∧ Rep w ok ρ v z := by
        intro neg op hop' ht
        obtain ⟨bs, hbs, ht⟩ := bindS ht
        obtain ⟨g, hg, ht⟩ := bindS ht
        cases hgd : P.eqGuardType P.depth t with
        | true => rw [hgd] at ht; cases ht
        | false =>
          rw [hgd] at ht
          obtain ⟨X, hX, ht⟩ := bindS ht
          obtain ⟨Y, hY, rfl⟩ := mapS ht
          have h2 := rep_trA hX (τ := τ) (a := a) fun n hn => hr n (by simp [O.tmps, hn])
          have h3 := rep_trA hY (τ := τ) (a := a) fun n hn => hr n (by simp [O.tmps, hn])
          simp only [O.evP] at he
          obtain ⟨cs, hcs, he⟩ := bindS he
          obtain ⟨ds, hds, he⟩ := bindS he
          obtain ⟨r, hr', he⟩ := mapS he
          cases he
          obtain ⟨xs, hx, hxs⟩ := cellsIf_ok hcs h2
          obtain ⟨ys, hy, hys⟩ := cellsIf_ok hds h3
          have heq := flat_ok (P := P) (w := w) 9 t bs hbs 10000 (by omega) xs ys cs ds r g hg hr' hxs hys
          rw [hx, hy]
          refine ⟨rfl, .bool (bif neg then !r else r), ?_, .b _⟩
          cases g with
          | true =>
            simp only [mkV, cond_true] at heq ⊢
            rw [Sem.run_bind, run_eqGuard_agg w op t x y _ _ hgd, Result.andThen_ok]
            rcases hop' with ⟨rfl, rfl⟩ | ⟨rfl, rfl⟩
            · rw [run_eql_struct, heq]; rfl
            · rw [run_neq_struct, heq]; rfl
          | false =>
            have hbl := flatTy_one hbs hg
            obtain ⟨l1, l2⟩ := eqs_len hr'
            match bs, cs, ds, hbl, l1, l2 with
            | [b], [c], [d], _, _, _ =>
              match xs, ys, hxs.1, hys.1 with
              | [p], [q], _, _ =>
                simp only [mkV, cond_false, List.headD_cons] at heq ⊢
                have g1 := hxs.2 0 c p rfl rfl
                have g2 := hys.2 0 d q rfl rfl
                obtain ⟨e, he', _⟩ := bindS hr'
                cases b with
                | true =>
                  obtain ⟨x1, rfl⟩ : ∃ x1, c = .b x1 := by cases c <;> first | exact ⟨_, rfl⟩ | (cases d <;> cases he')
                  obtain ⟨x2, rfl⟩ : ∃ x2, d = .b x2 := by cases d <;> first | exact ⟨_, rfl⟩ | cases he'
                  obtain rfl := g1.bool
                  obtain rfl := g2.bool
                  rcases hop' with ⟨rfl, rfl⟩ | ⟨rfl, rfl⟩
                  · simp [eqGuard, binOp, Op.equal, Op.maxDepth, heq]
                  · simp [eqGuard, binOp, Op.equal, Op.maxDepth, heq]
                | false =>
                  exfalso
                  unfold isIntT at hi
                  unfold flatTy at hbs
                  split at hbs
                  · cases hbs
                  · rename_i hu; rw [hu] at hi; cases hi
                  · rename_i fs hu; unfold isAggT at hg; rw [hu] at hg; cases hg
                  · cases hbs
      have fin : ∀ (neg : Bool), (op = .eql ∧ neg = false ∨ op = .neq ∧ neg = true) → ((flatTy P 9 t).bind fun bs => (isAggT P t).bind fun g => bif P.eqGuardType P.depth t then none else (trA P t x).bind fun x => (trA P t y).map fun y => O.eq neg g bs x y) = some o →
          H' = H ∧ ∃ x, (execOp a.eval o').run P w = .ok (.value x) w ∧ Rep w ok ρ v x := by
        intro neg h1 h2
        obtain ⟨e, z, hz, hz'⟩ := key neg op h1 h2
        refine ⟨e, z, ?_, hz'⟩
        simp only [execOp, hop, Sem.run_bind] at hz ⊢
        rw [hz]
        rfl
      cases op <;> simp only at ht <;> first | (cases ht; done) | exact fin false (.inl ⟨rfl, rfl⟩) ht | exact fin true (.inr ⟨rfl, rfl⟩) ht
  case unOp op t x =>
    obtain ⟨X, hX, rfl⟩ := mapS ht
    simp only [O.evP] at he
    obtain ⟨r, hr', he⟩ := mapS he
    cases he
    obtain ⟨z, hz, hz'⟩ := un_ok (P := P) hr' (rep_trA hX hr)
    exact ⟨rfl, z, by simp [execOp, hop, hz], hz'⟩
  case convert s d x =>
    split at ht
    · rename_i ds k hs hd
      obtain ⟨X, hX, rfl⟩ := mapS ht
      simp only [O.evP] at he
      split at he
      · rename_i k' n hx
        have h2 := rep_trA hX (τ := τ) (a := a) hr
        rw [hx] at h2
        cases he
        refine ⟨rfl, .int k (k.wrap n), ?_, .i _ _⟩
        have := h2.int
        cases ds <;> simp [execOp, hop, this, convert, run_underlying hs, run_underlying hd, Conv.intToInt]
      · cases he
    · cases ht
  case makeFunc fn first caps =>
    cases fn <;> simp only at ht <;> try (cases ht; done)
    rename_i f
    cases hf : Nat.beq first.size 0 with
    | false => rw [hf] at ht; cases ht
    | true =>
      rw [hf] at ht
      obtain ⟨l, hl, rfl⟩ := mapS ht
      cases he
      obtain ⟨h1, h2⟩ := rep_trAs (w := w) (ok := ok) (ρ := ρ) (τ := τ) (a := a) hl (by simpa [O.tmps] using hr)
      have hfe : first = #[] := by simpa using Nat.eq_of_beq_eq_true hf
      subst hfe
      refine ⟨rfl, .func (.func f) #[] (caps.map a.eval), by simp [execOp, hop, Instr.makeFunc], .fn (by simpa using h1) fun t c x hc hx => ?_⟩
      rw [List.getElem?_map] at hc
      obtain ⟨A, hA, rfl⟩ := mapS hc
      rw [Array.getElem?_map] at hx
      obtain ⟨X, hX, rfl⟩ := mapS hx
      exact h2 t A X hA (by simpa using hX)
  case slice t x lo hi mx =>
    cases mx <;> simp only at ht <;> try (cases ht; done)
    obtain ⟨e, hE, ht⟩ := bindS ht
    obtain ⟨sz, hs, ht⟩ := bindS ht
    obtain ⟨X, hX, ht⟩ := bindS ht
    obtain ⟨L, hL, ht⟩ := bindS ht
    obtain ⟨U, hU, rfl⟩ := mapS ht
    have hu : P.underlying t = some (.slice e) := by unfold elemOfS at hE; split at hE <;> cases hE; assumption
    have h2 := rep_trA hX (τ := τ) (a := a) fun n hn => hr n (by simp [O.tmps, hn])
    obtain ⟨h3, z, h4, h5⟩ := sub_ok hu hs he h2 hL hU fun m hm => hr m (by simp only [O.tmps, List.mem_append] at hm ⊢; exact .inr hm)
    exact ⟨h3, z, by simp [execOp, hop, h4], h5⟩
  case fieldAddr s x f =>
    obtain ⟨q, hq, ht⟩ := bindS ht
    obtain ⟨sz, hs, ht⟩ := bindS ht
    obtain ⟨X, hX, rfl⟩ := mapS ht
    have h2 := rep_trA hX (τ := τ) (a := a) hr
    unfold fldOf at hq
    split at hq
    · rename_i fs hu
      obtain ⟨fd, hfd, rfl⟩ := mapS hq
      have hv : ptAdd fd.offset (X.ev τ) = some v ∧ H' = H := by
        simp only [O.evP] at he
        split at he
        · rename_i hx; cases he; exact ⟨by rw [hx]; rfl, rfl⟩
        · rename_i hx; cases he; exact ⟨by rw [hx]; rfl, rfl⟩
        · cases he
      obtain ⟨A, hA⟩ := h2.addrOf hv.1
      rw [hA] at h2
      refine ⟨hv.2, .pointer (some (A.add fd.offset)), ?_, pt_add h2 hv.1⟩
      have hsz := run_sizeOf (w := w) hs
      simp [execOp, hop, hA, Instr.fieldAt, run_underlying hu, hfd, Instr.sureAddr, fieldPlace, hsz.1, hsz.2]
    · cases hq
  case field s x f =>
    obtain ⟨q, hq, ht⟩ := bindS ht
    obtain ⟨sz, hs, ht⟩ := bindS ht
    obtain ⟨g, hg, ht⟩ := bindS ht
    obtain ⟨X, hX, rfl⟩ := mapS ht
    have h2 := rep_trA hX (τ := τ) (a := a) hr
    unfold fldOf at hq
    split at hq
    · rename_i fs hu
      obtain ⟨fd, hfd, rfl⟩ := mapS hq
      simp only [O.evP] at he
      split at he
      · rename_i cs hx
        rw [hx] at h2
        obtain ⟨r, hr', he⟩ := mapS he
        cases he
        generalize hy : a.eval x = y at h2
        cases h2 with
        | ag hl h1 h =>
          obtain ⟨z, hz, hz'⟩ := part_ok (w := w) hr' hl h1 h hg hs
          exact ⟨rfl, z, by simp [execOp, hop, hy, Instr.field, run_underlying hu, hfd, asAgg, hz], hz'⟩
      · cases he
    · cases hq
  case indexAddr t x i =>
    split at ht
    · rename_i e hu
      obtain ⟨sz, hs, ht⟩ := bindS ht
      obtain ⟨X, hX, ht⟩ := bindS ht
      obtain ⟨I, hI, rfl⟩ := mapS ht
      obtain ⟨h3, z, h4, h5⟩ := ia_ok hu hs he (rep_trA hX (τ := τ) (a := a) fun n hn => hr n (by simp [O.tmps, hn])) (rep_trA hI (τ := τ) (a := a) fun n hn => hr n (by simp [O.tmps, hn]))
      exact ⟨h3, z, by simp [execOp, hop, h4], h5⟩
    · rename_i n e hu
      cases hn1 : Nat.ble n 1 with
      | true => rw [hn1] at ht; cases ht
      | false =>
        rw [hn1] at ht
        obtain ⟨sz, hs, ht⟩ := bindS ht
        obtain ⟨X, hX, ht⟩ := bindS ht
        obtain ⟨I, hI, rfl⟩ := mapS ht
        have h2 := rep_trA hX (τ := τ) (a := a) fun n hn => hr n (by simp [O.tmps, hn])
        have h3 := rep_trA hI (τ := τ) (a := a) fun n hn => hr n (by simp [O.tmps, hn])
        obtain ⟨k, m, hk', hm, hv⟩ : ∃ k m, I.ev τ = .i k m ∧ (0 ≤ m ∧ m < n) ∧ (ptAdd (m.toNat * sz) (X.ev τ) = some v ∧ H' = H) := by
          simp only [O.evP] at he
          split at he
          · rename_i hx hi
            split at he
            · cases he; exact ⟨_, _, hi, by assumption, by rw [hx]; rfl, rfl⟩
            · cases he
          · rename_i hx hi
            split at he
            · cases he; exact ⟨_, _, hi, by assumption, by rw [hx]; rfl, rfl⟩
            · cases he
          · cases he
        rw [hk'] at h3
        obtain ⟨A, hA⟩ := h2.addrOf hv.1
        rw [hA] at h2
        refine ⟨hv.2, .pointer (some (A.add (m.toNat * sz))), ?_, pt_add h2 hv.1⟩
        simp [execOp, hop, hA, h3.int, Instr.indexAt, asIntOf, run_underlying hu, Instr.sureAddr, (run_sizeOf (w := w) hs).1, hm]
    · cases ht
  case index t x i =>
    split at ht
    · rename_i n e hu
      obtain ⟨sz, hs, ht⟩ := bindS ht
      obtain ⟨g, hg, ht⟩ := bindS ht
      obtain ⟨X, hX, ht⟩ := bindS ht
      obtain ⟨I, hI, rfl⟩ := mapS ht
      have h2 := rep_trA hX (τ := τ) (a := a) fun n hn => hr n (by simp [O.tmps, hn])
      have h3 := rep_trA hI (τ := τ) (a := a) fun n hn => hr n (by simp [O.tmps, hn])
      simp only [O.evP] at he
      split at he
      · rename_i cs k m hx hi
        rw [hx] at h2
        rw [hi] at h3
        split at he
        · rename_i hm
          obtain ⟨r, hr', he⟩ := mapS he
          cases he
          generalize hy : a.eval x = y at h2
          cases h2 with
          | ag hl h1 h =>
            obtain ⟨z, hz, hz'⟩ := part_ok (w := w) hr' hl h1 h hg hs
            exact ⟨rfl, z, by simp [execOp, hop, hy, h3.int, Instr.index, asIntOf, run_underlying hu, (run_sizeOf (w := w) hs).1, hm, hz], hz'⟩
        · cases he
      · cases he
    · cases ht
  case extract x k =>
    obtain ⟨X, hX, rfl⟩ := mapS ht
    have h2 := rep_trA hX (τ := τ) (a := a) hr
    simp only [O.evP] at he
    split at he
    · rename_i cs hx
      rw [hx] at h2
      obtain ⟨r, hr', he⟩ := mapS he
      cases he
      generalize hy : a.eval x = y at h2
      cases h2 with
      | tu hl h =>
        rename_i vs
        have hlt : k < vs.size := by rw [← hl]; exact (List.getElem?_eq_some_iff.1 hr').1
        exact ⟨rfl, vs[k], by simp [execOp, hop, hy, Instr.extract, hlt], h k _ _ hr' (by simp [hlt])⟩
    · cases he
  case nilCheck x =>
    obtain ⟨X, hX, rfl⟩ := mapS ht
    have h2 := rep_trA hX (τ := τ) (a := a) hr
    simp only [O.evP] at he
    generalize hy : a.eval x = y at h2
    split at he
    · rename_i hx
      rw [hx] at h2
      cases he
      obtain ⟨A, rfl⟩ := h2.addrOf (n := 0) rfl
      exact ⟨rfl, _, by simp [execOp, hop, hy], h2⟩
    · rename_i hx
      rw [hx] at h2
      cases he
      obtain ⟨A, rfl⟩ := h2.addrOf (n := 0) rfl
      exact ⟨rfl, _, by simp [execOp, hop, hy], h2⟩
    · rename_i hx
      rw [hx] at h2
      cases he
      cases h2 with
      | fn hl h => exact ⟨rfl, _, by simp [execOp, hop, hy], .fn hl h⟩
    · cases he
  case call c =>
    cases hc : c.callee with
    | value f =>
      simp only [hc] at ht
      cases f <;> simp only at ht <;> first | (cases ht; done) | (obtain ⟨l, hl, rfl⟩ := mapS ht; cases hk)
    | invoke r m => simp only [hc] at ht; cases ht
    | builtin b =>
      simp only [hc] at ht
      cases b <;> simp only at ht <;> try (cases ht; done)
      case append =>
        split at ht
        · rename_i s x t t' hargs htys
          cases hb : Nat.beq t t' with
          | false => rw [hb] at ht; cases ht
          | true =>
            rw [hb] at ht
            obtain ⟨e, _, ht⟩ := bindS ht
            obtain ⟨i, _, ht⟩ := bindS ht
            obtain ⟨sz, _, ht⟩ := bindS ht
            cases hz : (zeroGood P e sz && Nat.ble 1 i.bytes) with
            | false => rw [hz] at ht; cases ht
            | true =>
              rw [hz] at ht
              obtain ⟨X, _, ht⟩ := bindS ht
              obtain ⟨Y, _, rfl⟩ := mapS ht
              cases hk
        · cases ht
      case copy =>
        split at ht
        · obtain ⟨e, _, ht⟩ := bindS ht
          obtain ⟨sz, _, ht⟩ := bindS ht
          obtain ⟨X, _, ht⟩ := bindS ht
          obtain ⟨Y, _, rfl⟩ := mapS ht
          cases hk
        · cases ht
      case len =>
        split at ht
        · rename_i x t hargs htys
          obtain ⟨e, hE, ht⟩ := bindS ht
          obtain ⟨X, hX, rfl⟩ := mapS ht
          have h2 := rep_trA hX (τ := τ) (a := a) hr
          have ha : c.args = #[x] := by apply Array.toList_inj.1; simpa using hargs
          have hb : c.argTypes = #[t] := by apply Array.toList_inj.1; simpa using htys
          simp only [O.evP] at he
          obtain ⟨n, hn, hv⟩ : ∃ n, lenV (X.ev τ) = some n ∧ (V.i .i64 n, H) = (v, H') := by
            split at he <;> first | (cases he; done) | (rename_i hx; cases he; exact ⟨_, by rw [hx]; rfl, rfl⟩)
          cases hv
          obtain ⟨A, m, c', hm, rfl⟩ := h2.sliceLen hn
          refine ⟨rfl, .int .i64 m, ?_, .i _ _⟩
          simp [execOp, hop, resolve, hc, ha, hb, invoke, builtin, hm, run_len_slice hE]
        · cases ht
      case max =>
        split at ht
        · rename_i x y t t' hargs htys
          obtain ⟨X, hX, ht⟩ := bindS ht
          obtain ⟨Y, hY, rfl⟩ := mapS ht
          have h2 := rep_trA hX (τ := τ) (a := a) fun n hn => hr n (by simp [O.tmps, hn])
          have h3 := rep_trA hY (τ := τ) (a := a) fun n hn => hr n (by simp [O.tmps, hn])
          have ha : c.args = #[x, y] := by apply Array.toList_inj.1; simpa using hargs
          simp only [O.evP] at he
          split at he
          · rename_i k p k' q hx hy
            rw [hx] at h2
            rw [hy] at h3
            cases hkk : decide (k = k') with
            | false => rw [hkk] at he; cases he
            | true =>
              rw [hkk] at he
              cases he
              refine ⟨rfl, _, ?_, .i _ _⟩
              simp [execOp, hop, resolve, hc, ha, invoke, builtin, h2.int, h3.int, run_max_int2]
          · cases he
        · cases ht
      case min =>
        split at ht
        · rename_i x y t t' hargs htys
          obtain ⟨X, hX, ht⟩ := bindS ht
          obtain ⟨Y, hY, rfl⟩ := mapS ht
          have h2 := rep_trA hX (τ := τ) (a := a) fun n hn => hr n (by simp [O.tmps, hn])
          have h3 := rep_trA hY (τ := τ) (a := a) fun n hn => hr n (by simp [O.tmps, hn])
          have ha : c.args = #[x, y] := by apply Array.toList_inj.1; simpa using hargs
          simp only [O.evP] at he
          split at he
          · rename_i k p k' q hx hy
            rw [hx] at h2
            rw [hy] at h3
            cases hkk : decide (k = k') with
            | false => rw [hkk] at he; cases he
            | true =>
              rw [hkk] at he
              cases he
              refine ⟨rfl, _, ?_, .i _ _⟩
              simp [execOp, hop, resolve, hc, ha, invoke, builtin, h2.int, h3.int, run_min_int2]
          · cases he
        · cases ht
  case alloc e =>
    obtain ⟨z, _, ht⟩ := bindS ht
    obtain ⟨sz, _, rfl⟩ := mapS ht
    cases hk
  case box e x =>
    obtain ⟨z, _, ht⟩ := bindS ht
    obtain ⟨sz, _, rfl⟩ := mapS ht
    cases hk
  case buildSlice t n parts =>
    obtain ⟨e, _, ht⟩ := bindS ht
    obtain ⟨sz, _, ht⟩ := bindS ht
    generalize (Nat.beq parts.size n && Nat.ble (n * sz) 16777216 && Option.isSome (zeroOf P e)) = q at ht
    cases q with
    | false => cases ht
    | true =>
      obtain ⟨l, _, rfl⟩ := mapS ht
      cases hk
  case load t x =>
    obtain ⟨X, _, ht⟩ := bindS ht
    obtain ⟨g, _, ht⟩ := bindS ht
    obtain ⟨sz, _, rfl⟩ := mapS ht
    cases hk
  case store t x y =>
    obtain ⟨X, _, ht⟩ := bindS ht
    obtain ⟨g, _, ht⟩ := bindS ht
    obtain ⟨sz, _, rfl⟩ := mapS ht
    cases hk
  case makeSlice t l c =>
    obtain ⟨e, _, ht⟩ := bindS ht
    obtain ⟨i, _, ht⟩ := bindS ht
    obtain ⟨sz, _, ht⟩ := bindS ht
    obtain ⟨z, _, ht⟩ := bindS ht
    cases hz : (z.good sz && Nat.ble 1 i.bytes) with
    | false => rw [hz] at ht; cases ht
    | true =>
      rw [hz] at ht
      obtain ⟨L, _, ht⟩ := bindS ht
      obtain ⟨C, _, rfl⟩ := mapS ht
      cases hk
  all_goals (cases ht)
end

end Go.Proofs.YtgamkmgdbfeigaaM
