/- A region's run in the machine, as a row of operations: parts on a condition. -/
import Derived.Test.YtgamkmgdbfeigaaM14
namespace Go.Proofs.YtgamkmgdbfeigaaM
open Go Go.RowKit

section
variable {P : Program}

/-- A region's run, its operations under a guard that is met. -/
def RunOK (P : Program) (r : R) (s s' : St) : Prop := ∀ (g : Option (Nat × Bool)) (inner : Bool) (ds : List Nat), r.okR inner ds = true → (∀ c want, g = some (c, want) → look s.τ c = .b want ∧ c ∉ r.dsts) →
  FRun P (r.flat g) s s' ∧ s'.base = s.base ∧ ∀ t, t ∉ r.dsts → look s'.τ t = look s.τ t

theorem wanted_of {τ : Env} {g : Option (Nat × Bool)} (h : ∀ c want, g = some (c, want) → look τ c = .b want) : wanted τ g := by
  cases g with
  | none => trivial
  | some q => exact h q.1 q.2 rfl

theorem kill_look : ∀ (ds : List Nat) (τ : Env) (t : Nat), look (kill τ ds) t = if t ∈ ds then .un else look τ t
  | [], τ, t => by simp [kill]
  | d :: ds, τ, t => by
    have := look_put (kill τ ds) (some d) .un t
    simp only [put] at this
    unfold kill
    rw [this, kill_look ds τ t]
    by_cases h : d = t
    · simp [h]
    · simp only [Option.some.injEq, if_neg h, List.mem_cons]
      by_cases h' : t ∈ ds
      · simp [h']
      · rw [if_neg h', if_neg]
        rintro (h1 | h1)
        · exact h h1.symm
        · exact h' h1

theorem okR_op {inner : Bool} {ds : List Nat} {d : Option Nat} {o : O} {r : R} (h : (R.op d o r).okR inner ds = true) : ∃ ds', r.okR inner ds' = true := by
  cases d with
  | none => exact ⟨_, h⟩
  | some d => exact ⟨_, h⟩

theorem dsts_op {d : Option Nat} {o : O} {r : R} {t : Nat} (h : t ∉ (R.op d o r).dsts) : d ≠ some t ∧ t ∉ r.dsts := by
  cases d with
  | none => exact ⟨by simp, h⟩
  | some d =>
    simp only [R.dsts, List.mem_cons, not_or] at h
    exact ⟨fun hd => h.1 (by cases hd; rfl), h.2⟩

theorem RunOK.done {s : St} : RunOK P .done s s := fun _ _ _ _ _ => ⟨.nil, rfl, fun _ _ => rfl⟩

/-- What is known of an operation. -/
structure StpFull (P : Program) (o : O) (τ : Env) (H : Hp) (v : V) (H' : Hp) : Prop where
  ok : StpOK P o τ H v H'
  len : H.length ≤ H'.length
  keep : ∀ b, b < H.length → b ∉ o.writes τ H → hget H' b = hget H b
  nk : o.nkOk τ
  pu : o.isPure = true → H' = H
  nb : o.isBad = false

theorem StpFull.pure {o : O} {τ : Env} {H H' : Hp} {v : V} (he : o.evP τ H = some (v, H')) : StpFull P o τ H v H' :=
  ⟨evP_ok he, (evP_facts he).1, (evP_facts he).2.1, (evP_facts he).2.2.1, (evP_facts he).2.2.2, evP_bad he⟩

theorem RunOK.op {d : Option Nat} {o : O} {r : R} {s s' : St} {v : V} {H' : Hp} (h : StpFull P o s.τ s.H v H') (ht : ((o.touch s.τ s.H).all fun b => Nat.blt b s.H.length) = true) (hr : RunOK P r ⟨s.base, put s.τ d v, H'⟩ s') : RunOK P (.op d o r) s s' := by
  intro g inner ds hok hg
  obtain ⟨ds', hok'⟩ := okR_op hok
  have hg' : ∀ c want, g = some (c, want) → look (put s.τ d v) c = .b want ∧ c ∉ r.dsts := by
    intro c want hc
    obtain ⟨h1, h2⟩ := hg c want hc
    obtain ⟨h3, h4⟩ := dsts_op h2
    exact ⟨by rw [look_put, if_neg h3]; exact h1, h4⟩
  obtain ⟨r1, r2, r3⟩ := hr g inner ds' hok' hg'
  refine ⟨.op v H' (wanted_of fun c want hc => (hg c want hc).1) h.ok h.len h.keep (fun b hb => ?_) h.nk h.pu h.nb r1, r2, fun t hnt => ?_⟩
  · have := List.all_eq_true.1 ht b hb
    simpa [Nat.blt_eq] using this
  · obtain ⟨h3, h4⟩ := dsts_op hnt
    rw [r3 t h4]
    show look (put s.τ d v) t = _
    rw [look_put, if_neg h3]

/-- Operations that are left out. -/
theorem skip_run : ∀ (r : R) (c : Nat) (want : Bool) (ds : List Nat) (b : Nat) (τ : Env) (H E : Hp), r.okR true ds = true → (look τ c = .b (!want) ∨ look τ c = .tu []) → c ∉ r.dsts → (∀ t ∈ ds, look τ t = .tu []) → (r = .done → E = []) →
    ∃ τ', FRun P (r.flat (some (c, want))) ⟨b, τ, H⟩ ⟨b, τ', H ++ E⟩ ∧ (∀ t, t ∉ r.dsts → look τ' t = look τ t) ∧ ∀ t ∈ r.dsts, look τ' t = .tu [] := by
  intro r
  have hup : ∀ {τ τ' : Env} {ds1 : List Nat} {t : Nat}, (∀ t, t ∉ ds1 → look τ' t = look τ t) → (∀ t ∈ ds1, look τ' t = .tu []) → look τ t = .tu [] → look τ' t = .tu [] := by
    intro τ τ' ds1 t h1 h2 h3
    by_cases h : t ∈ ds1
    · exact h2 t h
    · rw [h1 t h, h3]
  induction r with
  | done =>
    intro c want ds b τ H E _ _ _ _ hE
    rw [hE rfl]
    refine ⟨τ, ?_, fun _ _ => rfl, fun t h => by cases h⟩
    have : H ++ [] = H := by simp
    rw [this]
    exact .nil
  | op d o r ih =>
    intro c want ds b τ H E hok hu hc hds hE
    obtain ⟨hc1, hc2⟩ := dsts_op hc
    have hlk : ∀ t, look (put τ d (.tu [])) t = if d = some t then .tu [] else look τ t := fun t => look_put _ _ _ _
    have hok' : r.okR true (match d with | some d => d :: ds | none => ds) = true := by cases d <;> exact hok
    obtain ⟨τ', h1, h2, h3⟩ := ih c want _ b (put τ d (.tu [])) (H ++ E) [] hok' (by rw [hlk, if_neg hc1]; exact hu) hc2 (fun t ht => by
      rw [hlk]
      split
      · rfl
      · rename_i hd
        cases d with
        | none => exact hds t ht
        | some d =>
          rcases List.mem_cons.1 ht with rfl | ht
          · exact absurd rfl hd
          · exact hds t ht) (fun _ => rfl)
    have : H ++ E ++ [] = H ++ E := by simp
    rw [this] at h1
    refine ⟨τ', .skip E hu h1, fun t ht => ?_, fun t ht => ?_⟩
    · obtain ⟨h4, h5⟩ := dsts_op ht
      rw [h2 t h5, hlk, if_neg h4]
    · by_cases h4 : t ∈ r.dsts
      · exact h3 t h4
      · have h5 : d = some t := by
          cases d with
          | none => exact absurd ht h4
          | some d =>
            rcases List.mem_cons.1 ht with h6 | h6
            · rw [h6]
            · exact absurd h6 h4
        rw [h2 t h4, hlk, if_pos h5]
  | sc c' want' its d res r ih1 ih2 =>
    intro c want ds b τ H E hok hu hc hds hE
    simp only [R.okR, Bool.and_eq_true, Bool.or_eq_true, Bool.not_true, List.contains_eq_mem, decide_eq_true_eq, Bool.not_eq_true', decide_eq_false_iff_not] at hok
    obtain ⟨⟨⟨hc', hci⟩, hok1⟩, hok2⟩ := hok
    have hc' : c' ∈ ds := by rcases hc' with h | h; · cases h
                             · exact h
    simp only [R.dsts, List.mem_append, List.mem_cons, not_or] at hc
    obtain ⟨hc1, hc2, hc3⟩ := hc
    obtain ⟨τ1, g1, g2, g3⟩ := ih1 c' want' [] b τ H [] hok1 (.inr (hds c' hc')) hci (fun t h => by cases h) (fun _ => rfl)
    have hH : H ++ [] = H := by simp
    rw [hH] at g1
    have hlk : ∀ t, look (put τ1 (some d) (.tu [])) t = if some d = some t then .tu [] else look τ1 t := fun t => look_put _ _ _ _
    have hcd : look (put τ1 (some d) (.tu [])) c = look τ c := by
      rw [hlk, if_neg (by intro h; cases h; exact hc2 rfl), g2 c hc1]
    obtain ⟨τ2, k1, k2, k3⟩ := ih2 c want _ b (put τ1 (some d) (.tu [])) (H ++ E) [] hok2 (by rw [hcd]; exact hu) hc3 (fun t ht => by
      rw [hlk]
      split
      · rfl
      · rename_i hd
        rcases List.mem_cons.1 ht with rfl | ht
        · exact absurd rfl hd
        · rcases List.mem_append.1 ht with ht | ht
          · exact g3 t ht
          · exact hup g2 g3 (hds t ht)) (fun _ => rfl)
    have hHE : H ++ E ++ [] = H ++ E := by simp
    rw [hHE] at k1
    refine ⟨τ2, .append g1 (.skip E (by show look τ1 c = _ ∨ look τ1 c = _; rw [g2 c hc1]; exact hu) k1), fun t ht => ?_, fun t ht => ?_⟩
    · simp only [R.dsts, List.mem_append, List.mem_cons, not_or] at ht
      rw [k2 t ht.2.2, hlk, if_neg (by intro h; cases h; exact ht.2.1 rfl), g2 t ht.1]
    · by_cases h4 : t ∈ r.dsts
      · exact k3 t h4
      · rw [k2 t h4, hlk]
        split
        · rfl
        · rename_i hd
          simp only [R.dsts, List.mem_append, List.mem_cons] at ht
          rcases ht with ht | rfl | ht
          · exact g3 t ht
          · exact absurd rfl hd
          · exact absurd ht h4

theorem FRun.none {l : List Fl} {s s' : St} (h : FRun P l s s') (hl : l = []) : s'.H = s.H := by
  induction h with
  | nil => rfl
  | wk h hb hH _ ih => exact (ih hl).trans hH
  | op => cases hl
  | skip => cases hl

theorem flat_nil {g : Option (Nat × Bool)} : ∀ {r : R}, r.flat g = [] → r = .done
  | .done, _ => rfl
  | .op _ _ _, h => by cases h
  | .sc _ _ _ _ _ _, h => by simp [R.flat] at h

def pickO (want : Bool) (c : Nat) (res : A) : O := bif want then .pick (.t c) res (.c (.b false)) else .pick (.t c) (.c (.b true)) res

theorem pickO_ev {want x : Bool} {c : Nat} {res : A} {τ : Env} {H : Hp} (hc : look τ c = .b x) : (pickO want c res).evP τ H = some (bif want then (bif x then res.ev τ else .b false) else (bif x then .b true else res.ev τ), H) := by
  cases want <;> simp only [pickO, cond_true, cond_false, O.evP, A.ev, hc]

theorem pickO_touch {want : Bool} {c : Nat} {res : A} {τ : Env} {H : Hp} : (pickO want c res).touch τ H = [] := by cases want <;> rfl

/-- The rest of a part on a condition: the choice, and what is forgotten. -/
theorem RunOK.pick {want x : Bool} {c d : Nat} {its r : R} {res : A} {g : Option (Nat × Bool)} {inner : Bool} {ds : List Nat} {b : Nat} {τ τ1 : Env} {H1 : Hp} {s' : St} {z : Bool} (hok : (R.sc c want its d res r).okR inner ds = true)
    (hg : ∀ c' want', g = some (c', want') → look τ c' = .b want' ∧ c' ∉ (R.sc c want its d res r).dsts) (hl : ∀ t, t ∉ its.dsts → look τ1 t = look τ t) (hc : look τ c = .b x)
    (hz : (bif want then (bif x then res.ev τ1 else .b false) else (bif x then .b true else res.ev τ1)) = .b z)
    (hr : RunOK P r ⟨b, (d, .b z) :: kill τ its.dsts, H1⟩ s') :
    FRun P (⟨some d, pickO want c res, g⟩ :: r.flat g) ⟨b, τ1, H1⟩ s' ∧ s'.base = b ∧ ∀ t, t ∉ (R.sc c want its d res r).dsts → look s'.τ t = look τ t := by
  simp only [R.okR, Bool.and_eq_true, List.contains_eq_mem, Bool.not_eq_true', decide_eq_false_iff_not] at hok
  obtain ⟨⟨⟨_, hci⟩, _⟩, hok2⟩ := hok
  have hc1 : look τ1 c = .b x := by rw [hl c hci, hc]
  have hlk : ∀ t, look ((d, .b z) :: kill τ its.dsts) t = if some d = some t then .b z else if t ∈ its.dsts then .un else look τ t := fun t => by
    have := look_put (kill τ its.dsts) (some d) (.b z) t
    simp only [put] at this
    rw [this, kill_look]
  have hlk1 : ∀ t, look (put τ1 (some d) (.b z)) t = if some d = some t then .b z else look τ1 t := fun t => look_put _ _ _ _
  obtain ⟨k1, k2, k3⟩ := hr g inner _ hok2 (fun c' want' h => by
    obtain ⟨h1, h2⟩ := hg c' want' h
    simp only [R.dsts, List.mem_append, List.mem_cons, not_or] at h2
    refine ⟨?_, h2.2.2⟩
    show look ((d, .b z) :: kill τ its.dsts) c' = _
    rw [hlk, if_neg (by intro h; cases h; exact h2.2.1 rfl), if_neg h2.1, h1])
  have hev := pickO_ev (want := want) (res := res) (H := H1) hc1
  rw [hz] at hev
  have hst := StpFull.pure (P := P) hev
  refine ⟨.op (.b z) H1 (wanted_of fun c' want' h => ?_) hst.ok hst.len hst.keep (fun b' hb' => by rw [pickO_touch] at hb'; cases hb') hst.nk hst.pu hst.nb (.wk (s1 := ⟨b, (d, .b z) :: kill τ its.dsts, H1⟩) (fun t => ?_) rfl rfl k1), k2, fun t ht => ?_⟩
  · obtain ⟨h1, h2⟩ := hg c' want' h
    simp only [R.dsts, List.mem_append, List.mem_cons, not_or] at h2
    show look τ1 c' = _
    rw [hl c' h2.1, h1]
  · show look ((d, .b z) :: kill τ its.dsts) t = .un ∨ look ((d, .b z) :: kill τ its.dsts) t = look (put τ1 (some d) (.b z)) t
    rw [hlk, hlk1]
    split
    · exact .inr rfl
    · by_cases h : t ∈ its.dsts
      · rw [if_pos h]; exact .inl rfl
      · rw [if_neg h, hl t h]; exact .inr rfl
  · simp only [R.dsts, List.mem_append, List.mem_cons, not_or] at ht
    rw [k3 t ht.2.2]
    show look ((d, .b z) :: kill τ its.dsts) t = _
    rw [hlk, if_neg (by intro h; cases h; exact ht.2.1 rfl), if_neg ht.1]

theorem RunOK.sc {c : Nat} {want : Bool} {its r : R} {d : Nat} {res : A} {s s' : St} (x y : Bool) (s1 : St) (E : Hp) (hc : look s.τ c = .b x) (h : RunOK P its s s1) (hy : res.ev s1.τ = .b y) (hE : s1.H = s.H ++ E)
    (hr : RunOK P r ⟨s.base, (d, .b (bif want then x && y else x || y)) :: kill s.τ its.dsts, s1.H⟩ s') : RunOK P (.sc c want its d res r) s s' := by
  intro g inner ds hok hg
  have hok' := hok
  simp only [R.okR, Bool.and_eq_true, List.contains_eq_mem, Bool.not_eq_true', decide_eq_false_iff_not] at hok'
  obtain ⟨⟨⟨_, hci⟩, hok1⟩, _⟩ := hok'
  by_cases hx : x = want
  · subst hx
    obtain ⟨i1, i2, i3⟩ := h (some (c, x)) true [] hok1 (fun c' want' h => by cases h; exact ⟨hc, hci⟩)
    obtain ⟨b1, τ1, H1⟩ := s1
    simp only at i2
    subst i2
    obtain ⟨k1, k2, k3⟩ := RunOK.pick (P := P) (s' := s') (b := s.base) (τ1 := τ1) (H1 := H1) hok hg i3 hc (z := bif x then x && y else x || y) (by cases x <;> simp only [cond_true, cond_false, Bool.true_and, Bool.false_or] <;> exact hy) hr
    exact ⟨.append i1 k1, k2, k3⟩
  · have hx' : x = !want := by cases x <;> cases want <;> first | rfl | exact absurd rfl hx
    obtain ⟨τ1, g1, g2, g3⟩ := skip_run (P := P) its c want [] s.base s.τ s.H E hok1 (.inl (by rw [hc, hx'])) hci (fun t h => by cases h) (fun hd => by
      subst hd
      have := (h none true [] hok1 (fun _ _ h => by cases h)).1
      have := this.none rfl
      rw [hE] at this
      simpa using this)
    rw [← hE] at g1
    obtain ⟨k1, k2, k3⟩ := RunOK.pick (P := P) (s' := s') (b := s.base) (τ1 := τ1) (H1 := s1.H) hok hg g2 hc (z := bif want then x && y else x || y) (by subst hx'; cases want <;> rfl) hr
    exact ⟨.append g1 k1, k2, k3⟩

theorem RunOK.scT {c : Nat} {want : Bool} {its r : R} {d : Nat} {res : A} {s s' : St} (y : Bool) (s1 : St) (hc : look s.τ c = .b want) (h : RunOK P its s s1) (hy : res.ev s1.τ = .b y)
    (hr : RunOK P r ⟨s.base, (d, .b y) :: kill s.τ its.dsts, s1.H⟩ s') : RunOK P (.sc c want its d res r) s s' := by
  intro g inner ds hok hg
  have hok' := hok
  simp only [R.okR, Bool.and_eq_true, List.contains_eq_mem, Bool.not_eq_true', decide_eq_false_iff_not] at hok'
  obtain ⟨⟨⟨_, hci⟩, hok1⟩, _⟩ := hok'
  obtain ⟨i1, i2, i3⟩ := h (some (c, want)) true [] hok1 (fun c' want' h => by cases h; exact ⟨hc, hci⟩)
  obtain ⟨b1, τ1, H1⟩ := s1
  simp only at i2
  subst i2
  obtain ⟨k1, k2, k3⟩ := RunOK.pick (P := P) (s' := s') (b := s.base) (τ1 := τ1) (H1 := H1) hok hg i3 hc (z := y) (by cases want <;> simp only [cond_true, cond_false] <;> exact hy) hr
  exact ⟨.append i1 k1, k2, k3⟩

theorem RunOK.scF {c : Nat} {want : Bool} {its r : R} {d : Nat} {res : A} {s s' : St} (x : Bool) (hc : look s.τ c = .b x) (hx : x = !want)
    (hr : RunOK P r ⟨s.base, (d, .b (!want)) :: kill s.τ its.dsts, s.H⟩ s') : RunOK P (.sc c want its d res r) s s' := by
  intro g inner ds hok hg
  have hok' := hok
  simp only [R.okR, Bool.and_eq_true, List.contains_eq_mem, Bool.not_eq_true', decide_eq_false_iff_not] at hok'
  obtain ⟨⟨⟨_, hci⟩, hok1⟩, _⟩ := hok'
  obtain ⟨τ1, g1, g2, g3⟩ := skip_run (P := P) its c want [] s.base s.τ s.H [] hok1 (.inl (by rw [hc, hx])) hci (fun t h => by cases h) (fun _ => rfl)
  have : s.H ++ [] = s.H := by simp
  rw [this] at g1
  obtain ⟨k1, k2, k3⟩ := RunOK.pick (P := P) (s' := s') (b := s.base) (τ1 := τ1) (H1 := s.H) hok hg g2 hc (z := !want) (by subst hx; cases want <;> rfl) hr
  exact ⟨.append g1 k1, k2, k3⟩

theorem StpFull.call {nk : Bool} {f : Nat} {xs : List A} {τ : Env} {H : Hp} {v : V} {fr : Bool} (h : FnOK P f (xs.map fun x => frz H (x.ev τ)) [] fun r H' => frR H' r = v ∧ (fr = true → frsR H' r = true))
    (hk : (bif nk then fr || (xs.flatMap fun x => (x.ev τ).ids).isEmpty else true) = true) : StpFull P (.call nk false f xs) τ H v (bif fr then H else killH H (xs.flatMap fun x => (x.ev τ).ids)) := by
  refine ⟨stp_call h hk, ?_, fun b hb hw => ?_, trivial, fun h => (by cases h), rfl⟩
  · cases fr <;> simp [killH_length]
  · cases fr with
    | true => rfl
    | false =>
      simp only [cond_false]
      rw [hget_kill, if_neg]
      intro hm
      cases nk with
      | false => exact hw hm
      | true =>
        simp only [cond_true, Bool.false_or] at hk
        rw [List.isEmpty_iff.1 hk] at hm
        cases hm

theorem StpFull.callr {nk : Bool} {f : Nat} {xs : List A} {τ : Env} {H H' : Hp} {v : V} (h : FnOK P f (xs.map fun x => x.ev τ) H fun r H1 => r = v ∧ H1 = H') (hl : H.length ≤ H'.length) : StpFull P (.call nk true f xs) τ H v H' :=
  ⟨stp_callr h, hl, fun b hb hw => absurd (by simp [O.writes, O.touch, hb]) hw, trivial, fun h => (by cases h), rfl⟩

theorem StpFull.callv {nk : Bool} {g : A} {xs : List A} {τ : Env} {H : Hp} {v : V} {f : Nat} {caps : List V} {fr : Bool} (hg : g.ev τ = .fn f caps)
    (h : FnOK P f ((xs.map fun x => frz H (x.ev τ)) ++ caps.map (frL H)) [] fun r H' => frR H' r = v ∧ (fr = true → frsR H' r = true))
    (hk : (bif nk then fr || ((xs.flatMap fun x => (x.ev τ).ids) ++ caps.flatMap idL).isEmpty else true) = true) : StpFull P (.callv nk false g xs) τ H v (bif fr then H else killH H ((xs.flatMap fun x => (x.ev τ).ids) ++ caps.flatMap idL)) := by
  refine ⟨stp_callv hg h hk, ?_, fun b hb hw => ?_, trivial, fun h => (by cases h), rfl⟩
  · cases fr <;> simp [killH_length]
  · cases fr with
    | true => rfl
    | false =>
      simp only [cond_false]
      rw [hget_kill, if_neg]
      intro hm
      cases nk with
      | false =>
        refine hw ?_
        have : (g.ev τ).ids = caps.flatMap idL := by rw [hg]; rfl
        simp only [O.writes, O.touch, Bool.false_and, cond_false, this]
        exact hm
      | true =>
        simp only [cond_true, Bool.false_or] at hk
        rw [List.isEmpty_iff.1 hk] at hm
        cases hm

theorem StpFull.callvr {nk : Bool} {g : A} {xs : List A} {τ : Env} {H H' : Hp} {v : V} {f : Nat} {caps : List V} (hg : g.ev τ = .fn f caps) (h : FnOK P f ((xs.map fun x => x.ev τ) ++ caps) H fun r H1 => r = v ∧ H1 = H') (hl : H.length ≤ H'.length) : StpFull P (.callv nk true g xs) τ H v H' :=
  ⟨stp_callvr hg h, hl, fun b hb hw => absurd (by simp [O.writes, O.touch, hb]) hw, trivial, fun h => (by cases h), rfl⟩
end

end Go.Proofs.YtgamkmgdbfeigaaM
