/- The machine's values and memory beside the model's: when does a value, a row stand for what lies in a world; what stays so when the world goes on. -/
import Derived.Test.YtgamkmgdbfeigaaM0
namespace Go.Proofs.YtgamkmgdbfeigaaM
open Go Go.RowKit

/-- Where the machine's rows lie: none: not there yet; some none: given up; some (v, ty, es): the canonical slice, its elements' type and cells. -/
abbrev Rho := Nat → Option (Option (Value × Nat × Nat))

def aliveB (ρ : Rho) (k : Nat) : Prop := ∃ b v ty es, ρ b = some (some (v, ty, es)) ∧ v.ownBlock = some k
/-- Blocks that are only read. -/
def okB (imm : Nat → Prop) (w : World) (ρ : Rho) (k : Nat) : Prop := imm k ∧ k < w.heap.size ∧ ¬ aliveB ρ k

def RefAt (v : Value) (es off ln : Nat) (x : Value) : Prop :=
  (∃ g n cap, v = .slice (some ⟨g, 0, none⟩) n cap ∧ off + ln ≤ n ∧ n ≤ cap ∧ x = .slice (some ⟨g, off * es, none⟩) ln (cap - off)) ∨
  (v = .slice none 0 0 ∧ off = 0 ∧ ln = 0 ∧ x = .slice none 0 0) ∨
  (ln = 0 ∧ off ≠ 0)

def noRho : Rho := fun _ => none

inductive Rep (w : World) (ok : Nat → Prop) : Rho → V → Value → Prop
  | un {ρ : Rho} (x : Value) : Rep w ok ρ .un x
  | b {ρ : Rho} (x : Bool) : Rep w ok ρ (.b x) (.bool x)
  | i {ρ : Rho} (k : IntKind) (n : Int) : Rep w ok ρ (.i k n) (.int k n)
  | p {ρ : Rho} (x : Value) (h1 : x.oneCell' = true) : Rep w ok ρ (.p x) x
  | ag {ρ : Rho} {cs : List V} {vs : Array Value} (hl : cs.length = vs.size) (h1 : ∀ (t : Nat) (x : Value), vs[t]? = some x → x.oneCell' = true)
      (h : ∀ (t : Nat) (c : V) (x : Value), cs[t]? = some c → vs[t]? = some x → Rep w ok ρ c x) : Rep w ok ρ (.ag cs) (.agg vs)
  | tu {ρ : Rho} {cs : List V} {vs : Array Value} (hl : cs.length = vs.size)
      (h : ∀ (t : Nat) (c : V) (x : Value), cs[t]? = some c → vs[t]? = some x → Rep w ok ρ c x) : Rep w ok ρ (.tu cs) (.tuple vs)
  | sl {ρ : Rho} {es : Nat} {xs : List V} {a : Option Addr} {n cap : Nat} (g : Nat → Nat → Value) (hn : n = xs.length) (hc : n ≤ cap)
      (he : ∀ (j : Nat) (e : V), xs[j]? = some e → e.cells.length = es)
      (ha : 0 < n → ∃ A : Addr, a = some A ∧ ok A.block ∧ ∀ j t, j < n → t < es → w.cell? (A.add (j * es + t)) = some (g j t))
      (h1 : ∀ j t, j < n → t < es → (g j t).oneCell' = true)
      (h : ∀ (j t : Nat) (e c : V), xs[j]? = some e → e.cells[t]? = some c → Rep w ok noRho c (g j t)) : Rep w ok ρ (.sl es xs) (.slice a n cap)
  | nl {ρ : Rho} (ty es : Nat) : Rep w ok ρ (.nl ty es) (.slice none 0 0)
  | rf {ρ : Rho} {b es off ln : Nat} {a : Option Addr} {c : Nat} (hd : ρ b ≠ none) (hc : ln ≤ c) (ha : 0 < ln → ∃ A, a = some A)
      (h : ∀ v ty es', ρ b = some (some (v, ty, es')) → es' = es ∧ RefAt v es off ln (.slice a ln c)) : Rep w ok ρ (.rf b es off ln) (.slice a ln c)
  | pt {ρ : Rho} {b es i off : Nat} {A : Addr} (hd : ρ b ≠ none)
      (h : ∀ v ty es', ρ b = some (some (v, ty, es')) → ∃ g n cap, v = .slice (some ⟨g, 0, none⟩) n cap ∧ A = ⟨g, i * es + off, none⟩) : Rep w ok ρ (.pt b es i off) (.pointer (some A))
  | ip {ρ : Rho} {cs : List V} {A : Addr} (f : Nat → Value) (ho : 0 < cs.length → ok A.block) (hc : ∀ t, t < cs.length → w.cell? (A.add t) = some (f t))
      (h1 : ∀ t, t < cs.length → (f t).oneCell' = true) (h : ∀ (t : Nat) (c : V), cs[t]? = some c → Rep w ok noRho c (f t)) : Rep w ok ρ (.ip cs) (.pointer (some A))
  | fn {ρ : Rho} {f : Nat} {caps : List V} {vs : Array Value} (hl : caps.length = vs.size)
      (h : ∀ (t : Nat) (c : V) (x : Value), caps[t]? = some c → vs[t]? = some x → Rep w ok ρ c x) : Rep w ok ρ (.fn f caps) (.func (.func f) #[] vs)

def rhoLe (ρ ρ' : Rho) : Prop := ∀ b q, ρ b = some q → ρ' b = some q ∨ ρ' b = some none

theorem rhoLe.refl (ρ : Rho) : rhoLe ρ ρ := fun _ _ h => .inl h
theorem rhoLe.trans {ρ ρ' ρ'' : Rho} (h : rhoLe ρ ρ') (h' : rhoLe ρ' ρ'') : rhoLe ρ ρ'' := fun b q hq => by
  rcases h b q hq with h1 | h1
  · exact h' b q h1
  · rcases h' b none h1 with h2 | h2 <;> exact .inr h2

theorem noRho_le (ρ : Rho) : rhoLe noRho ρ := fun _ _ h => by cases h

theorem rhoLe.alive {ρ ρ' : Rho} (h : rhoLe ρ ρ') {b : Nat} (hd : ρ b ≠ none) {v : Value} {ty es : Nat} (h' : ρ' b = some (some (v, ty, es))) : ρ b = some (some (v, ty, es)) := by
  cases hq : ρ b with
  | none => exact absurd hq hd
  | some q =>
    rcases h b q hq with h1 | h1
    · rw [h1] at h'; rw [Option.some.inj h']
    · rw [h1] at h'; cases h'

theorem rhoLe.ne {ρ ρ' : Rho} (h : rhoLe ρ ρ') {b : Nat} (hd : ρ b ≠ none) : ρ' b ≠ none := by
  cases hq : ρ b with
  | none => exact absurd hq hd
  | some q => rcases h b q hq with h1 | h1 <;> rw [h1] <;> simp

theorem add_block (A : Addr) (n : Nat) : (A.add n).block = A.block := by unfold Addr.add; split <;> rfl

theorem Rep.mono {w w' : World} {ok ok' : Nat → Prop} {ρ : Rho} {v : V} {x : Value} (h : Rep w ok ρ v x) (hok : ∀ k, ok k → ok' k) (hw : ∀ k, ok k → w'.heap[k]? = w.heap[k]?) :
    ∀ {ρ' : Rho}, rhoLe ρ ρ' → Rep w' ok' ρ' v x := by
  induction h with
  | un x => exact fun _ => .un x
  | b x => exact fun _ => .b x
  | i k n => exact fun _ => .i k n
  | p x h1 => exact fun _ => .p x h1
  | ag hl h1 _ ih => exact fun hle => .ag hl h1 fun t c x hc hx => ih t c x hc hx hle
  | tu hl _ ih => exact fun hle => .tu hl fun t c x hc hx => ih t c x hc hx hle
  | sl g hn hc he ha h1 _ ih =>
    refine fun hle => .sl g hn hc he (fun hne => ?_) h1 fun j t e c hj ht => ih j t e c hj ht (rhoLe.refl _)
    obtain ⟨A, rfl, hA, hcell⟩ := ha hne
    refine ⟨A, rfl, hok _ hA, fun j t hj ht => ?_⟩
    rw [← hcell j t hj ht]
    refine World.cell?_of_block (w := w) ?_
    rw [add_block]
    exact hw _ hA
  | nl ty es => exact fun _ => .nl ty es
  | rf hd hc ha h => exact fun hle => .rf (hle.ne hd) hc ha fun v ty es' hv => h v ty es' (hle.alive hd hv)
  | pt hd h => exact fun hle => .pt (hle.ne hd) fun v ty es' hv => h v ty es' (hle.alive hd hv)
  | ip f ho hc h1 _ ih =>
    refine fun _ => .ip f (fun h0 => hok _ (ho h0)) (fun t ht => ?_) h1 fun t c hc' => ih t c hc' (rhoLe.refl _)
    rw [← hc t ht]
    refine World.cell?_of_block (w := w) ?_
    rw [add_block]
    exact hw _ (ho (by omega))
  | fn hl _ ih => exact fun hle => .fn hl fun t c x hc hx => ih t c x hc hx hle

/-- A row's elements, as they lie in the world: pr: what may they lead to. -/
def RowOk (w : World) (ok : Nat → Prop) (ρ : Rho) (v : Value) (ty es : Nat) (xs : List V) : Prop :=
  ∃ cs : List Value, w.ownsRow 0 ty es v xs.length cs ∧ ∀ (j : Nat) (e : V), xs[j]? = some e → e.cells.length = es ∧ ∀ (t : Nat) (c : V), e.cells[t]? = some c → ∃ x, cs[j * es + t]? = some x ∧ x.oneCell' = true ∧ Rep w ok ρ c x

def BlkOk (w : World) (ok : Nat → Prop) (ρ : Rho) (v : Value) (ty es : Nat) : Blk → Prop
  | .row ty' es' sc xs => ty' = ty ∧ es' = es ∧ RowOk w ok noRho v ty es xs ∧ (sc = true → ∀ e ∈ xs, e.scal = true)
  | .box ty' es' x => ty' = ty ∧ es' = es ∧ RowOk w ok ρ v ty es [x] ∧ ∃ g, v = .slice (some ⟨g, 0, none⟩) 1 1

structure Inv (imm : Nat → Prop) (w : World) (ρ : Rho) (η : Nat → Option Blk) : Prop where
  dist : ∀ b b' v v' ty ty' es es' k, ρ b = some (some (v, ty, es)) → ρ b' = some (some (v', ty', es')) → v.ownBlock = some k → v'.ownBlock = some k → b = b'
  dead : ∀ b, ρ b = some none → η b = none
  row : ∀ b v ty es, ρ b = some (some (v, ty, es)) → ∃ B, η b = some B ∧ BlkOk w (okB imm w ρ) ρ v ty es B
  own : ∀ k, aliveB ρ k → imm k
  new : ∀ k, w.heap.size ≤ k → imm k

/-- The world goes on: what was only read stays; rows are made or given up. -/
structure Ext (w : World) (ρ : Rho) (w' : World) (ρ' : Rho) : Prop where
  os : w'.os = w.os
  tape : w'.tape = w.tape
  output : w'.output = w.output
  size : w.heap.size ≤ w'.heap.size
  heap : ∀ k, k < w.heap.size → ¬ aliveB ρ k → w'.heap[k]? = w.heap[k]?
  ok : ∀ k, k < w.heap.size → ¬ aliveB ρ k → ¬ aliveB ρ' k
  le : rhoLe ρ ρ'

theorem Ext.refl (w : World) (ρ : Rho) : Ext w ρ w ρ := ⟨rfl, rfl, rfl, Nat.le_refl _, fun _ _ _ => rfl, fun _ _ h => h, rhoLe.refl ρ⟩

theorem Ext.trans {w w' w'' : World} {ρ ρ' ρ'' : Rho} (h : Ext w ρ w' ρ') (h' : Ext w' ρ' w'' ρ'') : Ext w ρ w'' ρ'' :=
  ⟨h'.os.trans h.os, h'.tape.trans h.tape, h'.output.trans h.output, Nat.le_trans h.size h'.size,
    fun k hk ha => (h'.heap k (Nat.lt_of_lt_of_le hk h.size) (h.ok k hk ha)).trans (h.heap k hk ha),
    fun k hk ha => h'.ok k (Nat.lt_of_lt_of_le hk h.size) (h.ok k hk ha), h.le.trans h'.le⟩

theorem Ext.okB {imm : Nat → Prop} {w w' : World} {ρ ρ' : Rho} (h : Ext w ρ w' ρ') (k : Nat) (hk : okB imm w ρ k) : okB imm w' ρ' k :=
  ⟨hk.1, Nat.lt_of_lt_of_le hk.2.1 h.size, h.ok k hk.2.1 hk.2.2⟩

theorem Rep.ext {imm : Nat → Prop} {w w' : World} {ρ ρ' : Rho} {v : V} {x : Value} (h : Rep w (okB imm w ρ) ρ v x) (he : Ext w ρ w' ρ') : Rep w' (okB imm w' ρ') ρ' v x :=
  h.mono he.okB (fun k hk => he.heap k hk.2.1 hk.2.2) he.le

end Go.Proofs.YtgamkmgdbfeigaaM
