/- A small deterministic machine over plain values (numbers, lists), into which Go functions of the program are read: its values, its code, its runs. Definitions alone. -/
import Derived.WalkKit
import Derived.Below
namespace Go.Proofs.YtgamkmgdbfeigaaM
open Go

/-- Values. un: nothing is known; sl: a list that is only read; nl: the nil slice; rf: a part of a row of the machine's own memory; pt: a place in it; ip: a place that is only read. -/
inductive V where
  | un
  | b (x : Bool)
  | i (k : IntKind) (n : Int)
  | p (x : Value)
  | ag (cs : List V)
  | tu (cs : List V)
  | sl (es : Nat) (xs : List V)
  | nl (ty es : Nat)
  | rf (b es off len : Nat)
  | pt (b es i off : Nat)
  | ip (cs : List V)
  | fn (f : Nat) (caps : List V)
  deriving Inhabited

/-- The machine's own memory: rows (a slice's cells; sc: scalars alone), boxes (a variable). -/
inductive Blk where
  | row (ty es : Nat) (sc : Bool) (xs : List V)
  | box (ty es : Nat) (v : V)

abbrev Env := List (Nat × V)
abbrev Hp := List (Option Blk)

def look : Env → Nat → V
  | [], _ => .un
  | (t', v) :: r, t => bif Nat.beq t' t then v else look r t

/-- Operands. -/
inductive A where
  | t (n : Nat)
  | c (v : V)

def A.ev (τ : Env) : A → V
  | .t n => look τ n
  | .c v => v

def V.cells : V → List V
  | .ag cs => cs
  | .un => []
  | v => [v]

/-- A part of some cells: an aggregate of sz cells, or one cell. -/
def part (ag : Bool) (off sz : Nat) (cs : List V) : Option V :=
  bif ag then (bif Nat.ble (off + sz) cs.length then some (.ag ((cs.drop off).take sz)) else none) else cs[off]?

/-- What lies behind a place in a value. -/
def ldV (g : Bool) (off sz : Nat) (e : V) : Option V := match e with
  | .ag cs => bif g && (Nat.beq off 0 && Nat.beq sz cs.length) then some (.ag cs) else part g off sz cs
  | e => part g off sz e.cells

def setPart (cs : List V) (off : Nat) (new : List V) : List V := cs.take off ++ (new ++ cs.drop (off + new.length))

inductive O where
  | mov (x : A)
  | pick (c a b : A)
  | box (ty es : Nat) (x : A)
  | bld (z : List V) (parts : List (Nat × Nat × A))
  | bsl (nk : Bool) (ty es : Nat) (parts : List A)
  | ld (ag : Bool) (sz : Nat) (a : A)
  | st (nk : Bool) (sz : Nat) (a x : A)
  | bin (op : BinOp) (x y : A)
  | eq (neg g : Bool) (bs : List Bool) (x y : A)
  | un (op : UnOp) (x : A)
  | cv (k : IntKind) (x : A)
  | fa (off : Nat) (x : A)
  | fld (ag : Bool) (off sz : Nat) (x : A)
  | ia (es : Nat) (x i : A)
  | iaa (n es : Nat) (x i : A)
  | ix (ag : Bool) (n es : Nat) (x i : A)
  | sub (es : Nat) (x : A) (lo hi : Option A)
  | ext (x : A) (k : Nat)
  | call (nk byref : Bool) (f : Nat) (xs : List A)
  | callv (nk byref : Bool) (x : A) (xs : List A)
  | mf (f : Nat) (caps : List A)
  | app (ty es by_ : Nat) (s x : A)
  | mks (ty es by_ : Nat) (z : V) (l c : A)
  | cpy (es : Nat) (d s : A)
  | len (x : A)
  | mm (mx : Bool) (x y : A)
  | nck (x : A)
  | bad

def intBin (op : BinOp) (k : IntKind) (x y : Int) : Option V :=
  match op with
  | .add => some (.i k (k.wrap (x + y)))
  | .sub => some (.i k (k.wrap (x - y)))
  | .mul => some (.i k (k.wrap (x * y)))
  | .quo => if y = 0 then none else some (.i k (k.wrap (x.tdiv y)))
  | .rem => if y = 0 then none else some (.i k (x.tmod y))
  | .and => some (.i k (k.wrap (BitVec.ofInt k.bits x &&& BitVec.ofInt k.bits y).toNat))
  | .or => some (.i k (k.wrap (BitVec.ofInt k.bits x ||| BitVec.ofInt k.bits y).toNat))
  | .xor => some (.i k (k.wrap (BitVec.ofInt k.bits x ^^^ BitVec.ofInt k.bits y).toNat))
  | .andNot => some (.i k (k.wrap (BitVec.ofInt k.bits x &&& ~~~ BitVec.ofInt k.bits y).toNat))
  | .eql => some (.b (x == y))
  | .neq => some (.b (x != y))
  | .lss => some (.b (decide (x < y)))
  | .leq => some (.b (decide (x ≤ y)))
  | .gtr => some (.b (decide (x > y)))
  | .geq => some (.b (decide (x ≥ y)))
  | .shl => if y < 0 then none else some (.i k (k.wrap (x * 2 ^ (min y.toNat k.bits))))
  | .shr => if y < 0 then none else some (.i k (x.fdiv (2 ^ (min y.toNat k.bits))))

def isShift : BinOp → Bool
  | .shl | .shr => true
  | _ => false

def binV (op : BinOp) : V → V → Option V
  | .i k x, .i k' y => bif (isShift op || decide (k = k')) then intBin op k x y else none
  | _, _ => none

/-- Equality of cells that are numbers or truth values. -/
def eq1 : Bool → V → V → Option Bool
  | false, .i k x, .i k' y => bif decide (k = k') then some (x == y) else none
  | true, .b x, .b y => some (x == y)
  | _, _, _ => none

def eqs : List Bool → List V → List V → Option Bool
  | [], [], [] => some true
  | b :: bs, x :: xs, y :: ys => (eq1 b x y).bind fun a => (eqs bs xs ys).map fun c => a && c
  | _, _, _ => none

def cellsIf : Bool → V → Option (List V)
  | true, .ag cs => some cs
  | true, _ => none
  | false, .ag _ => none
  | false, v => some [v]

def unV : UnOp → V → Option V
  | .neg, .i k n => some (.i k (k.wrap (0 - n)))
  | .xor, .i k n => intBin .xor k (if k.signed then -1 else k.max) n
  | .not, .b x => some (.b (!x))
  | _, _ => none

def V.asNat : V → Option Nat
  | .i _ n => if 0 ≤ n then some n.toNat else none
  | _ => none

def V.isSc : V → Bool
  | .b _ | .i _ _ | .p _ => true
  | _ => false

/-- Are all cells scalars? -/
def V.scal (v : V) : Bool := v.cells.all V.isSc

def hget (H : Hp) (b : Nat) : Option Blk := (H[b]?).join

/-- The elements of a list value. -/
def elems (H : Hp) (es : Nat) : V → Option (List V)
  | .sl es' xs => bif Nat.beq es es' then some xs else none
  | .nl _ _ => some []
  | .rf b es' off len => bif Nat.beq es es' then match hget H b with
    | some (.row _ es'' _ xs) => bif Nat.beq es es'' then some ((xs.drop off).take len) else none
    | _ => none else none
  | _ => none

/-- A cell with all of the machine's memory read out of it. -/
def frL (H : Hp) : V → V
  | .b x => .b x
  | .i k n => .i k n
  | .p x => .p x
  | .sl es xs => .sl es xs
  | .nl _ es => .sl es []
  | .rf b es off len => match hget H b with
    | some (.row _ es' _ xs) => bif Nat.beq es es' then .sl es ((xs.drop off).take len) else .un
    | _ => .un
  | .pt b es i off => match hget H b with
    | some (.box _ es' v) => bif Nat.beq es es' && (Nat.beq i 0 && v.scal) then .ip (v.cells.drop off) else .un
    | _ => .un
  | .ip cs => .ip cs
  | _ => .un

/-- A value with all of the machine's memory read out of it. -/
def frz (H : Hp) : V → V
  | .ag cs => .ag (cs.map (frL H))
  | .fn f caps => .fn f (caps.map (frL H))
  | v => frL H v

/-- The same of what a call hands back. -/
def frR (H : Hp) : V → V
  | .tu cs => .tu (cs.map (frz H))
  | v => frz H v

/-- The rows that a cell, a value leads to. -/
def idL : V → List Nat
  | .rf b _ _ _ => [b]
  | .pt b _ _ _ => [b]
  | _ => []

def V.ids : V → List Nat
  | .ag cs => cs.flatMap idL
  | .fn _ caps => caps.flatMap idL
  | v => idL v

/-- Is a cell that a call hands back free of whatever was there before? -/
def frsL (H : Hp) : V → Bool
  | .b _ | .i _ _ | .p _ | .un | .nl _ _ => true
  | .rf b _ _ _ => match hget H b with
    | some (.row _ _ sc _) => sc
    | _ => true
  | _ => false

def frsV (H : Hp) : V → Bool
  | .ag cs => cs.all (frsL H)
  | v => frsL H v

def frsR (H : Hp) : V → Bool
  | .tu cs => cs.all (frsV H)
  | v => frsV H v

def killH (H : Hp) (ids : List Nat) : Hp := ids.foldl (fun H b => H.set b none) H

def optA (τ : Env) (d : Nat) : Option A → Option Nat
  | none => some d
  | some x => (x.ev τ).asNat

/-- Does a value lie in sz cells? -/
def V.good (v : V) (sz : Nat) : Bool := match v with
  | .un | .tu _ => false
  | v => Nat.beq v.cells.length sz

def bldV (τ : Env) : List V → List (Nat × Nat × A) → Option (List V)
  | cs, [] => some cs
  | cs, (off, sz, a) :: r => bif (a.ev τ).good sz && Nat.ble (off + sz) cs.length then bldV τ (setPart cs off (a.ev τ).cells) r else none

/-- The operations that call nothing. -/
def O.evP (τ : Env) (H : Hp) : O → Option (V × Hp)
  | .mov x => some (x.ev τ, H)
  | .pick c x y => match c.ev τ with
    | .b t => some (bif t then x.ev τ else y.ev τ, H)
    | _ => none
  | .box ty es x => bif (x.ev τ).good es then some (.pt H.length es 0 0, H ++ [some (.box ty es (x.ev τ))]) else none
  | .bld z parts => (bldV τ z parts).map fun cs => (.ag cs, H)
  | .bsl nk ty es parts =>
    bif parts.all (fun x => (x.ev τ).good es && (frz H (x.ev τ)).good es) && (!nk || (parts.flatMap fun x => (x.ev τ).ids).isEmpty) then
      some (.rf H.length es 0 parts.length, killH H (parts.flatMap fun x => (x.ev τ).ids) ++ [some (.row ty es (parts.all fun x => (x.ev τ).scal) (parts.map fun x => frz H (x.ev τ)))])
    else none
  | .ld ag sz a => match a.ev τ with
    | .pt b es' i off => match hget H b with
      | some (.row _ es _ xs) => bif Nat.beq es es' then (xs[i]?).bind fun e => (ldV ag off sz e).map fun v => (v, H) else none
      | some (.box _ _ v) => bif Nat.beq i 0 then (ldV ag off sz v).map fun v => (v, H) else none
      | none => none
    | .ip cs => (part ag 0 sz cs).map fun v => (v, H)
    | _ => none
  | .st nk sz a x => match a.ev τ with
    | .pt b es' i off => bif (x.ev τ).good sz then (match hget H b with
      | some (.row ty es sc xs) => (xs[i]?).bind fun e =>
        bif (frz H (x.ev τ)).good sz && Nat.beq es es' && Nat.ble (off + sz) es && !((x.ev τ).ids.contains b) && (!nk || (x.ev τ).ids.isEmpty) then
          some (.un, (killH H (x.ev τ).ids).set b (some (.row ty es (sc && (x.ev τ).scal) (xs.set i (bif Nat.beq off 0 && Nat.beq sz es then frz H (x.ev τ) else .ag (setPart e.cells off (frz H (x.ev τ)).cells))))))
        else none
      | some (.box ty es v) =>
        bif Nat.beq i 0 && Nat.ble (off + sz) es && (!nk || (x.ev τ).ids.isEmpty) then
          some (.un, H.set b (some (.box ty es (bif Nat.beq off 0 && Nat.beq sz es then x.ev τ else .ag (setPart v.cells off (x.ev τ).cells)))))
        else none
      | none => none) else none
    | _ => none
  | .bin op x y => (binV op (x.ev τ) (y.ev τ)).map fun v => (v, H)
  | .eq neg g bs x y => (cellsIf g (x.ev τ)).bind fun cs => (cellsIf g (y.ev τ)).bind fun ds => (eqs bs cs ds).map fun r => (.b (bif neg then !r else r), H)
  | .un op x => (unV op (x.ev τ)).map fun v => (v, H)
  | .cv k x => match x.ev τ with
    | .i _ n => some (.i k (k.wrap n), H)
    | _ => none
  | .fa off x => match x.ev τ with
    | .pt b es i o => some (.pt b es i (o + off), H)
    | .ip cs => some (.ip (cs.drop off), H)
    | _ => none
  | .fld ag off sz x => match x.ev τ with
    | .ag cs => (part ag off sz cs).map fun v => (v, H)
    | _ => none
  | .ia es x i => match x.ev τ, i.ev τ with
    | .rf b es' off ln, .i _ n => bif Nat.beq es es' then (if 0 ≤ n ∧ n < ln then some (.pt b es (off + n.toNat) 0, H) else none) else none
    | .sl es' xs, .i _ n => bif Nat.beq es es' then (if 0 ≤ n ∧ n < xs.length then (xs[n.toNat]?).map fun e => (.ip e.cells, H) else none) else none
    | _, _ => none
  | .iaa n es x i => match x.ev τ, i.ev τ with
    | .pt b es' j o, .i _ k => if 0 ≤ k ∧ k < n then some (.pt b es' j (o + k.toNat * es), H) else none
    | .ip cs, .i _ k => if 0 ≤ k ∧ k < n then some (.ip (cs.drop (k.toNat * es)), H) else none
    | _, _ => none
  | .ix ag n es x i => match x.ev τ, i.ev τ with
    | .ag cs, .i _ k => if 0 ≤ k ∧ k < n then (part ag (k.toNat * es) es cs).map fun v => (v, H) else none
    | _, _ => none
  | .sub es x lo hi => match x.ev τ with
    | .rf b es' off ln => (optA τ 0 lo).bind fun l => (optA τ ln hi).bind fun h => if es = es' ∧ l ≤ h ∧ h ≤ ln then some (.rf b es (off + l) (h - l), H) else none
    | .sl es' xs => (optA τ 0 lo).bind fun l => (optA τ xs.length hi).bind fun h => if es = es' ∧ l ≤ h ∧ h ≤ xs.length then some (.sl es ((xs.drop l).take (h - l)), H) else none
    | _ => none
  | .ext x k => match x.ev τ with
    | .tu cs => (cs[k]?).map fun v => (v, H)
    | _ => none
  | .mf f caps => some (.fn f (caps.map fun x => x.ev τ), H)
  | .app ty es by_ s x => (elems H es (x.ev τ)).bind fun ys => match s.ev τ with
    | .nl _ _ => if ys.length * by_ ≤ 140737488355328 then some (.rf H.length es 0 ys.length, H ++ [some (.row ty es (ys.all V.scal) ys)]) else none
    | .rf b es'' off ln => match hget H b with
      | some (.row ty' es' sc xs) => bif Nat.beq off 0 && Nat.beq ty' ty && Nat.beq es' es && Nat.beq es'' es then
          (if ln = xs.length ∧ (ln + ys.length) * by_ ≤ 140737488355328 then some (.rf H.length es 0 (ln + ys.length), H.set b none ++ [some (.row ty es (sc && ys.all V.scal) (xs ++ ys))]) else none) else none
      | _ => none
    | _ => none
  | .mks ty es by_ z l c => match l.ev τ, c.ev τ with
    | .i _ n, .i _ m => if n = m ∧ 0 ≤ n ∧ n.toNat * by_ ≤ 140737488355328 then some (.rf H.length es 0 n.toNat, H ++ [some (.row ty es z.scal (List.replicate n.toNat z))]) else none
    | _, _ => none
  | .len x => match x.ev τ with
    | .rf _ _ _ ln => some (.i .i64 ln, H)
    | .sl _ xs => some (.i .i64 xs.length, H)
    | .nl _ _ => some (.i .i64 0, H)
    | _ => none
  | .mm mx x y => match x.ev τ, y.ev τ with
    | .i k a, .i k' c => bif decide (k = k') then some (.i k (bif mx then (if c > a then c else a) else (if c < a then c else a)), H) else none
    | _, _ => none
  | .nck x => match x.ev τ with
    | .pt b es i o => some (.pt b es i o, H)
    | .ip cs => some (.ip cs, H)
    | .fn f caps => some (.fn f caps, H)
    | _ => none
  | _ => none

def A.tmps : A → List Nat
  | .t n => [n]
  | .c _ => []

def optTmps : Option A → List Nat
  | none => []
  | some x => x.tmps

/-- The temporaries that an operation looks at. -/
def O.tmps : O → List Nat
  | .mov x | .box _ _ x | .un _ x | .cv _ x | .fa _ x | .fld _ _ _ x | .ext x _ | .len x | .nck x | .ld _ _ x => x.tmps
  | .pick c a b => c.tmps ++ (a.tmps ++ b.tmps)
  | .bld _ ps => ps.flatMap fun q => q.2.2.tmps
  | .bsl _ _ _ ps => ps.flatMap A.tmps
  | .st _ _ a x => a.tmps ++ x.tmps
  | .bin _ x y | .eq _ _ _ x y | .ia _ x y | .iaa _ _ x y | .ix _ _ _ x y | .app _ _ _ x y | .mks _ _ _ _ x y | .cpy _ x y | .mm _ x y => x.tmps ++ y.tmps
  | .sub _ x l h => x.tmps ++ (optTmps l ++ optTmps h)
  | .call _ _ _ xs => xs.flatMap A.tmps
  | .callv _ _ g xs => g.tmps ++ xs.flatMap A.tmps
  | .mf _ cs => cs.flatMap A.tmps
  | .bad => []

/-- The row that a value leads to. -/
def V.tid : V → List Nat
  | .pt m _ _ _ => [m]
  | .rf m _ _ _ => [m]
  | _ => []

/-- The rows that an operation looks at. -/
def O.touch (τ : Env) (H : Hp) : O → List Nat
  | .ld _ _ a => (a.ev τ).tid
  | .st _ _ a x => (a.ev τ).tid ++ (x.ev τ).ids
  | .bsl _ _ _ ps => ps.flatMap fun x => (x.ev τ).ids
  | .app _ _ _ s x => (s.ev τ).tid ++ (x.ev τ).tid
  | .cpy _ d s => (d.ev τ).tid ++ (s.ev τ).tid
  | .call _ byref _ xs => bif byref then List.range H.length else xs.flatMap fun x => (x.ev τ).ids
  | .callv _ byref g xs => bif byref then List.range H.length else (xs.flatMap fun x => (x.ev τ).ids) ++ (g.ev τ).ids
  | _ => []

/-- The rows that an operation may change. -/
def O.writes (τ : Env) (H : Hp) : O → List Nat
  | .ld _ _ _ => []
  | .app _ _ _ s _ => (s.ev τ).tid
  | .cpy _ d _ => (d.ev τ).tid
  | .call nk byref f xs => bif nk && !byref then [] else (O.call nk byref f xs).touch τ H
  | .callv nk byref g xs => bif nk && !byref then [] else (O.callv nk byref g xs).touch τ H
  | o => o.touch τ H

/-- The memory behind an operation that was carried out at H and has come to H', seen from a memory η that agrees with H where it matters. -/
def upd (ws : List Nat) (η : Nat → Option Blk) (H H' : Hp) : Nat → Option Blk := fun b => if b ∈ ws ∨ (H.length ≤ b ∧ b < H'.length) then hget H' b else η b

/-- The operations that do not look at the machine's memory. -/
def O.isPure : O → Bool
  | .mov _ | .pick _ _ _ | .bld _ _ | .bin _ _ _ | .eq _ _ _ _ _ | .un _ _ | .cv _ _ | .fa _ _ | .fld _ _ _ _ | .ia _ _ _ | .iaa _ _ _ _ | .ix _ _ _ _ _ | .sub _ _ _ _ | .ext _ _ | .mf _ _ | .len _ | .mm _ _ _ | .nck _ => true
  | _ => false

/-- A region: operations in their order; sc: a part that is carried out only where the temporary c is 'want' ('and', 'or'). -/
inductive R where
  | done
  | op (dst : Option Nat) (o : O) (rest : R)
  | sc (c : Nat) (want : Bool) (its : R) (dst : Nat) (res : A) (rest : R)

def put (τ : Env) (d : Option Nat) (v : V) : Env := match d with
  | some d => (d, v) :: τ
  | none => τ

def R.dsts : R → List Nat
  | .done => []
  | .op (some d) _ r => d :: r.dsts
  | .op none _ r => r.dsts
  | .sc _ _ its d _ r => its.dsts ++ (d :: r.dsts)

def kill (τ : Env) : List Nat → Env
  | [] => τ
  | d :: ds => (d, .un) :: kill τ ds

structure St where
  base : Nat
  τ : Env
  H : Hp

inductive Ex where
  | nrm
  | exit (id : Nat)
  | ret

inductive C where
  | skip
  | reg (draw : Bool) (pairs : List (Nat × Nat)) (r : R)
  | seq (a b : C)
  | cnd (c : A) (x y : C)
  | blk (id : Nat) (c : C)
  | loop (keep : List Nat) (c : C)
  | exit (id : Nat)
  | ret

inductive Res where
  | t (n : Nat)
  | c (n : Nat) (ag : Bool) (sz : Nat)

structure Fn where
  np : Nat
  res : List Res
  body : C

def Res.ev (s : St) : Res → Option V
  | .t n => some (look s.τ n)
  | .c n ag sz => ((O.ld ag sz (.t n)).evP s.τ s.H).map (·.1)

def resEv (s : St) : List Res → Option (List V)
  | [] => some []
  | r :: rs => (r.ev s).bind fun v => (resEv s rs).map fun vs => v :: vs

def Fn.result (fn : Fn) (s : St) : Option V := (resEv s fn.res).map fun
  | [v] => v
  | vs => .tu vs

def envOf : Nat → List V → Env
  | _, [] => []
  | n, x :: xs => (n, x) :: envOf (n + 1) xs

/-! At a loop's head: what the next round needs, its rows numbered anew. -/

abbrev Olds := List (Option Nat × Nat × Nat)

def posOf (b : Nat) : Olds → Nat → Option Nat
  | [], _ => none
  | (some b', _, _) :: r, k => bif Nat.beq b b' then some k else posOf b r (k + 1)
  | (none, _, _) :: r, k => posOf b r (k + 1)

def cId (base b : Nat) (o : Olds) : Nat × Olds :=
  bif Nat.blt b base then (b, o) else match posOf b o 0 with
  | some k => (base + k, o)
  | none => (base + o.length, o ++ [(some b, 0, 0)])

def cL (base : Nat) (v : V) (o : Olds) : V × Olds := match v with
  | .rf b es off ln => (.rf (cId base b o).1 es off ln, (cId base b o).2)
  | .pt b es i off => (.pt (cId base b o).1 es i off, (cId base b o).2)
  | .nl ty es => (.rf (base + o.length) es 0 0, o ++ [(none, ty, es)])
  | .ag _ | .tu _ | .fn _ _ => (.un, o)
  | v => (v, o)

def cLs (base : Nat) : List V → Olds → List V × Olds
  | [], o => ([], o)
  | v :: vs, o => ((cL base v o).1 :: (cLs base vs (cL base v o).2).1, (cLs base vs (cL base v o).2).2)

def cV (base : Nat) (v : V) (o : Olds) : V × Olds := match v with
  | .ag cs => (.ag (cLs base cs o).1, (cLs base cs o).2)
  | .fn f cs => (.fn f (cLs base cs o).1, (cLs base cs o).2)
  | v => cL base v o

def cEnv (base : Nat) (τ : Env) : List Nat → Olds → Env × Olds
  | [], o => ([], o)
  | t :: ts, o => ((t, (cV base (look τ t) o).1) :: (cEnv base τ ts (cV base (look τ t) o).2).1, (cEnv base τ ts (cV base (look τ t) o).2).2)

def cBlk (base : Nat) (B : Option Blk) (o : Olds) : Option Blk × Olds := match B with
  | some (.box ty es v) => (some (.box ty es (cV base v o).1), (cV base v o).2)
  | B => (B, o)

def cBlks (base : Nat) : Hp → Olds → Hp × Olds
  | [], o => ([], o)
  | B :: Bs, o => ((cBlk base B o).1 :: (cBlks base Bs (cBlk base B o).2).1, (cBlks base Bs (cBlk base B o).2).2)

def oldBlk (H : Hp) : Option Nat × Nat × Nat → Option Blk
  | (some b, _, _) => hget H b
  | (none, ty, es) => some (.row ty es true [])

/-- The rows that have been met, from place k on; more may be met on the way. -/
def cNew (base : Nat) (H : Hp) : Nat → Nat → Olds → Hp × Olds
  | 0, _, o => ([], o)
  | n + 1, k, o => match o[k]? with
    | none => ([], o)
    | some q => ((cBlk base (oldBlk H q) o).1 :: (cNew base H n (k + 1) (cBlk base (oldBlk H q) o).2).1, (cNew base H n (k + 1) (cBlk base (oldBlk H q) o).2).2)

def canon (keep : List Nat) (s : St) : St :=
  let e := cEnv s.base s.τ keep []
  let b := cBlks s.base (s.H.take s.base) e.2
  let n := cNew s.base s.H 40 0 b.2
  ⟨s.base, e.1, b.1 ++ (n.1 ++ List.replicate (n.2.length - n.1.length) none)⟩

/-- Places that must not lie in one box: their numbers part. -/
def apartB (τ : Env) : List (Nat × Nat) → Bool
  | [] => true
  | (x, y) :: r => (match look τ x, look τ y with
    | .pt b _ _ _, .pt b' _ _ _ => !Nat.beq b b'
    | _, _ => false) && apartB τ r

/-! ### Reading the program's operations -/

def leafTys (P : Program) : Nat → TypeId → List TypeId
  | 0, _ => []
  | n + 1, t => match P.underlying t with
    | some (.struct fs) => fs.toList.flatMap fun f => leafTys P n f.type
    | some (.array m e) => (List.replicate m ()).flatMap fun _ => leafTys P n e
    | _ => [t]

def trL (P : Program) (t : TypeId) : Value → Option V
  | .bool b => some (.b b)
  | .int k n => some (.i k n)
  | .string s => some (.p (.string s))
  | .nilFunc => some (.p .nilFunc)
  | .nilIface => some (.p .nilIface)
  | .pointer none => some (.p (.pointer none))
  | .slice none 0 0 => match P.underlying t with
    | some (.slice e) => some (.nl e (P.cellsOf e))
    | _ => none
  | _ => none

def trLs (P : Program) : List TypeId → List Value → Option (List V)
  | [], [] => some []
  | t :: ts, v :: vs => (trL P t v).bind fun x => (trLs P ts vs).map fun xs => x :: xs
  | _, _ => none

def trV (P : Program) (t : TypeId) : Value → Option V
  | .agg cs => (trLs P (leafTys P 9 t) cs.toList).map .ag
  | v => trL P t v

def trA (P : Program) (t : TypeId) : Operand → Option A
  | .tmp n => some (.t n)
  | .const v => (trV P t v).map .c
  | .func f => some (.c (.fn f []))
  | .global _ => none

def trAs (P : Program) : List TypeId → List Operand → Option (List A)
  | [], [] => some []
  | t :: ts, v :: vs => (trA P t v).bind fun x => (trAs P ts vs).map fun xs => x :: xs
  | _, _ => none

def isAggT (P : Program) (t : TypeId) : Option Bool := (P.underlying t).map fun
  | .struct _ | .array _ _ => true
  | _ => false

def szOf (P : Program) (t : TypeId) : Option Nat := (P.info? t).bind fun i => bif Nat.beq i.size 0 then none else some i.size

def fldOf (P : Program) (s f : Nat) : Option (Nat × TypeId) := match P.underlying s with
  | some (.struct fs) => (fs[f]?).map fun fd => (fd.offset, fd.type)
  | _ => none

def elemOfS (P : Program) (t : TypeId) : Option TypeId := match P.underlying t with
  | some (.slice e) => some e
  | _ => none

def arrOf (P : Program) (t : TypeId) : Option (Nat × TypeId) := match P.underlying t with
  | some (.array n e) => some (n, e)
  | _ => none

def isIntT (P : Program) (t : TypeId) : Bool := match P.underlying t with
  | some (.int _) => true
  | _ => false

/-- Are all cells numbers or truth values, compared one by one? -/
def flatFs (P : Program) (rec_ : TypeId → Option (List Bool)) : Nat → List Field → Option (List Bool)
  | _, [] => some []
  | off, f :: fs => bif Nat.beq f.offset off && f.name != "_" then (rec_ f.type).bind fun m => (szOf P f.type).bind fun k => bif Nat.beq k m.length then (flatFs P rec_ (off + m.length) fs).map fun l => m ++ l else none else none

def flatTy (P : Program) : Nat → TypeId → Option (List Bool)
  | 0, _ => none
  | n + 1, t => match P.underlying t with
    | some .bool => some [true]
    | some (.int _) => some [false]
    | some (.struct fs) => bif P.stoodInHeld t then none else flatFs P (flatTy P n) 0 fs.toList
    | _ => none

def bldParts (P : Program) (place : Nat → Option (Nat × Nat)) (ty : Nat → Option TypeId) : List (Nat × Operand) → Option (List (Nat × Nat × A))
  | [] => some []
  | (i, x) :: r => (place i).bind fun q => (ty i).bind fun t => (trA P t x).bind fun a => (bldParts P place ty r).map fun l => (q.1, q.2, a) :: l

def slParts (P : Program) (e : Nat) : Nat → List (Nat × Operand) → Option (List A)
  | _, [] => some []
  | k, (i, x) :: r => bif Nat.beq i k then (trA P e x).bind fun a => (slParts P e (k + 1) r).map fun l => a :: l else none

def trOptA (P : Program) : Option Operand → Option (Option A)
  | none => some none
  | some x => (trA P 0 x).map some

def zeroOf (P : Program) (t : TypeId) : Option V := (P.info? t).bind fun i => i.zero.bind fun z => trV P t z

def zeroGood (P : Program) (e sz : Nat) : Bool := match zeroOf P e with
  | some z => z.good sz
  | none => false

def trO (P : Program) (o : Oper) : Option O := match o.op with
  | .move x | .assign x => (trA P o.type x).map .mov
  | .pick c a b => (trA P 0 c).bind fun c => (trA P o.type a).bind fun a => (trA P o.type b).map fun b => .pick c a b
  | .alloc e => (zeroOf P e).bind fun z => (szOf P e).map fun sz => .box e sz (.c z)
  | .box e x => (trA P e x).bind fun x => (szOf P e).map fun sz => .box e sz x
  | .build t parts => (zeroOf P t).bind fun z => match P.underlying t with
    | some (.struct fs) => (fs.toList.mapM fun f => (P.info? f.type).map fun i => (f.offset, i.size)).bind fun pl => (bldParts P (pl.toArray[·]?) (fun i => (fs[i]?).map (·.type)) parts.toList).map fun l => .bld z.cells l
    | some (.array _ e) => (P.info? e).bind fun i => (bldParts P (fun k => some (k * i.size, i.size)) (fun _ => some e) parts.toList).map fun l => .bld z.cells l
    | _ => none
  | .buildSlice t len parts => (elemOfS P t).bind fun e => (szOf P e).bind fun sz => bif Nat.beq parts.size len && Nat.ble (len * sz) 16777216 && Option.isSome (zeroOf P e) then (slParts P e 0 parts.toList).map fun l => .bsl false e sz l else none
  | .load t a => (trA P 0 a).bind fun a => (isAggT P t).bind fun g => (szOf P t).map fun sz => .ld g sz a
  | .store t a x => (trA P 0 a).bind fun a => (trA P t x).bind fun x => (szOf P t).map fun sz => .st false sz a x
  | .binOp op t x y _ => bif isIntT P t then (trA P t x).bind fun x => (trA P t y).map fun y => .bin op x y
    else match op with
      | .eql => (flatTy P 9 t).bind fun bs => (isAggT P t).bind fun g => bif P.eqGuardType P.depth t then none else (trA P t x).bind fun x => (trA P t y).map fun y => .eq false g bs x y
      | .neq => (flatTy P 9 t).bind fun bs => (isAggT P t).bind fun g => bif P.eqGuardType P.depth t then none else (trA P t x).bind fun x => (trA P t y).map fun y => .eq true g bs x y
      | _ => none
  | .unOp op t x => (trA P t x).map fun x => .un op x
  | .convert s d x => match P.underlying s, P.underlying d with
    | some _, some (.int k) => (trA P s x).map fun x => .cv k x
    | _, _ => none
  | .makeFunc (.func f) first caps => bif Nat.beq first.size 0 then (trAs P (caps.toList.map fun _ => 0) caps.toList).map fun l => .mf f l else none
  | .makeSlice t l c => (elemOfS P t).bind fun e => (P.info? e).bind fun i => (szOf P e).bind fun sz => (zeroOf P e).bind fun z => bif z.good sz && Nat.ble 1 i.bytes then (trA P 0 l).bind fun l => (trA P 0 c).map fun c => .mks e sz i.bytes z l c else none
  | .slice t x lo hi none => (elemOfS P t).bind fun e => (szOf P e).bind fun sz => (trA P t x).bind fun x => (trOptA P lo).bind fun lo => (trOptA P hi).map fun hi => .sub sz x lo hi
  | .fieldAddr s x f => (fldOf P s f).bind fun q => (szOf P q.2).bind fun _ => (trA P 0 x).map fun x => .fa q.1 x
  | .field s x f => (fldOf P s f).bind fun q => (szOf P q.2).bind fun sz => (isAggT P q.2).bind fun g => (trA P s x).map fun x => .fld g q.1 sz x
  | .indexAddr t x i => match P.underlying t with
    | some (.slice e) => (szOf P e).bind fun sz => (trA P t x).bind fun x => (trA P 0 i).map fun i => .ia sz x i
    | some (.array n e) => bif Nat.ble n 1 then none else (szOf P e).bind fun sz => (trA P t x).bind fun x => (trA P 0 i).map fun i => .iaa n sz x i
    | _ => none
  | .index t x i => match P.underlying t with
    | some (.array n e) => (szOf P e).bind fun sz => (isAggT P e).bind fun g => (trA P t x).bind fun x => (trA P 0 i).map fun i => .ix g n sz x i
    | _ => none
  | .extract x k => (trA P 0 x).map fun x => .ext x k
  | .nilCheck x => (trA P 0 x).map fun x => .nck x
  | .call c => match c.callee with
    | .value (.func f) => (trAs P c.argTypes.toList c.args.toList).map fun l => .call false false f l
    | .value (.tmp t) => (trAs P c.argTypes.toList c.args.toList).map fun l => .callv false false (.t t) l
    | .builtin .len => match c.args.toList, c.argTypes.toList with
      | [x], [t] => (elemOfS P t).bind fun _ => (trA P t x).map fun x => .len x
      | _, _ => none
    | .builtin .max => match c.args.toList, c.argTypes.toList with
      | [x, y], [t, t'] => (trA P t x).bind fun x => (trA P t' y).map fun y => .mm true x y
      | _, _ => none
    | .builtin .min => match c.args.toList, c.argTypes.toList with
      | [x, y], [t, t'] => (trA P t x).bind fun x => (trA P t' y).map fun y => .mm false x y
      | _, _ => none
    | .builtin .append => match c.args.toList, c.argTypes.toList with
      | [s, x], [t, t'] => bif Nat.beq t t' then (elemOfS P t).bind fun e => (P.info? e).bind fun i => (szOf P e).bind fun sz => bif zeroGood P e sz && Nat.ble 1 i.bytes then (trA P t s).bind fun s => (trA P t x).map fun x => .app e sz i.bytes s x else none else none
      | _, _ => none
    | .builtin .copy => match c.args.toList, c.argTypes.toList with
      | [s, x], [t, _] => (elemOfS P t).bind fun e => (szOf P e).bind fun sz => (trA P t s).bind fun s => (trA P t x).map fun x => .cpy sz s x
      | _, _ => none
    | _ => none
  | _ => none

/-- The marks by which this reading guides a run, taken off. -/
def O.norm : O → O
  | .bsl _ ty es ps => .bsl false ty es ps
  | .st _ sz a x => .st false sz a x
  | .call _ _ f xs => .call false false f xs
  | .callv _ _ g xs => .callv false false g xs
  | o => o

/-- What is said of the machine. -/
inductive Jd where
  | fn (f : Nat) (xs : List V) (H : Hp) (R : V → Hp → Prop)
  | wp (c : C) (s : St) (Q : Ex → St → Prop)
  | lp (keep : List Nat) (c : C) (s : St) (Q : Ex → St → Prop)
  | run (r : R) (s s' : St)
  | stp (o : O) (τ : Env) (H : Hp) (v : V) (H' : Hp)

abbrev Contracts := Nat → List V → Hp → (V → Hp → Prop) → Prop

/-- The machine's judgements: F: the functions' code; X: contracts that are given. -/
inductive J (F : Nat → Option Fn) (X : Contracts) : Jd → Prop
  | fn {f : Nat} {xs : List V} {H : Hp} {R : V → Hp → Prop} (fn : Fn) (Q : Ex → St → Prop) (hf : F f = some fn) (hn : xs.length = fn.np)
      (h : J F X (.wp fn.body ⟨H.length, envOf 0 xs, H⟩ Q)) (hx : ∀ id s, ¬ Q (.exit id) s)
      (hr : ∀ e s, Q e s → ∃ v, fn.result s = some v ∧ R v s.H) : J F X (.fn f xs H R)
  | ext {f : Nat} {xs : List V} {H : Hp} {R : V → Hp → Prop} (R0 : V → Hp → Prop) (h : X f xs H R0) (hR : ∀ v H', R0 v H' → R v H') : J F X (.fn f xs H R)
  | skip {s : St} {Q : Ex → St → Prop} (h : Q .nrm s) : J F X (.wp .skip s Q)
  | reg {d : Bool} {ps : List (Nat × Nat)} {r : R} {s s' : St} {Q : Ex → St → Prop} (h : J F X (.run r s s')) (hp : apartB s'.τ ps = true) (hq : Q .nrm s') : J F X (.wp (.reg d ps r) s Q)
  | seq {a c : C} {s : St} {Q : Ex → St → Prop} (Q' : Ex → St → Prop) (h : J F X (.wp a s Q')) (hn : ∀ s', Q' .nrm s' → J F X (.wp c s' Q))
      (he : ∀ id s', Q' (.exit id) s' → Q (.exit id) s') (hr : ∀ s', Q' .ret s' → Q .ret s') : J F X (.wp (.seq a c) s Q)
  | cnd {c : A} {x y : C} {s : St} {Q : Ex → St → Prop} (t : Bool) (hc : c.ev s.τ = .b t) (ht : t = true → J F X (.wp x s Q)) (hf : t = false → J F X (.wp y s Q)) : J F X (.wp (.cnd c x y) s Q)
  | blk {id : Nat} {c : C} {s : St} {Q : Ex → St → Prop} (Q' : Ex → St → Prop) (h : J F X (.wp c s Q')) (hn : ∀ s', Q' .nrm s' → Q .nrm s')
      (he : ∀ j s', Q' (.exit j) s' → if j = id then Q .nrm s' else Q (.exit j) s') (hr : ∀ s', Q' .ret s' → Q .ret s') : J F X (.wp (.blk id c) s Q)
  | loop {keep : List Nat} {c : C} {s : St} {Q : Ex → St → Prop} (h : J F X (.lp keep c (canon keep s) Q)) : J F X (.wp (.loop keep c) s Q)
  | exit {id : Nat} {s : St} {Q : Ex → St → Prop} (h : Q (.exit id) s) : J F X (.wp (.exit id) s Q)
  | ret {s : St} {Q : Ex → St → Prop} (h : Q .ret s) : J F X (.wp .ret s Q)
  | lp {keep : List Nat} {c : C} {s : St} {Q : Ex → St → Prop} (Q' : Ex → St → Prop) (h : J F X (.wp c s Q')) (hn : ∀ s', Q' .nrm s' → J F X (.lp keep c (canon keep s') Q))
      (he : ∀ id s', Q' (.exit id) s' → Q (.exit id) s') (hr : ∀ s', Q' .ret s' → Q .ret s') : J F X (.lp keep c s Q)
  | done {s : St} : J F X (.run .done s s)
  | op {d : Option Nat} {o : O} {r : R} {s s' : St} (v : V) (H' : Hp) (h : J F X (.stp o s.τ s.H v H')) (ht : ((o.touch s.τ s.H).all fun b => Nat.blt b s.H.length) = true) (hr : J F X (.run r ⟨s.base, put s.τ d v, H'⟩ s')) : J F X (.run (.op d o r) s s')
  | sc {c : Nat} {want : Bool} {its r : R} {d : Nat} {res : A} {s s' : St} (x y : Bool) (s1 : St) (E : Hp) (hc : look s.τ c = .b x) (h : J F X (.run its s s1)) (hy : res.ev s1.τ = .b y) (hE : s1.H = s.H ++ E)
      (hr : J F X (.run r ⟨s.base, (d, .b (bif want then x && y else x || y)) :: kill s.τ its.dsts, s1.H⟩ s')) : J F X (.run (.sc c want its d res r) s s')
  | scF {c : Nat} {want : Bool} {its r : R} {d : Nat} {res : A} {s s' : St} (x : Bool) (hc : look s.τ c = .b x) (hx : x = !want)
      (hr : J F X (.run r ⟨s.base, (d, .b (!want)) :: kill s.τ its.dsts, s.H⟩ s')) : J F X (.run (.sc c want its d res r) s s')
  | scT {c : Nat} {want : Bool} {its r : R} {d : Nat} {res : A} {s s' : St} (y : Bool) (s1 : St) (hc : look s.τ c = .b want) (h : J F X (.run its s s1)) (hy : res.ev s1.τ = .b y)
      (hr : J F X (.run r ⟨s.base, (d, .b y) :: kill s.τ its.dsts, s1.H⟩ s')) : J F X (.run (.sc c want its d res r) s s')
  | pure {o : O} {τ : Env} {H : Hp} {v : V} {H' : Hp} (h : o.evP τ H = some (v, H')) : J F X (.stp o τ H v H')
  | call {nk : Bool} {f : Nat} {xs : List A} {τ : Env} {H : Hp} {v : V} (fr : Bool) (h : J F X (.fn f (xs.map fun x => frz H (x.ev τ)) [] fun r H' => frR H' r = v ∧ (fr = true → frsR H' r = true)))
      (hk : (bif nk then fr || (xs.flatMap fun x => (x.ev τ).ids).isEmpty else true) = true) : J F X (.stp (.call nk false f xs) τ H v (bif fr then H else killH H (xs.flatMap fun x => (x.ev τ).ids)))
  | callr {nk : Bool} {f : Nat} {xs : List A} {τ : Env} {H : Hp} {v : V} {H' : Hp} (h : J F X (.fn f (xs.map fun x => x.ev τ) H fun r H1 => r = v ∧ H1 = H')) (hl : H.length ≤ H'.length) : J F X (.stp (.call nk true f xs) τ H v H')
  | callv {nk : Bool} {g : A} {xs : List A} {τ : Env} {H : Hp} {v : V} (f : Nat) (caps : List V) (fr : Bool) (hg : g.ev τ = .fn f caps)
      (h : J F X (.fn f ((xs.map fun x => frz H (x.ev τ)) ++ caps.map (frL H)) [] fun r H' => frR H' r = v ∧ (fr = true → frsR H' r = true)))
      (hk : (bif nk then fr || ((xs.flatMap fun x => (x.ev τ).ids) ++ caps.flatMap idL).isEmpty else true) = true) : J F X (.stp (.callv nk false g xs) τ H v (bif fr then H else killH H ((xs.flatMap fun x => (x.ev τ).ids) ++ caps.flatMap idL)))
  | callvr {nk : Bool} {g : A} {xs : List A} {τ : Env} {H : Hp} {v : V} {H' : Hp} (f : Nat) (caps : List V) (hg : g.ev τ = .fn f caps)
      (h : J F X (.fn f ((xs.map fun x => x.ev τ) ++ caps) H fun r H1 => r = v ∧ H1 = H')) (hl : H.length ≤ H'.length) : J F X (.stp (.callv nk true g xs) τ H v H')

/-! ### Reading a function's code -/

/-- An operation of a region, with the temporary that it writes and what it waits for. -/
structure Fl where
  dst : Option Nat
  op : O
  g : Option (Nat × Bool)

/-- A region's operations in a row. -/
def R.flat (g : Option (Nat × Bool)) : R → List Fl
  | .done => []
  | .op d o r => ⟨d, o, g⟩ :: r.flat g
  | .sc c want its d res r => its.flat (some (c, want)) ++ (⟨some d, bif want then .pick (.t c) res (.c (.b false)) else .pick (.t c) (.c (.b true)) res, g⟩ :: r.flat g)

def Fl.norm (x : Fl) : Fl := ⟨x.dst, x.op.norm, x.g⟩

inductive N where
  | skip
  | reg (draw : Bool) (fs : List Fl)
  | seq (a b : N)
  | cnd (c : A) (x y : N)
  | blk (id : Nat) (c : N)
  | loop (c : N)
  | exit (id : Nat)
  | ret

def C.nrm : C → N
  | .skip => .skip
  | .reg d _ r => .reg d ((r.flat none).map Fl.norm)
  | .seq a b => .seq a.nrm b.nrm
  | .cnd c x y => .cnd c x.nrm y.nrm
  | .blk id c => .blk id c.nrm
  | .loop _ c => .loop c.nrm
  | .exit id => .exit id
  | .ret => .ret

def trG (ops : Array Oper) : Option (Nat × Bool) → Option (Option (Nat × Bool))
  | none => some none
  | some (j, want) => ((ops[j]?).bind (·.dst)).map fun c => some (c, want)

/-- What cannot be read must not be carried out. -/
def trOb (P : Program) (o : Oper) : O := match trO P o with
  | some q => q
  | none => .bad

def O.isBad : O → Bool
  | .bad => true
  | _ => false

def trFl (P : Program) (ops : Array Oper) (o : Oper) : Option Fl := (trG ops o.guard).map fun g => ⟨o.dst, trOb P o, g⟩

def trFls (P : Program) (ops : Array Oper) : List Oper → Option (List Fl)
  | [] => some []
  | o :: r => (trFl P ops o).bind fun x => (trFls P ops r).map fun l => x :: l

def trRes (P : Program) : List ResultVar → Option (List Res)
  | [] => some []
  | .tmp t :: r => (trRes P r).map fun l => .t t :: l
  | .cell a t :: r => (isAggT P t).bind fun g => (szOf P t).bind fun sz => (trRes P r).map fun l => .c a g sz :: l

def trN (P : Program) : Code → Option N
  | .skip => some .skip
  | .region _ ops d => (trFls P ops ops.toList).map fun l => .reg d l
  | .seq a b => (trN P a).bind fun x => (trN P b).map fun y => .seq x y
  | .cond c a b => (trA P 0 c).bind fun c => (trN P a).bind fun x => (trN P b).map fun y => .cnd c x y
  | .block id c => (trN P c).map fun x => .blk id x
  | .loop c => (trN P c).map fun x => .loop x
  | .exit id => some (.exit id)
  | .ret => some .ret
  | _ => none

/-- Parts that are carried out on a condition: the condition's temporary is not written by them; a condition inside of one is its own. -/
def R.okR (inner : Bool) (ds : List Nat) : R → Bool
  | .done => true
  | .op (some d) _ r => r.okR inner (d :: ds)
  | .op none _ r => r.okR inner ds
  | .sc c _ its d _ r => (!inner || ds.contains c) && !its.dsts.contains c && its.okR true [] && r.okR inner (d :: (its.dsts ++ ds))

/-- What an operation has to do with memory. -/
inductive Mk where
  | pure
  | nw
  | all
  | rd (a : Nat)
  | al
  | st (a : Nat)
  | big

def O.mk : O → Mk
  | .ld _ _ (.t a) => .rd a
  | .ld _ _ (.c _) => .big
  | .box _ _ _ | .mks _ _ _ _ _ _ => .nw
  | .bsl nk _ _ _ => bif nk then .nw else .big
  | .st nk _ (.t a) _ => bif nk then .st a else .big
  | .st _ _ (.c _) _ => .big
  | .app _ _ _ _ _ => .big
  | .cpy _ _ _ => .big
  | .bad => .big
  | .call nk byref _ _ => bif byref then .all else bif nk then .al else .big
  | .callv nk byref _ _ => bif byref then .all else bif nk then .al else .big
  | _ => .pure

/-- A temporary is not written from an operation on. -/
def late (fs : List Fl) (i t : Nat) : Bool := (fs.drop i).all fun x => !(x.dst == some t)

/-- May two operations be carried out in either order, as far as memory goes? (The pairs are places that do not lie in one row.) -/
def free (ps : List (Nat × Nat)) (fs : List Fl) (i j : Nat) : Mk → Mk → Bool
  | .pure, _ => true
  | _, .pure => true
  | .nw, .all => false
  | .all, .nw => false
  | .nw, _ => true
  | _, .nw => true
  | .rd _, .rd _ => true
  | .rd _, .al => true
  | .al, .rd _ => true
  | .al, .al => true
  | .rd a, .st b => (ps.contains (a, b) || ps.contains (b, a)) && late fs i a && late fs j b
  | .st a, .rd b => (ps.contains (a, b) || ps.contains (b, a)) && late fs i a && late fs j b
  | .st a, .st b => (ps.contains (a, b) || ps.contains (b, a)) && late fs i a && late fs j b
  | _, _ => false

def Fl.names (x : Fl) : List Nat := x.op.tmps ++ (match x.g with | some (c, _) => [c] | none => [])

/-- As far as temporaries go. -/
def freeT (x y : Fl) : Bool :=
  (match x.dst with | some d => !y.names.contains d && !(y.dst == some d) | none => true) && (match y.dst with | some d => !x.names.contains d | none => true)

/-- What each operation has to wait for, as bits. -/
def befs (ops : List Oper) : List Nat := ops.foldl (fun acc o => acc ++ [o.after.toList.foldl (fun s e => bif Region.binds .any e then s ||| (2 ^ e.on ||| acc.getD e.on 0) else s) 0]) []

def drawB (ps : List (Nat × Nat)) (fs : List Fl) (bs : List Nat) : Bool :=
  (List.range fs.length).all fun j => (List.range j).all fun i => (bs.getD j 0).testBit i || match fs[i]?, fs[j]? with
    | some x, some y => freeT x y && free ps fs i j x.op.mk y.op.mk
    | _, _ => false

def edgesOk (ops : List Oper) : Bool := (List.range ops.length).all fun i => match ops[i]? with
  | some o => o.after.toList.all fun e => !Region.binds .any e || Nat.blt e.on i
  | none => true

def noSelect (ops : List Oper) : Bool := ops.all fun o => match o.op with
  | .select _ _ => false
  | _ => true

def O.args : O → List A
  | .ld _ _ a => [a]
  | .st _ _ a x => [a, x]
  | .bsl _ _ _ ps => ps
  | .app _ _ _ s x => [s, x]
  | .cpy _ d s => [d, s]
  | .call _ _ _ xs => xs
  | .callv _ _ g xs => g :: xs
  | _ => []

/-- Constants lead nowhere. -/
def O.cOk (o : O) : Bool := o.args.all fun x => match x with
  | .c v => v.ids.isEmpty && v.tid.isEmpty
  | .t _ => true

def chkC (nt : Nat) : Code → C → Bool
  | .region _ ops d, .reg _ ps r => r.okR false [] && (r.flat none).all (fun x => match x.dst with | some d => Nat.blt d nt | none => true) && (r.flat none).all (fun x => x.op.cOk) && (!d || (edgesOk ops.toList && drawB ps (r.flat none) (befs ops.toList)))
  | .seq a b, .seq x y => chkC nt a x && chkC nt b y
  | .cond _ a b, .cnd _ x y => chkC nt a x && chkC nt b y
  | .block _ c, .blk _ x => chkC nt c x
  | .loop c, .loop _ x => chkC nt c x
  | _, _ => true

end Go.Proofs.YtgamkmgdbfeigaaM
