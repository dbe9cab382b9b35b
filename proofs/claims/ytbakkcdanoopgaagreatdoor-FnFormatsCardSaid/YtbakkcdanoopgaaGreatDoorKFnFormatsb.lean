/- What the row of FnFormats rests on, and the row: for every input that can be read the call returns true and the input reads as it did; condition: what the row lists of the library reads as the program lays it. -/
import Derived.Test.YtbakkcdanoopgaaGreatDoorKFnFormatsa
import Derived.Test.YtbakkcdanoopgaaGreatDoorChecked
import GoSem.PinnedTables
import GoSem.Claim
import GoSem.ClaimJoined
import GoSem.ClaimMapViews
import Derived.JoinedTies
import GoSem.ClaimSeven
import Derived.LaidByTextLater
import Derived.SevenTiedAt
import Derived.LaidSub
import Derived.LaidOnce
import Derived.Deep.MidRow
import Derived.Orders
import Derived.IntWalk
import Derived.Shelf.Strings.Builder1
import Derived.Shelf.Strings.Builder2
import Derived.Shelf.Strings.Trim
import Derived.Shelf.Small.Utf8
import Derived.Shelf.Small.Strs
import Derived.Shelf.Strings.BuilderF
import Derived.Shelf.Strconv.Atoi
import Derived.Shelf.Strconv.Itoa0
import Derived.Shelf.Strconv.Itoa1
import Derived.Shelf.LaysM
import Derived.Shelf.Strconv.Itoa2
import Derived.Shelf.Strconv.Itoa3
import Derived.Shelf.Strconv.AtoiErrFast
import Derived.Shelf.Strconv.ParseIntEmpty
import Derived.Shelf.Strconv.AtoiFail
import Derived.Shelf.Strconv.Clone
import Derived.Shelf.Strconv.SyntaxError
import Derived.Shelf.LaysC
import Derived.Shelf.Strconv.ToError
import Derived.Shelf.Strconv.AtoiErr
import Derived.Shelf.Strconv.ErrVar
import Derived.Shelf.Strings.Search1
import Derived.Shelf.Strings.Search2
import Derived.Shelf.Strings.Search3
import Derived.Shelf.Strings.Count
import Derived.Shelf.Strings.Shaped
import Derived.Shelf.Strings.Prefix
import Derived.Shelf.Strings.Runes
import Derived.Shelf.Strings.AsciiSet
import Derived.Shelf.Bits.Mul64
import Derived.Shelf.Strings.Repeat
import Derived.Shelf.Unicode.DecodeSlow
import Derived.Test.YtbakkcdanoopgaaGreatDoorProg
import Derived.Lib.LaidTab
import Derived.Lib.LaidU8
import Derived.HandedShaped
import Derived.Lay
import Derived.Deep.Slices
import Derived.Deep.Fields
import Derived.ChangeSame
import Derived.Carry
import Derived.Lib.ItoaNum
import Derived.Lib.TrimByte
import Derived.ProofKit
import Derived.OpenShut
import Derived.ShutString
import Derived.ChangeOld
set_option linter.unusedVariables false
set_option linter.unusedSimpArgs false
set_option linter.unusedSectionVars false
namespace Go.Proofs.YtbakkcdanoopgaaGreatDoor.Ev
open Go Go.RowKit Go.Proofs.YtbakkcdanoopgaaGreatDoorW.PrintWords Go.Proofs.YtbakkcdanoopgaaGreatDoorW.PrintMore
inductive Ty where
  | int (k : IntKind) | bool | str
  | sl (e : Nat) (t : Ty)
  | pr (a b : Ty)
  deriving DecidableEq
@[reducible] def Ty.den : Ty → Type
  | .int _ => Int
  | .bool => Bool
  | .str => ByteArray
  | .sl _ t => List t.den
  | .pr a b => a.den × b.den
def Ty.kd : (t : Ty) → Kd t.den
  | .int k => Kd.int k
  | .bool => Kd.bool
  | .str => Kd.string
  | .sl e t => Kd.slice e t.kd
  | .pr a b => Kd.pair a.kd b.kd
def Ty.zero : (t : Ty) → t.den
  | .int _ => (0 : Int)
  | .bool => false
  | .str => (⟨#[]⟩ : ByteArray)
  | .sl _ _ => []
  | .pr a b => (a.zero, b.zero)
def Ty.size : Ty → Nat
  | .pr a b => a.size + b.size
  | _ => 1
def Ty.flat : Ty → Bool
  | .sl _ _ => false
  | .pr a b => a.flat && b.flat
  | _ => true
inductive Root where
  | tok (n : Nat) | cell (j c : Nat)
  deriving DecidableEq
inductive AV where
  | junk
  | dead
  | deadp
  | v (x : Value)
  | sl (m : Option Root) (e : Nat) (t : Ty) (xs : List t.den)
  | own (e : Nat) (t : Ty) (xs : List t.den)
  | lit (e : Nat) (t : Ty) (rows : List (List AV))
  | rt (r : Root)
  | ptr (j off : Nat)
  | fp (m : Option Root) (t : Ty) (x : t.den) (off : Nat)
  | ep (r : Root) (i : Int) (off : Nat)
  | fn (f : Fn) (first caps : List AV)
  | agg (cs : List AV)
  | tup (vs : List AV)
  /-- in a box: what was there when the function began -/
  | same (a : AV)
def Ty.cells (m : Option Root) : (t : Ty) → t.den → List AV
  | .int k, x => [.v (.int k x)]
  | .bool, x => [.v (.bool x)]
  | .str, x => [.v (.string x)]
  | .sl e t, xs => [.sl m e t xs]
  | .pr a b, x => a.cells m x.1 ++ b.cells m x.2
def Ty.asSl (e : Nat) (t : Ty) : AV → Option (List t.den)
  | .own e' t' xs => if e' = e then (if h : t' = t then some (h ▸ xs) else none) else none
  | .v (.slice none 0 0) => some []
  | _ => none
def Ty.put : (t : Ty) → t.den → Nat → AV → Option t.den
  | .int k, _, 0, .v (.int k' n) => if k' = k then some n else none
  | .bool, _, 0, .v (.bool b) => some b
  | .str, _, 0, .v (.string s) => some s
  | .sl e t, _, 0, a => Ty.asSl e t a
  | .pr a b, x, off, c => match Nat.blt off a.size with
    | true => (match a.put x.1 off c with | some y => some (y, x.2) | none => none)
    | false => (match b.put x.2 (off - a.size) c with | some y => some (x.1, y) | none => none)
  | _, _, _, _ => none
def Ty.puts (t : Ty) : List AV → t.den → Nat → Option t.den
  | [], x, _ => some x
  | c :: cs, x, off => match t.put x off c with
    | some y => t.puts cs y (off + 1)
    | none => none
inductive TD where
  | int (k : IntKind) | bool | str | sl (e : Nat) | st (fs : List (Nat × Nat)) | ptr (e : Nat) | map (k e : Nat) | func | iface | other
structure TI where
  id : Nat
  d : TD
  size : Nat
  bytes : Nat
def lookTI : List TI → Nat → TI
  | [], t => ⟨t, .other, 0, 0⟩
  | x :: r, t => match Nat.beq x.id t with
    | true => x
    | false => lookTI r t
mutual
def tyOf (D : List TI) : Nat → Nat → Option Ty
  | 0, _ => none
  | n + 1, t => match (lookTI D t).d with
    | .int k => some (.int k)
    | .bool => some .bool
    | .str => some .str
    | .sl e => (match tyOf D n e with | some u => some (.sl e u) | none => none)
    | .st fs => tyOfs D n fs
    | _ => none
def tyOfs (D : List TI) : Nat → List (Nat × Nat) → Option Ty
  | 0, _ => none
  | _ + 1, [] => none
  | n + 1, [f] => tyOf D n f.2
  | n + 1, f :: g :: r => match tyOf D n f.2, tyOfs D n (g :: r) with
    | some a, some b => some (.pr a b)
    | _, _ => none
end
mutual
/-- The cells of a variable of a type, at its zero. -/
def zeroOf (D : List TI) : Nat → Nat → List AV
  | 0, _ => []
  | n + 1, t => match (lookTI D t).d with
    | .int k => [.v (.int k 0)]
    | .bool => [.v (.bool false)]
    | .str => [.v (.string ⟨#[]⟩)]
    | .sl e => (match tyOf D n e with | some u => [.own e u []] | none => [.v (.slice none 0 0)])
    | .st fs => zeroOfs D n fs
    | .ptr _ => [.v (.pointer none)]
    | .map _ _ => [.v (.map none)]
    | .func => [.v .nilFunc]
    | .iface => [.v .nilIface]
    | .other => []
def zeroOfs (D : List TI) : Nat → List (Nat × Nat) → List AV
  | 0, _ => []
  | _ + 1, [] => []
  | n + 1, f :: r => zeroOf D n f.2 ++ zeroOfs D n r
end
structure HV where
  t : Ty
  x : t.den
structure Wr where
  run : Bool → List HV → List HV → Option (List HV × List HV)
structure Ctx where
  D : List TI
  /-- How a function takes its arguments' slices: 0 lent, 1 moved, 2 written and given back. -/
  mode : Nat → List Nat
  /-- A function that only reads, and makes its results anew. -/
  quiet : Nat → Bool
  /-- What a function leaves may share slices that were lent to it. -/
  keeps : Nat → Bool
  wr : Nat → Option Wr
def Ctx.ty (C : Ctx) (t : Nat) : Option Ty := tyOf C.D 16 t
def Ctx.zero (C : Ctx) (t : Nat) : List AV := zeroOf C.D 16 t
def Ctx.agg (C : Ctx) (t : Nat) : Bool := match (lookTI C.D t).d with | .st _ => true | _ => false
def Ctx.size (C : Ctx) (t : Nat) : Nat := (lookTI C.D t).size
def Ctx.bytes (C : Ctx) (t : Nat) : Nat := (lookTI C.D t).bytes
def Ctx.elem (C : Ctx) (t : Nat) : Option Nat := match (lookTI C.D t).d with | .sl e => some e | _ => none
def Ctx.field (C : Ctx) (t f : Nat) : Option (Nat × Nat) := match (lookTI C.D t).d with | .st fs => fs[f]? | _ => none
structure St where
  tmps : List AV
  toks : Nat → AV
  boxes : List (List AV)
def getT : List AV → Nat → AV
  | [], _ => .junk
  | x :: _, 0 => x
  | _ :: r, n + 1 => getT r n
def setT : List AV → Nat → AV → List AV
  | [], _, _ => []
  | _ :: r, 0, y => y :: r
  | x :: r, n + 1, y => x :: setT r n y
def getB : List (List AV) → Nat → List AV
  | [], _ => []
  | x :: _, 0 => x
  | _ :: r, n + 1 => getB r n
def setB : List (List AV) → Nat → List AV → List (List AV)
  | [], _, _ => []
  | _ :: r, 0, y => y :: r
  | x :: r, n + 1, y => x :: setB r n y
def noTok : Nat → AV := fun _ => .junk
def tokSet (l : Nat → AV) (n : Nat) (a : AV) : Nat → AV := fun k => match Nat.beq k n with | true => a | false => l k
def Root.beq : Root → Root → Bool
  | .tok a, .tok b => Nat.beq a b
  | .cell a c, .cell b d => Nat.beq a b && Nat.beq c d
  | _, _ => false
def mapL (f : AV → AV) : List AV → List AV
  | [] => []
  | a :: r => f a :: mapL f r
def AV.lift2 (f : AV → AV) : AV → AV
  | .agg cs => .agg (mapL f cs)
  | a => f a
def AV.lift (f : AV → AV) : AV → AV
  | .tup vs => .tup (mapL (AV.lift2 f) vs)
  | a => a.lift2 f
def AV.kill1 (g : Root → Bool) : AV → AV
  | .rt r => match g r with | true => .dead | false => .rt r
  | .sl (some r) e t xs => match g r with | true => .dead | false => .sl (some r) e t xs
  | .fp (some r) t x off => match g r with | true => .deadp | false => .fp (some r) t x off
  | .ep r i off => match g r with | true => .deadp | false => .ep r i off
  | a => a
def AV.fade1 (g : Root → Bool) : AV → AV
  | .sl (some r) e t xs => match g r with | true => .dead | false => .sl (some r) e t xs
  | .fp (some r) t x off => match g r with | true => .deadp | false => .fp (some r) t x off
  | a => a
def Root.ren (n m : Nat) : Root → Root
  | .tok k => match Nat.beq k n with | true => .tok m | false => .tok k
  | r => r
def AV.ren1 (n m : Nat) : AV → AV
  | .rt r => .rt (r.ren n m)
  | .sl (some r) e t xs => .sl (some (r.ren n m)) e t xs
  | .fp (some r) t x off => .fp (some (r.ren n m)) t x off
  | .ep r i off => .ep (r.ren n m) i off
  | a => a
def mapR (f : AV → AV) : List (List AV) → List (List AV)
  | [] => []
  | l :: r => mapL f l :: mapR f r
def AV.inLit (f : AV → AV) : AV → AV
  | .lit e t rows => .lit e t (mapR f rows)
  | a => a
def St.mapS (s : St) (f : AV → AV) : St := ⟨mapL (AV.lift f) s.tmps, fun k => (s.toks k).inLit f, s.boxes⟩
def St.kill (s : St) (g : Root → Bool) : St := s.mapS (AV.kill1 g)
def St.fade (s : St) (g : Root → Bool) : St := s.mapS (AV.fade1 g)
def St.drop (s : St) (n : Nat) : St := ({ s with toks := tokSet s.toks n .junk }).kill (Root.beq (.tok n))
def St.root (s : St) : Root → AV
  | .tok n => s.toks n
  | .cell j c => getT (getB s.boxes j) c
def St.setRoot (s : St) (r : Root) (a : AV) : St :=
  match r with
  | .tok n => { s with toks := tokSet s.toks n a }
  | .cell j c => { s with boxes := setB s.boxes j (setT (getB s.boxes j) c a) }
def St.gone (s : St) (r : Root) : St :=
  match r with
  | .tok n => s.drop n
  | .cell j c => ({ s with boxes := setB s.boxes j (setT (getB s.boxes j) c .junk) }).kill (Root.beq r)
def AV.thaw1 (r : Root) (e : Nat) (t : Ty) (xs : List t.den) : AV → AV
  | .rt q => match Root.beq r q with | true => .sl none e t xs | false => .rt q
  | .sl (some q) e' t' ys => match Root.beq r q with | true => .sl none e' t' ys | false => .sl (some q) e' t' ys
  | .fp (some q) t' x off => match Root.beq r q with | true => .fp none t' x off | false => .fp (some q) t' x off
  | .ep q i off => match Root.beq r q with | true => .fp none t (xs.getD i.toNat t.zero) off | false => .ep q i off
  | a => a
def Root.rest (r : Root) (e : Nat) (t : Ty) (xs : List t.den) : AV :=
  match r with
  | .tok _ => .junk
  | .cell _ _ => .sl none e t xs
def St.frzR (s : St) (r : Root) : St :=
  match s.root r with
  | .own e t xs => (s.setRoot r (r.rest e t xs)).mapS (AV.thaw1 r e t xs)
  | _ => s
def St.frzRs (s : St) : List Root → St
  | [] => s
  | r :: l => (s.frzR r).frzRs l
def AV.ofConst : Value → AV
  | .agg cs => .agg (cs.toList.map .v)
  | x => .v x
def St.ev (s : St) : Operand → AV
  | .tmp t => getT s.tmps t
  | .const x => AV.ofConst x
  | .func f => .fn (.func f) [] []
  | .global _ => .junk
def AV.cs : AV → List AV
  | .agg cs => cs
  | a => [a]
def St.take0 (s : St) : AV → Option (AV × St)
  | .rt r => match s.root r with
    | .own e t xs => some (.own e t xs, s.gone r)
    | _ => none
  | .v x => some (.v x, s)
  | .sl none e t xs => some (.sl none e t xs, s)
  | .ptr j off => some (.ptr j off, s)
  | .fn f first caps => some (.fn f first caps, s)
  | _ => none
def St.take0s (s : St) : List AV → Option (List AV × St)
  | [] => some ([], s)
  | a :: r => match s.take0 a with
    | some (a', s1) => (match s1.take0s r with
      | some (r', s2) => some (a' :: r', s2)
      | none => none)
    | none => none
def lenEq : List AV → Nat → Bool
  | [], 0 => true
  | _ :: r, n + 1 => lenEq r n
  | _, _ => false
def St.solid (t : Ty) : List (List AV) → St → Option (List t.den × St)
  | [], s => some ([], s)
  | row :: r, s => match s.take0s row with
    | some (cs, s1) => (match lenEq cs t.size with
      | true => (match t.puts cs t.zero 0 with
        | some y => (match St.solid t r s1 with
          | some (ys, s2) => some (y :: ys, s2)
          | none => none)
        | none => none)
      | false => none)
    | none => none
def St.take1 (s : St) (a : AV) : Option (AV × St) :=
  match a with
  | .rt (.tok n) => (match s.toks n with
    | .lit e t rows => (match St.solid t rows (s.drop n) with
      | some (xs, s1) => some (.own e t xs, s1)
      | none => none)
    | _ => s.take0 a)
  | a => s.take0 a
def St.takes (s : St) : List AV → Option (List AV × St)
  | [] => some ([], s)
  | a :: r => match s.take1 a with
    | some (a', s1) => (match s1.takes r with
      | some (r', s2) => some (a' :: r', s2)
      | none => none)
    | none => none
def St.lend1 (s : St) : AV → AV
  | .rt r => match s.root r with
    | .own e t xs => .sl none e t xs
    | _ => .junk
  | .sl _ e t xs => .sl none e t xs
  | .v x => .v x
  | .ptr j off => .ptr j off
  | .fn f first caps => .fn f first caps
  | _ => .junk
def St.lends (s : St) : List AV → List AV
  | [] => []
  | a :: r => s.lend1 a :: s.lends r
def St.settleL (lim : Nat) (s : St) : List AV → Nat → Option (List AV × St)
  | [], _ => some ([], s)
  | .own e t xs :: r, d => (match Nat.blt d lim with
    | true => (match s.toks d with
      | .junk => (match St.settleL lim { s with toks := tokSet s.toks d (.own e t xs) } r (d + 1000) with | some (r', s1) => some (.rt (.tok d) :: r', s1) | none => none)
      | _ => none)
    | false => none)
  | a :: r, d => match St.settleL lim s r (d + 1000) with | some (r', s1) => some (a :: r', s1) | none => none
def St.settle1 (lim : Nat) (s : St) (d : Nat) (a : AV) : Option (AV × St) :=
  match a with
  | .agg cs => (match s.settleL lim cs d with | some (cs', s1) => some (.agg cs', s1) | none => none)
  | a => (match s.settleL lim [a] d with | some ([a'], s1) => some (a', s1) | _ => none)
def St.settles (lim : Nat) (s : St) (d : Nat) : List AV → Option (List AV × St)
  | [] => some ([], s)
  | a :: r => match s.settle1 lim d a with
    | some (a', s1) => (match s1.settles lim (d + 100000) r with
      | some (r', s2) => some (a' :: r', s2)
      | none => none)
    | none => none
inductive Pt where
  | junk
  | cst (x : Value)
  | sc (t : Ty)
  | sl (e : Nat) (t : Ty)
  | own (e : Nat) (t : Ty)
  | tok (n : Nat)
  | ptr (j off : Nat)
  | fn (f : Fn) (first caps : List Pt)
  | agg (cs : List Pt)
  | tup (cs : List Pt)
  | same (p : Pt)
inductive Out where
  | ret (vs : List HV)
  | pan (vs : List HV)
structure Sh where
  tmps : List (Nat × Pt)
  toks : List (Nat × Nat × Ty)
  boxes : List (List Pt)
structure Inst where
  /-- the arguments, the boxes that they point to -/
  args : List Pt
  boxes : List (List Pt)
  /-- what comes back: results, the boxes -/
  outs : List Pt
  obox : List (List Pt)
  /-- a panic's value; its boxes -/
  pans : Option (Pt × List (List Pt))
  stops : List (Nat × Sh)
end Go.Proofs.YtbakkcdanoopgaaGreatDoor.Ev
namespace Go.Proofs.YtbakkcdanoopgaaGreatDoor.Ev
open Go Go.RowKit Go.Proofs.YtbakkcdanoopgaaGreatDoorW.PrintWords Go.Proofs.YtbakkcdanoopgaaGreatDoorW.PrintMore
section build
mutual
/-- The value out of the holes; the holes that are left. -/
def Pt.build : Pt → List HV → Option (AV × List HV)
  | .junk, h => some (.junk, h)
  | .cst x, h => some (.v x, h)
  | .sc (.int k), ⟨.int k', n⟩ :: h => if k' = k then some (.v (.int k n), h) else none
  | .sc .bool, ⟨.bool, b⟩ :: h => some (.v (.bool b), h)
  | .sc .str, ⟨.str, s⟩ :: h => some (.v (.string s), h)
  | .sl e t, ⟨.sl e' t', xs⟩ :: h => if e' = e then (if t' = t then some (.sl none e' t' xs, h) else none) else none
  | .own e t, ⟨.sl e' t', xs⟩ :: h => if e' = e then (if t' = t then some (.own e' t' xs, h) else none) else none
  | .tok n, h => some (.rt (.tok n), h)
  | .ptr j off, h => some (.ptr j off, h)
  | .fn f ps cs, h => match Pt.builds ps h with
    | some (l, h1) => (match Pt.builds cs h1 with | some (m, h2) => some (.fn f l m, h2) | none => none)
    | none => none
  | .agg cs, h => match Pt.builds cs h with | some (l, h') => some (.agg l, h') | none => none
  | .tup cs, h => match Pt.builds cs h with | some (l, h') => some (.tup l, h') | none => none
  | .same p, h => match Pt.build p h with | some (a, h') => some (.same a, h') | none => none
  | _, _ => none
def Pt.builds : List Pt → List HV → Option (List AV × List HV)
  | [], h => some ([], h)
  | p :: r, h => match Pt.build p h with
    | some (a, h1) => (match Pt.builds r h1 with | some (l, h2) => some (a :: l, h2) | none => none)
    | none => none
end
mutual
/-- The holes out of the value, ahead of what follows. -/
def Pt.parse : Pt → AV → Option (List HV)
  | .junk, _ => some []
  | .cst x, .v y => match x, y with
    | .pointer none, .pointer none => some []
    | .nilFunc, .nilFunc => some []
    | .nilIface, .nilIface => some []
    | .slice none 0 0, .slice none 0 0 => some []
    | _, _ => none
  | .sc (.int k), .v (.int k' n) => if k' = k then some [⟨.int k', n⟩] else none
  | .sc .bool, .v (.bool b) => some [⟨.bool, b⟩]
  | .sc .str, .v (.string s) => some [⟨.str, s⟩]
  | .sl e t, .sl none e' t' xs => if e' = e then (if t' = t then some [⟨.sl e' t', xs⟩] else none) else none
  | .own e t, .own e' t' xs => if e' = e then (if t' = t then some [⟨.sl e' t', xs⟩] else none) else none
  | .tok n, .rt (.tok m) => if n = m then some [] else none
  | .ptr j off, .ptr j' off' => if j = j' then (if off = off' then some [] else none) else none
  | .fn f ps cs, .fn g l m => if f = g then (match Pt.parses ps l with
    | some a => (match Pt.parses cs m with | some b => some (a ++ b) | none => none)
    | none => none) else none
  | .agg cs, .agg l => Pt.parses cs l
  | .tup cs, .tup l => Pt.parses cs l
  | .same p, .same a => Pt.parse p a
  | _, _ => none
def Pt.parses : List Pt → List AV → Option (List HV)
  | [], [] => some []
  | p :: r, a :: l => match Pt.parse p a with
    | some h => (match Pt.parses r l with | some h2 => some (h ++ h2) | none => none)
    | none => none
  | _, _ => none
end
def Pt.frz1 : Pt → AV → AV
  | .sl _ _, .own e t xs => .sl none e t xs
  | _, a => a
def Pt.frzL : List Pt → List AV → List AV
  | p :: r, a :: l => p.frz1 a :: Pt.frzL r l
  | _, l => l
def Pt.frz : Pt → AV → AV
  | .agg ps, .agg cs => .agg (Pt.frzL ps cs)
  | p, a => p.frz1 a
def Pt.frzs : List Pt → List AV → List AV
  | p :: r, a :: l => p.frz a :: Pt.frzs r l
  | _, l => l
def Pt.frzB : List (List Pt) → List (List AV) → List (List AV)
  | p :: r, a :: l => Pt.frzL p a :: Pt.frzB r l
  | _, l => l
mutual
/-- Pointers lead to boxes that are told, tokens are told. -/
def Pt.okP (n : Nat) (tk : Nat → Bool) : Pt → Bool
  | .ptr j _ => Nat.blt j n
  | .tok d => tk d
  | .fn _ ps cs => Pt.okPs n tk ps && Pt.okPs n tk cs
  | .agg cs => Pt.okPs n tk cs
  | .tup cs => Pt.okPs n tk cs
  | .same p => Pt.okP n tk p
  | _ => true
def Pt.okPs (n : Nat) (tk : Nat → Bool) : List Pt → Bool
  | [] => true
  | p :: r => Pt.okP n tk p && Pt.okPs n tk r
end
mutual
/-- No slice that is only read. -/
def Pt.noSl : Pt → Bool
  | .sl _ _ => false
  | .fn _ ps cs => Pt.noSls ps && Pt.noSls cs
  | .agg cs => Pt.noSls cs
  | .tup cs => Pt.noSls cs
  | .same p => Pt.noSl p
  | _ => true
def Pt.noSls : List Pt → Bool
  | [] => true
  | p :: r => Pt.noSl p && Pt.noSls r
end
def Pt.noSlB : List (List Pt) → Bool
  | [] => true
  | p :: r => Pt.noSls p && Pt.noSlB r
def Pt.isSame : Pt → Bool
  | .same _ => true
  | _ => false
def isSameA : AV → Bool
  | .same _ => true
  | _ => false
def getPt (b : List (List Pt)) (j c : Nat) : Pt := (b.getD j []).getD c .junk
def Pt.sameLB : List Pt → List Pt → Bool
  | _, [] => true
  | ps, .same _ :: r => (match ps with | .same _ :: q => Pt.sameLB q r | _ => false)
  | ps, _ :: r => Pt.sameLB ps.tail r
def Pt.sameBB : List (List Pt) → List (List Pt) → Bool
  | _, [] => true
  | ps, l :: r => Pt.sameLB (ps.headD []) l && Pt.sameBB ps.tail r
def Inst.noSl (I : Inst) : Bool := Pt.noSls I.outs && (Pt.noSlB I.obox && (match I.pans with | some (p, bp) => p.noSl && Pt.noSlB bp | none => true))
def Pt.okB (n : Nat) : List (List Pt) → Bool
  | [] => true
  | p :: r => Pt.okPs n (fun _ => false) p && Pt.okB n r
def Pt.buildB : List (List Pt) → List HV → Option (List (List AV) × List HV)
  | [], h => some ([], h)
  | p :: r, h => match Pt.builds p h with
    | some (a, h1) => (match Pt.buildB r h1 with | some (l, h2) => some (a :: l, h2) | none => none)
    | none => none
def Pt.parseB : List (List Pt) → List (List AV) → Option (List HV)
  | [], _ => some []
  | p :: r, a :: l => match Pt.parses p a with
    | some h => (match Pt.parseB r l with | some h2 => some (h ++ h2) | none => none)
    | none => none
  | _ :: _, [] => none
def buildTk : List (Nat × Nat × Ty) → List HV → Option ((Nat → AV) × List HV)
  | [], h => some (noTok, h)
  | p :: r, ⟨.sl e t, xs⟩ :: h => if e = p.2.1 then (if t = p.2.2 then (match buildTk r h with | some (l, h') => some (tokSet l p.1 (.own e t xs), h') | none => none) else none) else none
  | _ :: _, _ => none
def parseTk : List (Nat × Nat × Ty) → (Nat → AV) → Option (List HV)
  | [], _ => some []
  | p :: r, g => match g p.1 with
    | .own e t xs => if e = p.2.1 then (if t = p.2.2 then (match parseTk r g with | some h => some (⟨.sl e t, xs⟩ :: h) | none => none) else none) else none
    | _ => none
def blank : Nat → List AV
  | 0 => []
  | n + 1 => .junk :: blank n
def buildTm : List (Nat × Pt) → List AV → List HV → Option (List AV × List HV)
  | [], l, h => some (l, h)
  | p :: r, l, h => match p.2.build h with
    | some (a, h1) => buildTm r (setT l p.1 a) h1
    | none => none
def parseTm : List (Nat × Pt) → List AV → Option (List HV)
  | [], _ => some []
  | p :: r, l => match p.2.parse (getT l p.1) with
    | some h => (match parseTm r l with | some h2 => some (h ++ h2) | none => none)
    | none => none
def Sh.build (S : Sh) (n : Nat) (h : List HV) : Option St :=
  match buildTm S.tmps (blank n) h with
  | some (tm, h1) => (match buildTk S.toks h1 with
    | some (tk, h2) => (match Pt.buildB S.boxes h2 with
      | some (bx, []) => some ⟨tm, tk, bx⟩
      | _ => none)
    | none => none)
  | none => none
def inTk : List (Nat × Nat × Ty) → Nat → Bool
  | [], _ => false
  | p :: r, d => match Nat.beq p.1 d with | true => true | false => inTk r d
def Sh.ok (S : Sh) : Bool := Pt.okPs S.boxes.length (inTk S.toks) (S.tmps.map (·.2)) && Pt.okB S.boxes.length S.boxes
def Sh.parse (S : Sh) (s : St) : Option (List HV) :=
  match S.ok with
  | true => (match parseTm S.tmps s.tmps with
    | some a => (match parseTk S.toks s.toks with
      | some b => (match Pt.parseB S.boxes (Pt.frzB S.boxes s.boxes) with
        | some c => some (a ++ (b ++ c))
        | none => none)
      | none => none)
    | none => none)
  | false => none
end build
end Go.Proofs.YtbakkcdanoopgaaGreatDoor.Ev
namespace Go.Proofs.YtbakkcdanoopgaaGreatDoor.Ev
open Go Go.RowKit Go.Proofs.YtbakkcdanoopgaaGreatDoorW.PrintWords Go.Proofs.YtbakkcdanoopgaaGreatDoorW.PrintMore
section
variable {ρ : Type}
def St.put (s : St) (dst : Option Nat) (a : AV) : St :=
  match dst with
  | some d => { s with tmps := setT s.tmps d a }
  | none => s
def evBin (isB : Bool) (op : BinOp) (a b : AV) (κ : AV → Option ρ) : Option ρ :=
  match a, b with
  | .v (.int k x), .v (.int k' y) =>
    (match op with
    | .shl => if y < 0 then none else κ (.v (.int k (shl k x y)))
    | .shr => if y < 0 then none else κ (.v (.int k (shr k x y)))
    | op => if k = k' then (match op with
      | .add => κ (.v (.int k (k.wrap (x + y))))
      | .sub => κ (.v (.int k (k.wrap (x - y))))
      | .mul => κ (.v (.int k (k.wrap (x * y))))
      | .quo => if y = 0 then none else κ (.v (.int k (k.wrap (x.tdiv y))))
      | .rem => if y = 0 then none else κ (.v (.int k (x.tmod y)))
      | .and => κ (.v (.int k (k.wrap ((BitVec.ofInt k.bits x &&& BitVec.ofInt k.bits y).toNat : Int))))
      | .or => κ (.v (.int k (k.wrap ((BitVec.ofInt k.bits x ||| BitVec.ofInt k.bits y).toNat : Int))))
      | .xor => κ (.v (.int k (k.wrap ((BitVec.ofInt k.bits x ^^^ BitVec.ofInt k.bits y).toNat : Int))))
      | .andNot => κ (.v (.int k (k.wrap ((BitVec.ofInt k.bits x &&& ~~~ BitVec.ofInt k.bits y).toNat : Int))))
      | .eql => κ (.v (.bool (x == y)))
      | .neq => κ (.v (.bool (x != y)))
      | .lss => κ (.v (.bool (decide (x < y))))
      | .leq => κ (.v (.bool (decide (x ≤ y))))
      | .gtr => κ (.v (.bool (decide (x > y))))
      | .geq => κ (.v (.bool (decide (x ≥ y))))
      | _ => none) else none)
  | .v (.string x), .v (.string y) =>
    (match op with
    | .add => if x.size + y.size ≤ 9223372036854775807 then κ (.v (.string (x ++ y))) else none
    | .eql => κ (.v (.bool (x.toList == y.toList)))
    | .neq => κ (.v (.bool (!(x.toList == y.toList))))
    | .lss => κ (.v (.bool (Op.bytesLess x.toList y.toList)))
    | .leq => κ (.v (.bool (Op.bytesLess x.toList y.toList || x.toList == y.toList)))
    | .gtr => κ (.v (.bool (!(Op.bytesLess x.toList y.toList || x.toList == y.toList))))
    | .geq => κ (.v (.bool (!(Op.bytesLess x.toList y.toList))))
    | _ => none)
  | .v (.bool x), .v (.bool y) =>
    (match isB with
    | true => (match op with
      | .eql => κ (.v (.bool (x == y)))
      | .neq => κ (.v (.bool (!(x == y))))
      | _ => none)
    | false => none)
  | _, _ => none
def evUn (op : UnOp) (a : AV) (κ : AV → Option ρ) : Option ρ :=
  match op, a with
  | .not, .v (.bool b) => κ (.v (.bool (!b)))
  | .neg, .v (.int k n) => κ (.v (.int k (k.wrap (0 - n))))
  | _, _ => none
def St.read (s : St) : AV → AV
  | .rt r => s.root r
  | a => a
def isBytes (C : Ctx) (t : Nat) : Bool := match C.elem t with | some e => (match (lookTI C.D e).d with | .int .u8 => true | _ => false) | none => false
def evConv (C : Ctx) (s : St) (src dst : Nat) (a : AV) (κ : AV → Option ρ) : Option ρ :=
  match (lookTI C.D src).d with
  | .other => none
  | _ => (match (lookTI C.D dst).d with
    | .int k => (match a with
      | .v (.int _ n) => κ (.v (.int k (k.wrap n)))
      | _ => none)
    | .str => (match a with
      | .v (.string x) => κ (.v (.string x))
      | a => (match isBytes C src with
        | true => (match s.read a with
          | .sl _ _ (.int .u8) xs => κ (.v (.string (strOfNums xs)))
          | .own _ (.int .u8) xs => κ (.v (.string (strOfNums xs)))
          | _ => none)
        | false => none))
    | _ => none)
def byteSl : Nat := 30
def evBytes (C : Ctx) (src : Nat) (a : AV) (κ : AV → Option ρ) : Option ρ :=
  match (lookTI C.D src).d with
  | .str => (match isBytes C byteSl with
    | true => (match C.elem byteSl with
      | some e => (match a with
        | .v (.string x) => if x.size ≤ 9223372036854775807 then κ (.sl none e (.int .u8) (bytesOf x)) else none
        | _ => none)
      | none => none)
    | false => none)
  | _ => none
def elem (t : Ty) (xs : List t.den) (i : Int) : t.den := xs.getD i.toNat t.zero
def okElem (C : Ctx) (t : Nat) (ty : Ty) : Bool := match C.elem t with | some e => Nat.beq (C.size e) ty.size | none => false
def evIdxA (C : Ctx) (t : Nat) (s : St) (x i : AV) (κ : AV → Option ρ) : Option ρ :=
  match i with
  | .v (.int _ n) =>
    (match x with
    | .rt r => (match s.root r with
      | .own _ ty xs => (match okElem C t ty with
        | true => if 0 ≤ n then (if n < (xs.length : Int) then κ (.ep r n 0) else none) else none
        | false => none)
      | _ => none)
    | .sl m _ ty xs => (match okElem C t ty with
      | true => if 0 ≤ n then (if n < (xs.length : Int) then κ (.fp m ty (elem ty xs n) 0) else none) else none
      | false => none)
    | _ => none)
  | _ => none
def evIdx (x i : AV) (κ : AV → Option ρ) : Option ρ :=
  match x, i with
  | .v (.string b), .v (.int _ n) => if 0 ≤ n then (if n < (b.size : Int) then κ (.v (.int .u8 (bt b n))) else none) else none
  | _, _ => none
def isStr (C : Ctx) (t : Nat) : Bool := match (lookTI C.D t).d with | .str => true | _ => false
def evPart (m : Option Root) (e : Nat) (t : Ty) (xs : List t.den) (lo hi : Option AV) (κ : AV → Option ρ) : Option ρ :=
  match lo, hi with
  | some (.v (.int _ l)), none => if 0 ≤ l then (if l ≤ (xs.length : Int) then κ (.sl m e t (xs.drop l.toNat)) else none) else none
  | none, some (.v (.int _ h)) => if 0 ≤ h then (if h ≤ (xs.length : Int) then κ (.sl m e t (xs.take h.toNat)) else none) else none
  | some (.v (.int _ l)), some (.v (.int _ h)) => if 0 ≤ l then (if l ≤ h then (if h ≤ (xs.length : Int) then κ (.sl m e t ((xs.take h.toNat).drop l.toNat)) else none) else none) else none
  | _, _ => none
def evPartS (b : ByteArray) (lo hi : Option AV) (κ : AV → Option ρ) : Option ρ :=
  match lo, hi with
  | some (.v (.int _ l)), none => if 0 ≤ l then (if l ≤ (b.size : Int) then κ (.v (.string (b.extract l.toNat b.size))) else none) else none
  | none, some (.v (.int _ h)) => if 0 ≤ h then (if h ≤ (b.size : Int) then κ (.v (.string (b.extract 0 h.toNat))) else none) else none
  | some (.v (.int _ l)), some (.v (.int _ h)) => if 0 ≤ l then (if l ≤ h then (if h ≤ (b.size : Int) then κ (.v (.string (b.extract l.toNat h.toNat))) else none) else none) else none
  | _, _ => none
def evSlice (C : Ctx) (t : Nat) (s : St) (x : AV) (lo hi : Option AV) (κ : AV → Option ρ) : Option ρ :=
  match isStr C t with
  | true => (match x with
    | .v (.string b) => evPartS b lo hi κ
    | _ => none)
  | false => (match x with
    | .rt r => (match s.root r with
      | .own e ty xs => (match okElem C t ty with | true => evPart (some r) e ty xs lo hi κ | false => none)
      | _ => none)
    | .sl m e ty xs => (match okElem C t ty with | true => evPart m e ty xs lo hi κ | false => none)
    | _ => none)
def evLen (C : Ctx) (t : Nat) (s : St) (x : AV) (κ : AV → Option ρ) : Option ρ :=
  match isStr C t with
  | true => (match x with
    | .v (.string b) => κ (.v (.int .i64 (b.size : Int)))
    | _ => none)
  | false => (match C.elem t with
    | some _ => (match s.read x with
      | .v (.slice none 0 0) => κ (.v (.int .i64 0))
      | .sl _ _ _ xs => κ (.v (.int .i64 (xs.length : Int)))
      | .own _ _ xs => κ (.v (.int .i64 (xs.length : Int)))
      | _ => none)
    | none => none)
def viewC (j : Nat) : List AV → Nat → List AV
  | [], _ => []
  | .own _ _ _ :: r, c => .rt (.cell j c) :: viewC j r (c + 1)
  | .same a :: r, c => a :: viewC j r (c + 1)
  | a :: r, c => a :: viewC j r (c + 1)
def cut : List AV → Nat → Nat → List AV
  | _, _, 0 => []
  | [], _, _ + 1 => []
  | a :: r, 0, n + 1 => a :: cut r 0 n
  | _ :: r, o + 1, n + 1 => cut r o (n + 1)
def whole (agg : Bool) (cs : List AV) : AV :=
  match agg with
  | true => .agg cs
  | false => (match cs with | [a] => a | _ => .junk)
def oneOk (C : Ctx) (t : Nat) : Bool := match C.agg t with | true => true | false => (match (lookTI C.D t).d with | .other => false | _ => Nat.beq (C.size t) 1)
def evLoad (C : Ctx) (s : St) (t : Nat) (a : AV) (κ : AV → Option ρ) : Option ρ :=
  match a with
  | .ptr j off => (match cut (viewC j (getB s.boxes j) 0) off (C.size t) with
    | cs => (match lenEq cs (C.size t) && oneOk C t with | true => κ (whole (C.agg t) cs) | false => none))
  | .fp m ty x off => (match cut (ty.cells m x) off (C.size t) with
    | cs => (match lenEq cs (C.size t) && oneOk C t with | true => κ (whole (C.agg t) cs) | false => none))
  | .ep r i off => (match s.root r with
    | .own _ ty xs => (match cut (ty.cells (some r) (elem ty xs i)) off (C.size t) with
      | cs => (match lenEq cs (C.size t) && oneOk C t with | true => κ (whole (C.agg t) cs) | false => none))
    | _ => none)
  | _ => none
def paste : List AV → Nat → List AV → List AV
  | l, _, [] => l
  | [], _, _ => []
  | a :: r, o + 1, cs => a :: paste r o cs
  | _ :: r, 0, c :: cs => c :: paste r 0 cs
def fitNil : List AV → List AV → List AV
  | .own e t _ :: r, .v (.slice none 0 0) :: cs => .own e t [] :: fitNil r cs
  | _ :: r, c :: cs => c :: fitNil r cs
  | [], cs => cs
  | _, [] => []
def known : List AV → Bool
  | [] => true
  | .junk :: _ => false
  | .v (.agg _) :: _ => false
  | .v (.tuple _) :: _ => false
  | .own _ _ _ :: _ => false
  | .lit _ _ _ :: _ => false
  | .agg _ :: _ => false
  | .tup _ :: _ => false
  | _ :: r => known r
def boxOk : List AV → Bool
  | [] => true
  | .v _ :: r => boxOk r
  | .own _ _ _ :: r => boxOk r
  | .sl none _ _ _ :: r => boxOk r
  | .ptr _ _ :: r => boxOk r
  | _ => false
structure Cl where
  j : Nat
  off : Nat
  n : Nat
def stayB (C : Ctx) (t : Nat) (a : AV) (x : Cl) : Bool :=
  match a with
  | .ptr j off => !Nat.beq x.j j || (Nat.ble (x.off + x.n) off || Nat.ble (off + C.size t) x.off)
  | _ => true
def evStore (C : Ctx) (s : St) (t : Nat) (a x : AV) (κ : St → Option ρ) : Option ρ :=
  match s.takes x.cs with
  | some (cs, s1) =>
    (match lenEq cs (C.size t) && (known x.cs && (boxOk cs && Nat.blt 0 (C.size t))) with
    | true => (match a with
      | .ptr j off => (match getB s1.boxes j with
        | old => (match lenEq (cut old off (C.size t)) (C.size t) with
          | true => κ (({ s1 with boxes := setB s1.boxes j (paste old off (fitNil (C.zero t) cs)) }).kill (fun r => match r with | .cell j' c => Nat.beq j' j && (Nat.ble off c && Nat.blt c (off + C.size t)) | _ => false))
          | false => none))
      | .ep r i off => (match s1.root r with
        | .own e ty xs => (match ty.puts cs (elem ty xs i) off with
          | some y => κ ((s1.setRoot r (.own e ty (xs.set i.toNat y))).fade (Root.beq r))
          | none => none)
        | _ => none)
      | _ => none)
    | false => none)
  | none => none
def litRows (s : St) (size : Nat) : List (Nat × Operand) → Nat → Option (List (List AV))
  | [], _ => some []
  | p :: r, i => match Nat.beq p.1 i with
    | true => (match lenEq (s.ev p.2).cs size && known (s.ev p.2).cs with
      | true => (match litRows s size r (i + 1) with
        | some l => some ((s.ev p.2).cs :: l)
        | none => none)
      | false => none)
    | false => none
def St.fresh (s : St) (d : Nat) (a : AV) (κ : AV → St → Option ρ) : Option ρ :=
  match Nat.blt d 500000 with
  | true => (match s.toks d with
    | .junk => κ (.rt (.tok d)) { s with toks := tokSet s.toks d a }
    | _ => none)
  | false => none
def evLit (C : Ctx) (s : St) (t len : Nat) (parts : Array (Nat × Operand)) (d : Nat) (κ : AV → St → Option ρ) : Option ρ :=
  match C.elem t with
  | some e => (match C.ty e with
    | some ty => (match litRows s (C.size e) parts.toList 0 with
      | some rows => (match Nat.beq parts.size len && (Nat.ble len 1000000 && Nat.ble (len * C.size e) 16777216) with
        | true => (match ty.flat || Nat.beq len 0 with
          | true => (match St.solid ty rows s with
            | some (xs, _) => s.fresh d (.own e ty xs) κ
            | none => none)
          | false => s.fresh d (.lit e ty rows) κ)
        | false => none)
      | none => none)
    | none => none)
  | none => none
def evMake (C : Ctx) (s : St) (t : Nat) (l c : AV) (d : Nat) (κ : AV → St → Option ρ) : Option ρ :=
  match C.elem t, l, c with
  | some e, .v (.int .i64 n), .v (.int .i64 m) => (match C.ty e with
    | some ty => if 0 ≤ n then (if n ≤ m then (if m.toNat * C.bytes e ≤ 281474976710656 then s.fresh d (.own e ty (List.replicate n.toNat ty.zero)) κ else none) else none) else none
    | none => none)
  | _, _, _ => none
def St.rows (s : St) (ty : Ty) (x : AV) : Option (List ty.den × St) :=
  match x with
  | .rt r => (match s.root r with
    | .own _ t xs => (match ty.flat with
      | true => if h : t = ty then some (h ▸ xs, s) else none
      | false => if h : t = ty then some (h ▸ xs, s.gone r) else none)
    | .lit _ t rows => if t = ty then St.solid ty rows (s.gone r) else none
    | _ => none)
  | .sl _ _ t xs => (match ty.flat with
    | true => if h : t = ty then some (h ▸ xs, s) else none
    | false => none)
  | .v (.slice none 0 0) => some ([], s)
  | _ => none
def evAppend (C : Ctx) (s : St) (t u : Nat) (a x : AV) (d : Nat) (κ : AV → St → Option ρ) : Option ρ :=
  match C.elem t with
  | some e => (match C.ty e with
    | some ty => (match Nat.beq t u with
      | true => (match s.rows ty x with
        | some (ys, s1) => (match a with
          | .rt r => (match s1.root r with
            | .own e' t' xs => if e' = e then (if h : t' = ty then (if (xs.length + ys.length) * C.bytes e ≤ 140737488355328 then (s1.gone r).fresh d (.own e ty ((h ▸ xs) ++ ys)) κ else none) else none) else none
            | _ => none)
          | .v (.slice none 0 0) => if ys.length * C.bytes e ≤ 140737488355328 then s1.fresh d (.own e ty ys) κ else none
          | _ => none)
        | none => none)
      | false => none)
    | none => none)
  | none => none
def evBox (C : Ctx) (s : St) (t : Nat) (x : AV) (κ : AV → St → Option ρ) : Option ρ :=
  match s.takes x.cs with
  | some (cs, s1) => (match lenEq cs (C.size t) && (known x.cs && (boxOk cs && Nat.blt 0 (C.size t))) with
    | true => κ (.ptr s1.boxes.length 0) { s1 with boxes := s1.boxes ++ [fitNil (C.zero t) cs] }
    | false => none)
  | none => none
def nilZero : List AV → List AV
  | [] => []
  | .own _ _ _ :: r => .v (.slice none 0 0) :: nilZero r
  | a :: r => a :: nilZero r
def evParts (C : Ctx) (s : St) (t : Nat) : List (Nat × Operand) → List AV → Option (List AV)
  | [], cells => some cells
  | p :: r, cells => match C.field t p.1 with
    | some (off, ft) => (match (s.ev p.2).cs with
      | cs => (match (lenEq cs (C.size ft) && known cs) && Nat.ble (off + C.size ft) cells.length with
        | true => evParts C s t r (paste cells off cs)
        | false => none))
    | none => none
def addNew (l : List Nat) (j : Nat) : List Nat := match l.contains j with | true => l | false => l ++ [j]
def ptrs1 : List AV → List Nat → List Nat
  | [], acc => acc
  | .ptr j _ :: r, acc => ptrs1 r (addNew acc j)
  | _ :: r, acc => ptrs1 r acc
def ptrs2 : List AV → List Nat → List Nat
  | [], acc => acc
  | .ptr j _ :: r, acc => ptrs2 r (addNew acc j)
  | .fn _ first caps :: r, acc => ptrs2 r (ptrs1 caps (ptrs1 first acc))
  | _ :: r, acc => ptrs2 r acc
def ptrs : List AV → List Nat → List Nat
  | [], acc => acc
  | .agg cs :: r, acc => ptrs r (ptrs2 cs acc)
  | a :: r, acc => ptrs r (ptrs2 [a] acc)
def at_ : List Nat → Nat → Nat → Nat
  | [], _, k => k
  | x :: r, j, k => match Nat.beq x j with | true => k | false => at_ r j (k + 1)
def AV.mov1 (g : Nat → Nat) : AV → AV
  | .ptr j off => .ptr (g j) off
  | a => a
def AV.mov2 (g : Nat → Nat) : AV → AV
  | .fn f first caps => .fn f (mapL (AV.mov1 g) first) (mapL (AV.mov1 g) caps)
  | a => a.mov1 g
def AV.mov (g : Nat → Nat) : AV → AV
  | .agg cs => .agg (mapL (AV.mov2 g) cs)
  | a => a.mov2 g
def getN : List Nat → Nat → Nat → Nat
  | [], k, n => n + k
  | x :: _, 0, _ => x
  | _ :: r, k + 1, n => getN r k n
def AV.movC1 (js : List Nat) : AV → AV
  | .ptr j off => match js.contains j with | true => .ptr (at_ js j 0) off | false => .junk
  | a => a
def AV.uns : AV → AV
  | .same a => a
  | a => a
def AV.movC (js : List Nat) (a : AV) : AV := a.uns.movC1 js
def Pt.wrap1 : Pt → AV → AV
  | .same _, .own _ _ _ => .same .junk
  | .same _, a => .same a
  | _, a => a
def Pt.wrapL : List Pt → List AV → List AV
  | p :: r, a :: l => p.wrap1 a :: Pt.wrapL r l
  | _, l => l
def Pt.wrapB : List (List Pt) → List (List AV) → List (List AV)
  | p :: r, a :: l => Pt.wrapL p a :: Pt.wrapB r l
  | _, l => l
def gets (b : List (List AV)) (all : List Nat) : List Nat → List (List AV)
  | [] => []
  | j :: r => mapL (AV.movC all) (getB b j) :: gets b all r
def cellsOf (b : List (List AV)) : List Nat → List AV
  | [] => []
  | j :: r => mapL AV.uns (getB b j) ++ cellsOf b r
def clos (b : List (List AV)) (js : List Nat) : List Nat := ptrs2 (cellsOf b js) js
def movB (g : Nat → Nat) : List (List AV) → List (List AV)
  | [] => []
  | cs :: r => mapL (AV.mov1 g) cs :: movB g r
def St.move1 (s : St) (a : AV) : Option (AV × St) :=
  match a with
  | .agg cs => (match s.takes cs with | some (cs', s1) => some (.agg cs', s1) | none => none)
  | a => s.take1 a
def St.moves (s : St) : List AV → Option (List AV × St)
  | [] => some ([], s)
  | a :: r => match s.move1 a with
    | some (a', s1) => (match s1.moves r with | some (r', s2) => some (a' :: r', s2) | none => none)
    | none => none
def St.lendA (s : St) : AV → AV
  | .agg cs => .agg (s.lends cs)
  | a => s.lend1 a
def mergeL : List AV → List AV → List AV
  | o :: r, .same _ :: l => o :: mergeL r l
  | _ :: r, a :: l => a :: mergeL r l
  | _, l => l
def movBk (g : Nat → Nat) (b : List (List AV)) : List Nat → List (List AV) → List (List AV)
  | j :: js, x :: xs => mergeL (getB b j) (mapL (AV.mov1 g) x) :: movBk g b js xs
  | _, xs => movB g xs
def backB (b : List (List AV)) : List Nat → List (List AV) → List (List AV)
  | j :: js, x :: xs => backB (setB b j x) js xs
  | [], xs => b ++ xs
  | _ :: _, [] => b
def inJs (js : List Nat) : Root → Bool
  | .cell j _ => js.contains j
  | _ => false
def goneR (js : List Nat) (bx : List (List AV)) : Root → Bool
  | .cell j c => js.contains j && !isSameA (getT (getB bx (at_ js j 0)) c)
  | _ => false
def evBack (s : St) (js : List Nat) (d : Nat) (outs : List AV) (boxes : List (List AV)) (κ : AV → St → Option ρ) : Option ρ :=
  match s.boxes.length with
  | n => (match ({ s with boxes := backB s.boxes js (movBk (fun i => getN js i n) s.boxes js boxes) }).kill (goneR js boxes) with
    | s1 => (match mapL (AV.mov fun i => getN js i n) outs with
      | [a] => (match s1.settle1 500000 d a with | some (a', s2) => κ a' s2 | none => none)
      | l => (match s1.settles 500000 d l with | some (l', s2) => κ (.tup l') s2 | none => none)))
def roots1 : AV → List Root
  | .rt r => [r]
  | .sl (some r) _ _ _ => [r]
  | .fp (some r) _ _ _ => [r]
  | .ep r _ _ => [r]
  | _ => []
def rootsL : List AV → List Root
  | [] => []
  | a :: r => roots1 a ++ rootsL r
def rootsA : AV → List Root
  | .agg cs => rootsL cs
  | a => roots1 a
def noneIn (js : List Nat) : List Root → Bool
  | [] => true
  | x :: l => match inJs js x with | true => false | false => noneIn js l
def prepMove (s : St) : List Operand → List Nat → Option (List (Option AV) × St)
  | [], _ => some ([], s)
  | x :: r, 1 :: ms => (match s.move1 (s.ev x) with
    | some (a', s1) => (match prepMove s1 r ms with | some (r', s2) => some (some a' :: r', s2) | none => none)
    | none => none)
  | x :: r, ms => (match prepMove s r ms.tail with | some (r', s2) => some (none :: r', s2) | none => none)
def prepLend (s : St) : List Operand → List (Option AV) → List AV
  | _ :: r, some a :: l => a :: prepLend s r l
  | x :: r, none :: l => s.lendA (s.ev x) :: prepLend s r l
  | _, _ => []
def lentRoots (s : St) : List Operand → List (Option AV) → List Root
  | _ :: r, some _ :: l => lentRoots s r l
  | x :: r, none :: l => rootsA (s.ev x) ++ lentRoots s r l
  | _, _ => []
def nilArgs (C : Ctx) : List AV → List Nat → List Nat → List AV
  | .v (.slice none 0 0) :: r, t :: ts, ms => (match C.elem t with
    | some e => (match C.ty e with
      | some ty => (match ms with
        | 1 :: _ => .own e ty []
        | _ => .sl none e ty [])
      | none => .junk)
    | none => .junk) :: nilArgs C r ts ms.tail
  | a :: r, ts, ms => a :: nilArgs C r ts.tail ms.tail
  | [], _, _ => []
def fits : List Inst → List AV → List (List AV) → Nat → Option (Nat × Inst × List HV)
  | [], _, _, _ => none
  | I :: r, args, boxes, i => match Pt.parses I.args (Pt.frzs I.args args) with
    | some a => (match Pt.parseB I.boxes (Pt.frzB I.boxes (Pt.wrapB I.boxes boxes)) with
      | some b => (match Nat.beq I.boxes.length boxes.length && (Pt.okPs boxes.length (fun _ => false) I.args && Pt.okB boxes.length I.boxes) with
        | true => some (i, I, a ++ b)
        | false => fits r args boxes (i + 1))
      | none => fits r args boxes (i + 1))
    | none => fits r args boxes (i + 1)
abbrev Sem (ρ : Type) := Nat → Nat → Nat → List HV → (Out → Option ρ) → Option ρ
def allLt (n : Nat) : List Nat → Bool
  | [] => true
  | j :: r => match Nat.blt j n with | true => allLt n r | false => false
def St.frzK (C : Ctx) (f : Nat) (xs : List Operand) (mv : List (Option AV)) (s : St) : St := match C.keeps f with
  | true => s.frzRs (lentRoots s xs mv)
  | false => s
def noRoots : List Root → Bool
  | [] => true
  | _ :: _ => false
def noMoves : List (Option AV) → Bool
  | [] => true
  | none :: r => noMoves r
  | some _ :: _ => false
def noJs : List Nat → Bool
  | [] => true
  | _ :: _ => false
def sameRun (l : List Pt) : Nat → Nat → Bool
  | _, 0 => true
  | c, n + 1 => (l.getD c .junk).isSame && sameRun l (c + 1) n
def protOK (js : List Nat) (I : Inst) : List Cl → Bool
  | [] => true
  | x :: r => (!js.contains x.j || sameRun (I.obox.getD (at_ js x.j 0) []) x.off x.n) && protOK js I r
def Inst.sameOK (I : Inst) : Bool := Pt.sameBB I.boxes I.obox && (match I.pans with | some (_, bp) => Pt.sameBB I.boxes bp | none => true)
def evCall (C : Ctx) (insts : Nat → List Inst) (sem : Sem ρ) (pr : List Cl) (s : St) (f : Nat) (first : List AV) (xs : List Operand) (caps : List AV) (tys : List Nat) (d : Nat) (κ : AV → St → Option ρ) (π : AV → St → Option ρ) : Option ρ :=
  match prepMove s xs (C.mode f) with
  | some (mv, s0) => (match s0.frzK C f xs mv with
    | s1 => (match first ++ (nilArgs C (prepLend s1 xs mv) tys (C.mode f) ++ caps) with
    | args => (match clos s1.boxes (clos s1.boxes (ptrs args [])) with
      | js => (match noneIn js (lentRoots s1 xs mv) && (allLt s1.boxes.length js && ((!C.keeps f || noRoots (lentRoots s1 xs mv)) && (!C.quiet f || (!C.keeps f && (noMoves mv && noJs js))))) with
        | true => (match fits (insts f) (mapL (AV.mov fun j => at_ js j 0) args) (gets s1.boxes js js) 0 with
          | some (i, I, hs) => (match (C.keeps f || I.noSl) && (I.sameOK && protOK js I pr) with
           | true => sem f i 0 hs (fun out => match out with
            | .ret vs => (match Pt.builds I.outs vs with
              | some (outs, h2) => (match Pt.buildB I.obox h2 with
                | some (bx, []) => (match Nat.ble js.length bx.length with
                  | true => evBack s1 js d outs bx κ
                  | false => none)
                | _ => none)
              | none => none)
            | .pan vs => (match I.pans with
              | some (p, bp) => (match p.build vs with
                | some (v, h1) => (match Pt.buildB bp h1 with
                  | some (bx, []) => (match Nat.ble js.length bx.length with
                    | true => π (v.mov fun i => getN js i s1.boxes.length) ⟨[], noTok, backB s1.boxes js (movBk (fun i => getN js i s1.boxes.length) s1.boxes js bx)⟩
                    | false => none)
                  | _ => none)
                | none => none)
              | none => none))
           | false => none)
          | none => none)
        | false => none))))
  | none => none
def tokNs : List AV → Option (List Nat)
  | [] => some []
  | .rt (.tok n) :: r => (match tokNs r with | some l => some (n :: l) | none => none)
  | _ :: _ => none
def AV.handed : AV → Option (Bool × List Nat)
  | .rt (.tok n) => some (false, [n])
  | .agg cs => (match tokNs cs with | some l => some (true, l) | none => none)
  | _ => none
def tokHs (s : St) : List Nat → Option (List HV)
  | [] => some []
  | n :: r => (match s.toks n with
    | .own e t xs => (match tokHs s r with | some l => some (⟨.sl e t, xs⟩ :: l) | none => none)
    | _ => none)
def scalH : AV → Option HV
  | .v (.int k n) => some ⟨.int k, n⟩
  | .v (.bool b) => some ⟨.bool, b⟩
  | .v (.string b) => some ⟨.str, b⟩
  | _ => none
def scalHs : List AV → Option (List HV)
  | [] => some []
  | a :: r => (match scalH a with | some h => (match scalHs r with | some l => some (h :: l) | none => none) | none => none)
def putTk (s : St) : List Nat → List HV → Option St
  | [], [] => some s
  | n :: r, ⟨.sl e t, ys⟩ :: h => putTk ((s.setRoot (.tok n) (.own e t ys)).fade (Root.beq (.tok n))) r h
  | _, _ => none
def HV.av : HV → Option AV
  | ⟨.int k, n⟩ => some (.v (.int k n))
  | ⟨.bool, b⟩ => some (.v (.bool b))
  | ⟨.str, b⟩ => some (.v (.string b))
  | _ => none
def outAV : List HV → Option AV
  | [] => some .junk
  | [h] => h.av
  | _ => none
def apartN : List Nat → Bool
  | [] => true
  | n :: r => !r.contains n && apartN r
def evCallW (s : St) (W : Wr) (xs : List Operand) (κ : AV → St → Option ρ) : Option ρ :=
  match xs with
  | [] => none
  | x :: r => (match (s.ev x).handed with
    | some (ag, ns) => (match apartN ns with
      | true => (match tokHs s ns with
        | some hs => (match scalHs (r.map s.ev) with
          | some sc => (match W.run ag hs sc with
            | some (ys, out) => (match putTk s ns ys with
              | some s1 => (match outAV out with
                | some a => κ a s1
                | none => none)
              | none => none)
            | none => none)
          | none => none)
        | none => none)
      | false => none)
    | none => none)
def evAssign (C : Ctx) (s : St) (t d : Nat) (a : AV) (κ : AV → St → Option ρ) : Option ρ :=
  match a with
  | .rt (.tok n) => (match Nat.beq n d with
    | true => κ a s
    | false => (match Nat.blt d 500000 with
      | true => (match s.toks n with
        | .own e ty xs => (match ({ (s.drop d) with toks := tokSet (tokSet (s.drop d).toks n .junk) d (.own e ty xs) } : St) with
          | s1 => κ (.rt (.tok d)) (s1.mapS (AV.ren1 n d)))
        | .lit e ty rows => (match St.solid ty rows ((s.drop n).drop d) with
          | some (xs, s1) => s1.fresh d (.own e ty xs) κ
          | none => none)
        | _ => none)
      | false => none))
  | .v (.slice none 0 0) => (match C.elem t with
    | some e => (match C.ty e with
      | some ty => (s.drop d).fresh d (.own e ty []) κ
      | none => none)
    | none => none)
  | a => κ a s
def plainL : List AV → Bool
  | [] => true
  | .v _ :: r => plainL r
  | .ptr _ _ :: r => plainL r
  | .sl none _ _ _ :: r => plainL r
  | _ => false
def dstOf (o : Oper) : Nat := match o.dst with | some d => d | none => 0
def ofOpt (s : St) : Option Operand → Option AV
  | some x => some (s.ev x)
  | none => none
def evOp (C : Ctx) (insts : Nat → List Inst) (sem : Sem ρ) (pr : List Cl) (s : St) (o : Oper) (κ : AV → St → Option ρ) (π : AV → St → Option ρ) : Option ρ :=
  match o.op with
  | .move x => κ (s.ev x) s
  | .assign x => evAssign C s o.type (dstOf o) (s.ev x) κ
  | .pick c a b => (match s.ev c with
    | .v (.bool t) => bif t then κ (s.ev a) s else κ (s.ev b) s
    | _ => none)
  | .nilCheck x => (match s.ev x with
    | .ptr j off => κ (.ptr j off) s
    | .fn (.func f) l m => κ (.fn (.func f) l m) s
    | _ => none)
  | .alloc t => (match Nat.blt 0 (C.size t) with | true => κ (.ptr s.boxes.length 0) { s with boxes := s.boxes ++ [C.zero t] } | false => none)
  | .box t x => evBox C s t (s.ev x) κ
  | .build t parts => (match (lookTI C.D t).d with
    | .st _ => (match evParts C s t parts.toList (nilZero (C.zero t)) with
      | some cs => κ (.agg cs) s
      | none => none)
    | _ => none)
  | .buildSlice t len parts => evLit C s t len parts (dstOf o) κ
  | .load t a => evLoad C s t (s.ev a) (fun x => κ x s)
  | .store t a x => (match pr.all (stayB C t (s.ev a)) with | true => evStore C s t (s.ev a) (s.ev x) (fun s1 => κ .junk s1) | false => none)
  | .binOp op t x y _ => evBin (match (lookTI C.D t).d with | .bool => true | _ => false) op (s.ev x) (s.ev y) (fun x => κ x s)
  | .unOp op _ x => evUn op (s.ev x) (fun x => κ x s)
  | .convert src dst x => (match Nat.beq dst byteSl with | true => evBytes C src (s.ev x) (fun x => κ x s) | false => evConv C s src dst (s.ev x) (fun x => κ x s))
  | .makeInterface t x => (match (lookTI C.D t).d with
    | .iface | .other => none
    | _ => (match s.ev x with
      | .v y => κ (.v (.iface t y)) s
      | _ => none))
  | .makeFunc f first caps => (match plainL (first.toList.map s.ev) && plainL (caps.toList.map s.ev) with
    | true => κ (.fn f (first.toList.map s.ev) (caps.toList.map s.ev)) s
    | false => none)
  | .makeSlice t l c => evMake C s t (s.ev l) (s.ev c) (dstOf o) κ
  | .slice t x lo hi none => evSlice C t s (s.ev x) (ofOpt s lo) (ofOpt s hi) (fun x => κ x s)
  | .fieldAddr t x f => (match C.field t f with
    | some (off, _) => (match s.ev x with
      | .ptr j o' => κ (.ptr j (o' + off)) s
      | .fp m ty y o' => κ (.fp m ty y (o' + off)) s
      | .ep r i o' => κ (.ep r i (o' + off)) s
      | .deadp => κ .deadp s
      | _ => none)
    | none => none)
  | .field t x f => (match C.field t f with
    | some (off, ft) => (match s.ev x with
      | .agg cs => (match cut cs off (C.size ft) with
        | l => (match lenEq l (C.size ft) && oneOk C ft with | true => κ (whole (C.agg ft) l) s | false => none))
      | _ => none)
    | none => none)
  | .indexAddr t x i => evIdxA C t s (s.ev x) (s.ev i) (fun x => κ x s)
  | .index t x i => (match isStr C t with | true => evIdx (s.ev x) (s.ev i) (fun x => κ x s) | false => none)
  | .extract x i => (match s.ev x with
    | .tup l => (match Nat.blt i l.length with | true => κ (getT l i) s | false => none)
    | _ => none)
  | .panic x => (match s.ev x with
    | .v (.iface t y) => π (.v (.iface t y)) ⟨[], noTok, s.boxes⟩
    | _ => none)
  | .call c => (match c.callee with
    | .builtin .len => (match c.args.toList, c.argTypes.toList with | [x], [t] => evLen C t s (s.ev x) (fun x => κ x s) | _, _ => none)
    | .builtin .append => (match c.args.toList, c.argTypes.toList with
      | [a, x], [t, u] => evAppend C s t u (s.ev a) (s.ev x) (dstOf o) κ
      | _, _ => none)
    | .builtin .min => (match c.args.toList with
      | [x, y] => (match s.ev x, s.ev y with
        | .v (.int k a), .v (.int k' b) => if k = k' then κ (.v (.int k (mn a b))) s else none
        | _, _ => none)
      | _ => none)
    | .builtin .max => (match c.args.toList with
      | [x, y] => (match s.ev x, s.ev y with
        | .v (.int k a), .v (.int k' b) => if k = k' then κ (.v (.int k (mx a b))) s else none
        | _, _ => none)
      | _ => none)
    | .value fx => (match s.ev fx with
      | .fn (.func f) first caps => (match C.wr f with
        | none => evCall C insts sem pr s f first c.args.toList caps c.argTypes.toList (dstOf o) κ π
        | some W => (match C.quiet f, first, caps with
          | false, [], [] => evCallW s W c.args.toList κ
          | _, _, _ => none))
      | _ => none)
    | _ => none)
  | _ => none
def qB (o : Oper) : Bool :=
  match o.op with
  | .move _ | .pick _ _ _ | .nilCheck _ | .build _ _ | .binOp _ _ _ _ _ | .unOp _ _ _ | .makeInterface _ _ | .makeFunc _ _ _ | .slice _ _ _ _ none | .fieldAddr _ _ _ | .field _ _ _ | .indexAddr _ _ _ | .index _ _ _ | .extract _ _ | .load _ _ => true
  | .convert _ dst _ => !Nat.beq dst byteSl
  | .call c => (match c.callee with
    | .builtin .len | .builtin .min | .builtin .max => true
    | _ => false)
  | _ => false
def keepB (C : Ctx) (o : Oper) : Bool :=
  match o.op with
  | .alloc _ | .makeSlice _ _ _ | .buildSlice _ _ _ | .convert _ _ _ => true
  | .call c => (match c.callee with
    | .builtin .len | .builtin .min | .builtin .max => true
    | .value (.func f) => C.quiet f
    | _ => false)
  | _ => qB o
def spB (C : Ctx) (o : Oper) : Bool :=
  match o.op with
  | .store _ _ _ => true
  | .call c => (match c.callee with
    | .builtin .append => true
    | .value _ => true
    | _ => keepB C o)
  | _ => keepB C o
inductive Rd where
  | free | box (j off n : Nat) | any
def rdOf (C : Ctx) (s : St) (o : Oper) : Rd :=
  match o.op with
  | .load t a => (match s.ev a with
    | .ptr j off => .box j off (C.size t)
    | .fp none _ _ _ => .free
    | _ => .any)
  | .convert _ _ x => (match s.ev x with
    | .v _ => .free
    | .sl none _ _ _ => .free
    | _ => .any)
  | _ => .free
def guardT (ops : List Oper) (j : Nat) : Option Nat := match ops[j]? with | some o => o.dst | none => none
def evG (C : Ctx) (insts : Nat → List Inst) (sem : Sem ρ) (pr : List Cl) (ops : List Oper) (o : Oper) (s : St) (κ : Bool → St → Option ρ) (π : AV → St → Option ρ) : Option ρ :=
    (match o.guard with
    | none => evOp C insts sem pr s o (fun a s1 => κ true (s1.put o.dst a)) π
    | some (j, want) => (match guardT ops j with
      | some g => (match getT s.tmps g with
        | .v (.bool b) => (match want with
          | true => bif b then evOp C insts sem pr { s with tmps := setT s.tmps g (.v (.bool true)) } o (fun a s1 => κ true (s1.put o.dst a)) π
            else κ false (St.put { s with tmps := setT s.tmps g (.v (.bool false)) } o.dst (.v undef))
          | false => bif b then κ false (St.put { s with tmps := setT s.tmps g (.v (.bool true)) } o.dst (.v undef))
            else evOp C insts sem pr { s with tmps := setT s.tmps g (.v (.bool false)) } o (fun a s1 => κ true (s1.put o.dst a)) π)
        | .v (.tuple _) => κ false (St.put s o.dst (.v undef))
        | _ => none)
      | none => none))
def evOps (C : Ctx) (insts : Nat → List Inst) (sem : Sem ρ) (ops : List Oper) : List Oper → St → (St → Option ρ) → (AV → St → Option ρ) → Option ρ
  | [], s, κ, _ => κ s
  | o :: r, s, κ, π => evG C insts sem [] ops o s (fun _ s1 => evOps C insts sem ops r s1 κ π) π
def findSh : List (Nat × Sh) → Nat → Option Sh
  | [], _ => none
  | x :: r, n => match Nat.beq x.1 n with | true => some x.2 | false => findSh r n
def tmpsOf : List Operand → List Nat
  | [] => []
  | .tmp t :: r => t :: tmpsOf r
  | _ :: r => tmpsOf r
def usesOf (ops : List Oper) (o : Oper) : List Nat :=
  tmpsOf o.op.operands.toList ++ (match o.guard with | some (j, _) => (match guardT ops j with | some g => [g] | none => []) | none => [])
def touches (d : Option Nat) (l : List Nat) : Bool := match d with | some d => l.contains d | none => false
def apartB (ops : List Oper) (a b : Oper) : Bool := !touches a.dst (usesOf ops b) && (!touches b.dst (usesOf ops a) && !touches a.dst b.dst.toList)
structure PI where
  i : Nat
  m : Nat
  o : Oper
def nthN : List Nat → Nat → Nat
  | [], _ => 0
  | x :: _, 0 => x
  | _ :: r, n + 1 => nthN r n
def maskOf (ms : List Nat) : List Edge → Nat
  | [] => 0
  | e :: r => match Region.binds .any e with | true => Nat.lor (Nat.lor (Nat.pow 2 e.on) (nthN ms e.on)) (maskOf ms r) | false => maskOf ms r
def itemsOf : List Oper → Nat → List Nat → List PI
  | [], _, _ => []
  | o :: r, k, ms => match maskOf ms o.after.toList with | m => ⟨k, m, o⟩ :: itemsOf r (k + 1) (ms ++ [m])
def readyM (done : Nat) (x : PI) : Bool := Nat.beq (Nat.land x.m done) x.m
def takeQ (done : Nat) : List PI → Option (PI × List PI)
  | [] => none
  | x :: r => match readyM done x && qB x.o with
    | true => some (x, r)
    | false => (match takeQ done r with | some (y, r') => some (y, x :: r') | none => none)
def mkB (o : Oper) : Bool := match o.guard, o.dst with
  | none, some d => !(tmpsOf o.op.operands.toList).contains d && (match o.op with | .alloc _ | .buildSlice _ _ _ => true | _ => false)
  | _, _ => false
def takeF (done : Nat) : List PI → Option (PI × List PI)
  | [] => none
  | x :: r => match readyM done x with
    | true => some (x, r)
    | false => (match takeF done r with | some (y, r') => some (y, x :: r') | none => none)
def takeN (done : Nat) : List PI → Option (PI × List PI)
  | [] => none
  | x :: r => match readyM done x && !mkB x.o with
    | true => some (x, r)
    | false => (match takeN done r with | some (y, r') => some (y, x :: r') | none => none)
def takeR (done : Nat) (l : List PI) : Option (PI × List PI) := match takeN done l with
  | some x => some x
  | none => takeF done l
def freeB (ops : List Oper) (x y : PI) : Bool := y.m.testBit x.i || apartB ops x.o y.o
def earlyB (ops : List Oper) (x : PI) (l : List PI) (y : PI) : Bool := mkB y.o && (apartB ops y.o x.o && l.all (fun z => Nat.beq z.i y.i || (freeB ops y z && (!z.m.testBit y.i || z.m.testBit x.i))))
def planGo (ops : List Oper) : Nat → Nat → List PI → Option (List PI)
  | 0, _, [] => some []
  | 0, _, _ :: _ => none
  | _ + 1, _, [] => some []
  | n + 1, done, l => match takeQ done l with
    | some (x, r) => (match r.all (freeB ops x) with
      | true => (match planGo ops n (Nat.lor done (Nat.pow 2 x.i)) r with | some p => some (x :: p) | none => none)
      | false => none)
    | none => (match takeR done l with
      | some (x, r) => (match r.all (fun y => !readyM done y || earlyB ops x r y) with
        | true => (match planGo ops n (Nat.lor done (Nat.pow 2 x.i)) r with | some p => some (x :: p) | none => none)
        | false => none)
      | none => none)
def edgesLt : List Oper → Nat → Bool
  | [], _ => true
  | o :: r, k => o.after.toList.all (fun e => !Region.binds .any e || Nat.blt e.on k) && edgesLt r (k + 1)
def planOf (ops : List Oper) : Option (List PI) := match ops.all (fun o => match o.op with | .select _ _ => false | _ => true) && edgesLt ops 0 with
  | true => planGo ops ops.length 0 (itemsOf ops 0 [])
  | false => none
def protOf (C : Ctx) (x : PI) : List (Nat × Rd) → Option (List Cl)
  | [] => some []
  | e :: r => match x.m.testBit e.1 with
    | true => protOf C x r
    | false => (match e.2 with
      | .free => protOf C x r
      | .box j off n => (match spB C x.o with
        | true => (match protOf C x r with | some l => some (⟨j, off, n⟩ :: l) | none => none)
        | false => none)
      | .any => (match keepB C x.o with | true => protOf C x r | false => none))
def addRd (x : PI) (ran : Bool) (d : Rd) (rds : List (Nat × Rd)) : List (Nat × Rd) := match qB x.o && ran with | true => (x.i, d) :: rds | false => rds
def canMake (C : Ctx) (s : St) (o : Oper) : Bool := match o.op with
  | .alloc t => Nat.blt 0 (C.size t)
  | .buildSlice t len parts => (match C.elem t with
    | some e => (match C.ty e with
      | some ty => (match litRows s (C.size e) parts.toList 0 with
        | some rows => Nat.beq parts.size len && (Nat.ble len 1000000 && Nat.ble (len * C.size e) 16777216)
        | none => false)
      | none => false)
    | none => false)
  | _ => false
def earlyOK (C : Ctx) (s : St) (x : PI) (l : List PI) : Bool := qB x.o || l.all (fun y => !mkB y.o || ((y.m.testBit x.i || l.any (fun z => y.m.testBit z.i)) || canMake C s y.o))
def St.junkMk (s : St) : List PI → St
  | [] => s
  | x :: r => (match mkB x.o with
    | true => St.junkMk (s.put x.o.dst .junk) r
    | false => St.junkMk s r)
def evD (C : Ctx) (insts : Nat → List Inst) (sem : Sem ρ) (ops : List Oper) : List PI → List (Nat × Rd) → St → (St → Option ρ) → (AV → St → Option ρ) → Option ρ
  | [], _, s, κ, _ => κ s
  | x :: l, rds, s, κ, π => match earlyOK C (s.junkMk (x :: l)) x l with
    | false => none
    | true => match protOf C x rds with
      | some pr => evG C insts sem pr ops x.o (s.junkMk (x :: l)) (fun ran s1 => evD C insts sem ops l (addRd x ran (rdOf C (s.junkMk (x :: l)) x.o) rds) s1 κ π) π
      | none => none
def evOuts (C : Ctx) (s : St) : List ResultVar → Option (List AV)
  | [] => some []
  | .tmp t :: r => (match evOuts C s r with | some l => some (getT s.tmps t :: l) | none => none)
  | .cell t ty :: r => (match getT s.tmps t with
    | .ptr j off => (match evLoad C s ty (.ptr j off) some with
      | some a => (match evOuts C s r with | some l => some (a :: l) | none => none)
      | none => none)
    | _ => none)
def evRet (C : Ctx) (I : Inst) (fn : Func) (s : St) (κ : Out → Option ρ) : Option ρ :=
  match evOuts C s fn.results.toList with
  | some l => (match s.moves l with
    | some (outs, s1) => (match Pt.parses I.outs (Pt.frzs I.outs outs) with
      | some a => (match Pt.parseB I.obox (Pt.frzB I.obox s1.boxes) with
        | some c => (match Nat.ble I.boxes.length I.obox.length && (Pt.okPs I.obox.length (fun _ => false) I.outs && Pt.okB I.obox.length I.obox) with
          | true => κ (.ret (a ++ c))
          | false => none)
        | none => none)
      | none => none)
    | none => none)
  | none => none
def evPan (I : Inst) (v : AV) (s : St) (κ : Out → Option ρ) : Option ρ :=
  match I.pans with
  | some (p, bp) => (match p.parse v with
    | some a => (match Pt.parseB bp (Pt.frzB bp s.boxes) with
      | some b => (match Nat.ble I.boxes.length bp.length && (Pt.okP bp.length (fun _ => false) p && Pt.okB bp.length bp) with
        | true => κ (.pan (a ++ b))
        | false => none)
      | none => none)
    | none => none)
  | none => none
def exits (id : Nat) : List Item → Option (List Item)
  | [] => none
  | .inBlock j :: k => match Nat.beq j id with | true => some k | false => exits id k
  | _ :: k => exits id k
def frzPs : List Pt → List AV → List Root
  | .sl _ _ :: ps, .rt r :: l => r :: frzPs ps l
  | _ :: ps, _ :: l => frzPs ps l
  | _, _ => []
def frzP : Pt → AV → List Root
  | .sl _ _, .rt r => [r]
  | .agg ps, .agg cs => frzPs ps cs
  | _, _ => []
def frzT : List (Nat × Pt) → List AV → List Root
  | [], _ => []
  | p :: r, l => frzP p.2 (getT l p.1) ++ frzT r l
def St.frzSh (s : St) (S : Sh) : St := s.frzRs (frzT S.tmps s.tmps)
def evT (C : Ctx) (insts : Nat → List Inst) (sem : Sem ρ) (f i : Nat) (I : Inst) (fn : Func) : Nat → Bool → List Item → St → (Out → Option ρ) → Option ρ
  | 0, _, _, _, _ => none
  | n + 1, first, todo, s, κ =>
    match todo with
    | [] => evRet C I fn s κ
    | .code .ret :: _ => evRet C I fn s κ
    | .code .skip :: k => evT C insts sem f i I fn n false k s κ
    | .code (.label _) :: k => evT C insts sem f i I fn n false k s κ
    | .inBlock _ :: k => evT C insts sem f i I fn n false k s κ
    | .code (.seq a b) :: k => evT C insts sem f i I fn n first (.code a :: .code b :: k) s κ
    | .code (.cond c x y) :: k => (match s.ev c with
      | .v (.bool b) => bif b then evT C insts sem f i I fn n false (.code x :: k) s κ else evT C insts sem f i I fn n false (.code y :: k) s κ
      | _ => none)
    | .code (.block id c) :: k => evT C insts sem f i I fn n first (.code c :: .inBlock id :: k) s κ
    | .code (.loop c) :: k => evT C insts sem f i I fn n first (.code c :: .inLoop c :: k) s κ
    | .inLoop c :: k => evT C insts sem f i I fn n false (.code c :: .inLoop c :: k) s κ
    | .code (.exit id) :: k => (match exits id k with
      | some k' => evT C insts sem f i I fn n false k' s κ
      | none => none)
    | .code (.region id ops draw) :: k =>
      (match first, findSh I.stops id with
      | false, some S => (match Nat.ble I.boxes.length S.boxes.length with
        | true => (match S.parse (s.frzSh S) with
          | some hs => sem f i (id + 1) hs κ
          | none => none)
        | false => none)
      | _, _ => (match draw with
        | true => (match planOf ops.toList with
          | some l => evD C insts sem ops.toList l [] s (fun s1 => evT C insts sem f i I fn n false k s1 κ) (fun v s1 => evPan I v s1 κ)
          | none => none)
        | false => evOps C insts sem ops.toList ops.toList s (fun s1 => evT C insts sem f i I fn n false k s1 κ) (fun v s1 => evPan I v s1 κ)))
    | _ => none
def findC (id : Nat) : Code → List Item → Option (List Item)
  | .region j ops d, k => match Nat.beq j id with | true => some (.code (.region j ops d) :: k) | false => none
  | .seq a b, k => match findC id a (.code b :: k) with | some l => some l | none => findC id b k
  | .cond _ a b, k => match findC id a k with | some l => some l | none => findC id b k
  | .block j c, k => findC id c (.inBlock j :: k)
  | .loop c, k => findC id c (.inLoop c :: k)
  | _, _ => none
structure Fns where
  fn : Nat → Option Func
  insts : Nat → List Inst
def evStart (C : Ctx) (F : Fns) (sem : Sem ρ) (f i p : Nat) (hs : List HV) (κ : Out → Option ρ) : Option ρ :=
  match F.fn f with
  | some fn => (match fn.body with
    | some body => (match (F.insts f)[i]? with
      | some I => (match p with
        | 0 => (match Pt.builds I.args hs with
          | some (args, h1) => (match Pt.buildB I.boxes h1 with
            | some (bx, []) => (match St.settles 1000000000 ⟨[], noTok, bx⟩ 500000 args with
              | some (l, s) => (match Nat.ble l.length fn.ntmps with
                | true => evT C F.insts sem f i I fn 400 false [.code body] { s with tmps := l ++ blank (fn.ntmps - l.length) } κ
                | false => none)
              | none => none)
            | _ => none)
          | none => none)
        | id + 1 => (match findSh I.stops id with
          | some S => (match S.build fn.ntmps hs with
            | some s => (match findC id body [] with
              | some todo => evT C F.insts sem f i I fn 400 true todo s κ
              | none => none)
            | none => none)
          | none => none))
      | none => none)
    | none => none)
  | none => none
def run (C : Ctx) (F : Fns) (ext : Nat → Nat → List HV → (Out → Option ρ) → Option ρ) : Nat → Sem ρ
  | 0 => fun _ _ _ _ _ => none
  | k + 1 => fun f i p hs κ => match F.fn f with
    | some _ => evStart C F (run C F ext k) f i p hs κ
    | none => (match p with
      | 0 => ext f i hs κ
      | _ + 1 => none)
end
end Go.Proofs.YtbakkcdanoopgaaGreatDoor.Ev
namespace Go.Proofs.YtbakkcdanoopgaaGreatDoor.Ev
open Go Go.RowKit Go.Proofs.YtbakkcdanoopgaaGreatDoorW.PrintWords Go.Proofs.YtbakkcdanoopgaaGreatDoorW.PrintMore Kd
theorem kd_sz : ∀ t : Ty, t.kd.sz = t.size
  | .int _ => rfl
  | .bool => rfl
  | .str => rfl
  | .sl _ _ => rfl
  | .pr a b => by show a.kd.sz + b.kd.sz = a.size + b.size; rw [kd_sz a, kd_sz b]
theorem size_pos : ∀ t : Ty, 0 < t.size
  | .int _ => Nat.one_pos
  | .bool => Nat.one_pos
  | .str => Nat.one_pos
  | .sl _ _ => Nat.one_pos
  | .pr a b => by have := size_pos a; show 0 < a.size + b.size; omega
def All2 {α β : Type} (R : α → β → Prop) : List α → List β → Prop
  | [], [] => True
  | a :: l, b :: m => R a b ∧ All2 R l m
  | _, _ => False
end Go.Proofs.YtbakkcdanoopgaaGreatDoor.Ev
namespace Go.Proofs.YtbakkcdanoopgaaGreatDoor.Ev
open Go Go.RowKit Go.Proofs.YtbakkcdanoopgaaGreatDoorW.PrintWords Go.Proofs.YtbakkcdanoopgaaGreatDoorW.PrintMore Kd
namespace All2
variable {α β : Type} {R R' : α → β → Prop}
theorem len : ∀ {l : List α} {m : List β}, All2 R l m → l.length = m.length
  | [], [], _ => rfl
  | _ :: _, _ :: _, h => by rw [List.length_cons, List.length_cons, len h.2]
theorem imp : ∀ {l : List α} {m : List β}, All2 R l m → (∀ a b, a ∈ l → R a b → R' a b) → All2 R' l m
  | [], [], _, _ => trivial
  | a :: l, b :: m, h, f => ⟨f a b List.mem_cons_self h.1, imp h.2 fun x y hx => f x y (List.mem_cons_of_mem _ hx)⟩
theorem get : ∀ {l : List α} {m : List β} (_ : All2 R l m) {i : Nat} {a : α} (_ : l[i]? = some a), ∃ b, m[i]? = some b ∧ R a b
  | a :: l, b :: m, h, 0, x, hx => by
    have : a = x := by simpa using hx
    exact ⟨b, rfl, this ▸ h.1⟩
  | a :: l, b :: m, h, i + 1, x, hx => by
    have := get h.2 (i := i) (a := x) (by simpa using hx)
    simpa using this
  | [], [], _, _, _, hx => by simp at hx
theorem of_get : ∀ {l : List α} {m : List β}, l.length = m.length → (∀ (i : Nat) (a : α) (b : β), l[i]? = some a → m[i]? = some b → R a b) → All2 R l m
  | [], [], _, _ => trivial
  | a :: l, b :: m, hl, h => ⟨h 0 a b rfl rfl, of_get (by simpa using hl) fun i x y hx hy => h (i + 1) x y (by simpa using hx) (by simpa using hy)⟩
theorem append : ∀ {l l' : List α} {m m' : List β}, All2 R l m → All2 R l' m' → All2 R (l ++ l') (m ++ m')
  | [], _, [], _, _, h' => h'
  | _ :: _, _, _ :: _, _, h, h' => ⟨h.1, append h.2 h'⟩
theorem split : ∀ {l l' : List α} {m : List β}, All2 R (l ++ l') m → ∃ p q, m = p ++ q ∧ All2 R l p ∧ All2 R l' q
  | [], _, m, h => ⟨[], m, rfl, trivial, h⟩
  | a :: l, l', b :: m, h => by
    obtain ⟨p, q, rfl, h1, h2⟩ := split (l := l) h.2
    exact ⟨b :: p, q, rfl, ⟨h.1, h1⟩, h2⟩
theorem one {a : α} {m : List β} (h : All2 R [a] m) : ∃ b, m = [b] ∧ R a b := by
  match m, h with
  | [b], h => exact ⟨b, rfl, h.1⟩
end All2
end Go.Proofs.YtbakkcdanoopgaaGreatDoor.Ev
namespace Go.Proofs.YtbakkcdanoopgaaGreatDoor.Ev
open Go Go.RowKit Go.Proofs.YtbakkcdanoopgaaGreatDoorW.PrintWords Go.Proofs.YtbakkcdanoopgaaGreatDoorW.PrintMore Kd
inductive Owner where
  | free | box (j : Nat) | cell (j c : Nat) | tok (n : Nat) | hand (p : Nat) (b : Bool) | way (k c : Nat) | hid
  deriving DecidableEq
def Root.owner : Root → Owner
  | .tok n => .tok n
  | .cell j c => .cell j c
def mOwn : Option Root → Owner
  | none => .free
  | some r => r.owner
theorem Root.beq_iff {r q : Root} : Root.beq r q = true ↔ r = q := by
  cases r <;> cases q <;> simp [Root.beq]
theorem Root.owner_inj {r q : Root} (h : r.owner = q.owner) : r = q := by
  cases r <;> cases q <;> simp [Root.owner] at h <;> simp [h]
structure Env where
  own : Nat → Owner
  adr : List Nat
  rv : Nat → Value
  /-- what boxes' cells held when the function began -/
  kv : Nat → Nat → Value
def RepS (E : Env) (W : World) : AV → Value → Prop
  | .junk, _ => True
  | .v x, y => y = x
  | .sl none _ t xs, y => ∃ A c, y = .slice A xs.length c ∧ xs.length ≤ c ∧ F t.kd W (fun k => E.own k = .free) A xs.length xs
  | .ptr j off, y => ∃ g, E.adr[j]? = some g ∧ y = .pointer (some ⟨g, off, none⟩)
  | _, _ => False
def RepC (E : Env) (W : World) (o : Owner) : AV → Value → Prop
  | .own e t xs, y => t.kd.R e W 0 (fun k => E.own k = o) y xs
  | .same a, y => RepS E W a y ∧ ∀ j c, o = .cell j c → y = E.kv j c
  | a, y => RepS E W a y
def Hdr (E : Env) (s : St) (W : World) : Root → Value → Prop
  | .tok n, y => y = E.rv n ∧ s.toks n ≠ .junk
  | .cell j c, y => ∃ g ty cells, E.adr[j]? = some g ∧ W.heap[g]? = some (.cells cells ty (0, 0)) ∧ cells[c]? = some y ∧ ∃ e t xs, s.root (.cell j c) = .own e t xs
def Rep1 (E : Env) (s : St) (W : World) : AV → Value → Prop
  | .junk, _ => True
  | .dead, y => ∃ A n c, y = .slice A n c
  | .deadp, y => ∃ a, y = .pointer (some a)
  | .v x, y => y = x
  | .sl m _ t xs, y => ∃ A c, y = .slice A xs.length c ∧ xs.length ≤ c ∧ F t.kd W (fun k => E.own k = mOwn m) A xs.length xs
  | .ptr j off, y => ∃ g, E.adr[j]? = some g ∧ y = .pointer (some ⟨g, off, none⟩)
  | .rt r, y => Hdr E s W r y
  | .fp m t x off, y => ∃ ad : Addr, y = .pointer (some (ad.add off)) ∧ F t.kd W (fun k => E.own k = mOwn m) (some ad) 1 [x]
  | .ep r i off, y => ∃ g n c e t xs, Hdr E s W r (.slice (some ⟨g, 0, none⟩) n c) ∧ s.root r = .own e t xs ∧ 0 ≤ i ∧ i < (xs.length : Int) ∧ y = .pointer (some ⟨g, i.toNat * t.size + off, none⟩)
  | .fn f first caps, y => ∃ fs cs : Array Value, y = .func f fs cs ∧ All2 (RepS E W) first fs.toList ∧ All2 (RepS E W) caps cs.toList
  | _, _ => False
def Rep2 (E : Env) (s : St) (W : World) : AV → Value → Prop
  | .agg cs, y => ∃ vs : Array Value, y = .agg vs ∧ All2 (Rep1 E s W) cs vs.toList
  | a, y => Rep1 E s W a y
def RepV (E : Env) (s : St) (W : World) : AV → Value → Prop
  | .tup l, y => ∃ vs : Array Value, y = .tuple vs ∧ All2 (Rep2 E s W) l vs.toList
  | a, y => Rep2 E s W a y
def Tok (E : Env) (s : St) (W : World) (n : Nat) : AV → Prop
  | .junk => True
  | .own e t xs => t.kd.R e W 0 (fun k => E.own k = .tok n) (E.rv n) xs
  | .lit e t rows => ∃ g cells, E.rv n = .slice (some ⟨g, 0, none⟩) rows.length rows.length ∧ E.own g = .tok n ∧ W.heap[g]? = some (.cells cells e (0, 0)) ∧ All2 (Rep1 E s W) rows.flatten cells.toList ∧ (∀ row, row ∈ rows → row.length = t.size) ∧ rows.length ≤ 1000000
  | _ => False
def Box (E : Env) (W : World) (j : Nat) (cs : List AV) : Prop :=
  ∃ g ty cells, E.adr[j]? = some g ∧ E.own g = .box j ∧ W.heap[g]? = some (.cells cells ty (0, 0)) ∧ cells.size = cs.length ∧ ∀ (c : Nat) (a : AV) (y : Value), cs[c]? = some a → cells[c]? = some y → RepC E W (.cell j c) a y
structure Rep (E : Env) (s : St) (a : Act) (W : World) : Prop where
  tm : All2 (RepV E s W) s.tmps a.tmps.toList
  tk : ∀ n, Tok E s W n (s.toks n)
  bx : ∀ (j : Nat) (cs : List AV), s.boxes[j]? = some cs → Box E W j cs
  ln : s.boxes.length = E.adr.length
  new : ∀ k, W.heap.size ≤ k → E.own k = .free
structure After (E : Env) (W : World) (E' : Env) (W' : World) : Prop where
  os : W'.os = W.os
  tape : W'.tape = W.tape
  output : W'.output = W.output
  size : W.heap.size ≤ W'.heap.size
  free : ∀ k, k < W.heap.size → (E.own k = .free ∨ E.own k = .hid) → E'.own k = E.own k ∧ W'.heap[k]? = W.heap[k]?
  adr : ∃ l, E'.adr = E.adr ++ l
  par : ∀ n, 500000 ≤ n → E'.rv n = E.rv n
  kv : E'.kv = E.kv
theorem After.refl (E : Env) (W : World) : After E W E W := ⟨rfl, rfl, rfl, Nat.le_refl _, fun _ _ _ => ⟨rfl, rfl⟩, ⟨[], by simp⟩, fun _ _ => rfl, rfl⟩
theorem After.trans {E E1 E2 : Env} {W W1 W2 : World} (h : After E W E1 W1) (h' : After E1 W1 E2 W2) : After E W E2 W2 :=
  ⟨h'.os.trans h.os, h'.tape.trans h.tape, h'.output.trans h.output, Nat.le_trans h.size h'.size, fun k hk hf => by
    obtain ⟨h1, h2⟩ := h.free k hk hf
    obtain ⟨h3, h4⟩ := h'.free k (Nat.lt_of_lt_of_le hk h.size) (by rw [h1]; exact hf)
    exact ⟨h3.trans h1, h4.trans h2⟩, by
    obtain ⟨l, hl⟩ := h.adr
    obtain ⟨l', hl'⟩ := h'.adr
    exact ⟨l ++ l', by rw [hl', hl, List.append_assoc]⟩, fun n hn => (h'.par n hn).trans (h.par n hn), h'.kv.trans h.kv⟩
structure Move (bad : Owner → Prop) (E : Env) (W : World) (E' : Env) (W' : World) : Prop where
  blk : ∀ k, k < W.heap.size → ¬ bad (E.own k) → E'.own k = E.own k ∧ W'.heap[k]? = W.heap[k]?
  adr : ∃ l, E'.adr = E.adr ++ l
  kv : E'.kv = E.kv
theorem Move.refl (bad : Owner → Prop) (E : Env) (W : World) : Move bad E W E W := ⟨fun _ _ _ => ⟨rfl, rfl⟩, ⟨[], by simp⟩, rfl⟩
theorem Move.mono {bad bad' : Owner → Prop} {E E' : Env} {W W' : World} (h : Move bad E W E' W') (hb : ∀ o, bad o → bad' o) : Move bad' E W E' W' :=
  ⟨fun k hk hn => h.blk k hk fun hh => hn (hb _ hh), h.adr, h.kv⟩
end Go.Proofs.YtbakkcdanoopgaaGreatDoor.Ev
namespace Go.Proofs.YtbakkcdanoopgaaGreatDoor.Ev
open Go Go.RowKit Go.Proofs.YtbakkcdanoopgaaGreatDoorW.PrintWords Go.Proofs.YtbakkcdanoopgaaGreatDoorW.PrintMore Kd
section
variable {bad : Owner → Prop} {E E' : Env} {W W' : World} {s s' : St}
theorem Move.getAdr (h : Move bad E W E' W') {j g : Nat} (hj : E.adr[j]? = some g) : E'.adr[j]? = some g := by
  obtain ⟨l, hl⟩ := h.adr
  rw [hl, List.getElem?_append_left (List.getElem?_eq_some_iff.mp hj).1]
  exact hj
theorem Move.foot (h : Move bad E W E' W') {α : Type} {d : Kd α} {o : Owner} (ho : ¬ bad o) {A : Option Addr} {n : Nat} {xs : List α} (hf : F d W (fun k => E.own k = o) A n xs) : F d W' (fun k => E'.own k = o) A n xs := by
  refine F_mono (F_step (F_bound hf) fun k hk hlt => (h.blk k hlt fun hh => ho (hk.1 ▸ hh)).2) fun k hk => ?_
  rw [(h.blk k hk.2 fun hh => ho (hk.1 ▸ hh)).1]
  exact hk.1
theorem Move.row (h : Move bad E W E' W') {α : Type} {d : Kd α} {e : Nat} {o : Owner} (ho : ¬ bad o) {v : Value} {xs : List α} (hr : d.R e W 0 (fun k => E.own k = o) v xs) : d.R e W' 0 (fun k => E'.own k = o) v xs := by
  refine R_mono (R_step (R_bound hr) fun k hk hlt => (h.blk k hlt fun hh => ho (hk.1 ▸ hh)).2) fun k hk => ?_
  rw [(h.blk k hk.2.2.1 fun hh => ho (hk.1 ▸ hh)).1]
  exact hk.1
theorem Move.repS (h : Move bad E W E' W') (hf : ¬ bad .free) {a : AV} {y : Value} (hr : RepS E W a y) : RepS E' W' a y := by
  cases a with
  | junk => trivial
  | v x => exact hr
  | sl m e t xs =>
    cases m with
    | none => obtain ⟨A, c, h1, h2, h3⟩ := hr; exact ⟨A, c, h1, h2, h.foot hf h3⟩
    | some r => exact hr.elim
  | ptr j off => obtain ⟨g, h1, h2⟩ := hr; exact ⟨g, h.getAdr h1, h2⟩
  | _ => exact hr.elim
theorem Move.repC (h : Move bad E W E' W') (hf : ¬ bad .free) {o : Owner} (ho : ¬ bad o) {a : AV} {y : Value} (hr : RepC E W o a y) : RepC E' W' o a y := by
  cases a with
  | own e t xs => exact h.row ho hr
  | junk => trivial
  | v x => exact hr
  | sl m e t xs => exact h.repS hf (a := .sl m e t xs) hr
  | ptr j off => exact h.repS hf (a := .ptr j off) hr
  | same a => exact ⟨h.repS hf hr.1, fun j c ho => by rw [h.kv]; exact hr.2 j c ho⟩
  | _ => exact hr.elim
theorem repS_rep1 {s : St} {a : AV} {y : Value} (h : RepS E W a y) : Rep1 E s W a y := by
  cases a with
  | sl m e t xs => cases m <;> first | exact h | exact h.elim
  | _ => first | exact h | exact h.elim
theorem Move.box (h : Move bad E W E' W') (hf : ¬ bad .free) {j : Nat} (hj : ¬ bad (.box j)) (hc : ∀ c, ¬ bad (.cell j c)) {cs : List AV} (hb : Box E W j cs) : Box E' W' j cs := by
  obtain ⟨g, ty, cells, h1, h2, h3, h4, h5⟩ := hb
  have hlt : g < W.heap.size := (Array.getElem?_eq_some_iff.mp h3).1
  obtain ⟨h6, h7⟩ := h.blk g hlt (by rw [h2]; exact hj)
  exact ⟨g, ty, cells, h.getAdr h1, h6.trans h2, h7.trans h3, h4, fun c a y ha hy => h.repC hf (hc c) (h5 c a y ha hy)⟩
def AV.leans : AV → Root → Prop
  | .rt r, q => r = q
  | .sl (some r) _ _ _, q => r = q
  | .fp (some r) _ _ _, q => r = q
  | .ep r _ _, q => r = q
  | _, _ => False
def Stay (E : Env) (s : St) (W : World) (E' : Env) (s' : St) (W' : World) (r : Root) : Prop := ∀ y, Hdr E s W r y → Hdr E' s' W' r y ∧ ∀ e t xs, s.root r = .own e t xs → s'.root r = .own e t xs
theorem Move.rep1 (h : Move bad E W E' W') (hf : ¬ bad .free) {a : AV} {y : Value} (hl : ∀ r, a.leans r → ¬ bad r.owner ∧ Stay E s W E' s' W' r) (hr : Rep1 E s W a y) : Rep1 E' s' W' a y := by
  cases a with
  | junk => trivial
  | dead => exact hr
  | deadp => exact hr
  | v x => exact hr
  | sl m e t xs =>
    cases m with
    | none => obtain ⟨A, c, h1, h2, h3⟩ := hr; exact ⟨A, c, h1, h2, h.foot hf h3⟩
    | some r => obtain ⟨A, c, h1, h2, h3⟩ := hr; exact ⟨A, c, h1, h2, h.foot (hl r rfl).1 h3⟩
  | ptr j off => obtain ⟨g, h1, h2⟩ := hr; exact ⟨g, h.getAdr h1, h2⟩
  | rt r => exact ((hl r rfl).2 y hr).1
  | fp m t x off =>
    cases m with
    | none => obtain ⟨ad, h1, h2⟩ := hr; exact ⟨ad, h1, h.foot hf h2⟩
    | some r => obtain ⟨ad, h1, h2⟩ := hr; exact ⟨ad, h1, h.foot (hl r rfl).1 h2⟩
  | ep r i off =>
    obtain ⟨g, n, c, e, t, xs, h1, h2, h3⟩ := hr
    exact ⟨g, n, c, e, t, xs, ((hl r rfl).2 _ h1).1, ((hl r rfl).2 _ h1).2 _ _ _ h2, h3⟩
  | fn f first caps =>
    obtain ⟨fs, cs, h1, h2, h3⟩ := hr
    exact ⟨fs, cs, h1, h2.imp fun _ _ _ => h.repS hf, h3.imp fun _ _ _ => h.repS hf⟩
  | _ => exact hr.elim
end
end Go.Proofs.YtbakkcdanoopgaaGreatDoor.Ev
set_option linter.unusedVariables false
set_option linter.unusedSimpArgs false
namespace Go.Proofs.YtbakkcdanoopgaaGreatDoor.Ev
open Go Go.RowKit Go.Proofs.YtbakkcdanoopgaaGreatDoorW.PrintWords Go.Proofs.YtbakkcdanoopgaaGreatDoorW.PrintMore Kd
def sameV : Value → Value → Bool
  | .int k n, .int k' n' => decide (k = k') && decide (n = n')
  | .bool b, .bool b' => decide (b = b')
  | .string s, .string s' => decide (s.size = 0) && decide (s'.size = 0)
  | .slice none 0 0, .slice none 0 0 => true
  | .pointer none, .pointer none => true
  | .map none, .map none => true
  | .nilFunc, .nilFunc => true
  | .nilIface, .nilIface => true
  | _, _ => false
theorem sameV_eq {x y : Value} (h : sameV x y = true) : x = y := by
  unfold sameV at h
  split at h
  · simp at h; rw [h.1, h.2]
  · simp at h; rw [h]
  · simp at h; rw [h.1, h.2]
  all_goals first | rfl | exact absurd h (by simp)
def sameVs : List Value → List Value → Bool
  | [], [] => true
  | x :: l, y :: m => sameV x y && sameVs l m
  | _, _ => false
theorem sameVs_eq : ∀ {l m : List Value}, sameVs l m = true → l = m
  | [], [], _ => rfl
  | x :: l, y :: m, h => by
    simp only [sameVs, Bool.and_eq_true] at h
    rw [sameV_eq h.1, sameVs_eq h.2]
  | [], _ :: _, h => by simp [sameVs] at h
  | _ :: _, [], h => by simp [sameVs] at h
def rawZ : AV → Value
  | .v x => x
  | _ => .slice none 0 0
def tdB : TD → TypeDesc → Bool
  | .int k, .int k' => decide (k = k')
  | .bool, .bool => true
  | .str, .string => true
  | .sl e, .slice e' => decide (e = e')
  | .st fs, .struct gs => decide (gs.toList.map (fun g => (g.offset, g.type)) = fs)
  | .ptr _, .pointer _ => true
  | .map _ _, .map _ _ => true
  | .func, .func _ _ _ => true
  | .iface, .interface _ => true
  | _, _ => false
def Ty.zeroV : Ty → List Value
  | .int k => [.int k 0]
  | .bool => [.bool false]
  | .str => [.string ⟨#[]⟩]
  | .sl _ _ => [.slice none 0 0]
  | .pr a b => a.zeroV ++ b.zeroV
def tyB (D : List TI) (x : TI) : Bool :=
  match tyOf D 16 x.id with
  | some u => decide (u.size = x.size) && sameVs ((zeroOf D 16 x.id).map rawZ) u.zeroV
  | none => true
def fsB (P : Program) (D : List TI) : TD → Bool
  | .st fs => fs.all fun f => match P.info? f.2 with | some i => decide (i.size = (lookTI D f.2).size) && decide (0 < i.size) | none => false
  | _ => true
def tiB (P : Program) (D : List TI) (x : TI) : Bool :=
  match P.info? x.id, P.underlying x.id with
  | some i, some d => decide (i.size = x.size) && (decide (i.bytes = x.bytes) && (tdB x.d d && (decide (0 < x.size) && (decide (0 < x.bytes) && ((match i.zero with
    | some z => sameVs z.cells.toList ((zeroOf D 16 x.id).map rawZ)
    | none => false) && (tyB D x && fsB P D x.d))))))
  | _, _ => false
def TabOK (P : Program) (D : List TI) : Prop := ∀ x, x ∈ D → tiB P D x = true
theorem look_mem {D : List TI} {t : Nat} : lookTI D t ∈ D ∧ (lookTI D t).id = t ∨ lookTI D t = ⟨t, .other, 0, 0⟩ := by
  induction D with
  | nil => exact .inr rfl
  | cons x r ih =>
    unfold lookTI
    cases h : Nat.beq x.id t with
    | true => exact .inl ⟨List.mem_cons_self, Nat.eq_of_beq_eq_true h⟩
    | false =>
      rcases ih with ⟨h1, h2⟩ | h
      · exact .inl ⟨List.mem_cons_of_mem _ h1, h2⟩
      · exact .inr h
structure TiOK (P : Program) (D : List TI) (t : Nat) (i : TypeInfo) (d : TypeDesc) (z : Value) : Prop where
  info : P.info? t = some i
  under : P.underlying t = some d
  size : i.size = (lookTI D t).size
  bytes : i.bytes = (lookTI D t).bytes
  desc : tdB (lookTI D t).d d = true
  spos : 0 < (lookTI D t).size
  bpos : 0 < (lookTI D t).bytes
  zero : i.zero = some z
  zeros : z.cells.toList = (zeroOf D 16 t).map rawZ
  fss : fsB P D (lookTI D t).d = true
  tys : ∀ u, tyOf D 16 t = some u → u.size = (lookTI D t).size ∧ z.cells.toList = u.zeroV
end Go.Proofs.YtbakkcdanoopgaaGreatDoor.Ev
set_option linter.unusedVariables false
set_option linter.unusedSimpArgs false
namespace Go.Proofs.YtbakkcdanoopgaaGreatDoor.Ev
open Go Go.RowKit Go.Proofs.YtbakkcdanoopgaaGreatDoorW.PrintWords Go.Proofs.YtbakkcdanoopgaaGreatDoorW.PrintMore Kd
variable {P : Program} {D : List TI}
theorem TabOK.get (h : TabOK P D) {t : Nat} (ht : (lookTI D t).d ≠ .other) : ∃ i d z, TiOK P D t i d z := by
  rcases look_mem (D := D) (t := t) with ⟨h1, h2⟩ | h1
  · have hb := h _ h1
    generalize hx : lookTI D t = x at h1 h2 hb ht
    unfold tiB at hb
    rw [h2] at hb
    cases hi : P.info? t with
    | none => rw [hi] at hb; simp at hb
    | some i =>
      cases hd : P.underlying t with
      | none => rw [hi, hd] at hb; simp at hb
      | some d =>
        rw [hi, hd] at hb
        simp only [Bool.and_eq_true, decide_eq_true_eq] at hb
        obtain ⟨b1, b2, b3, b4, b5, b6, b7, b8⟩ := hb
        cases hz : i.zero with
        | none => rw [hz] at b6; simp at b6
        | some z =>
          rw [hz] at b6
          have b6' := sameVs_eq b6
          refine ⟨i, d, z, hi, hd, by rw [hx]; exact b1, by rw [hx]; exact b2, by rw [hx]; exact b3, by rw [hx]; exact b4, by rw [hx]; exact b5, hz, b6', by rw [hx]; exact b8, fun u hu => ?_⟩
          unfold tyB at b7
          rw [h2, hu] at b7
          simp only [Bool.and_eq_true, decide_eq_true_eq] at b7
          exact ⟨by rw [hx]; exact b7.1, b6'.trans (sameVs_eq b7.2)⟩
  · rw [h1] at ht; exact absurd rfl ht
theorem look_size {t : Nat} (h : 0 < (lookTI D t).size) (hT : TabOK P D) : (lookTI D t).d ≠ .other := by
  rcases look_mem (D := D) (t := t) with ⟨h1, h2⟩ | h1
  · have hb := hT _ h1
    intro hd
    unfold tiB at hb
    rw [h2, hd] at hb
    cases hi : P.info? t with
    | none => rw [hi] at hb; simp at hb
    | some i =>
      cases hu : P.underlying t with
      | none => rw [hi, hu] at hb; simp at hb
      | some d => rw [hi, hu] at hb; simp [tdB] at hb
  · rw [h1] at h; simp at h
theorem elem_some {C : Ctx} (hT : TabOK P C.D) {t e : Nat} (h : C.elem t = some e) : P.underlying t = some (.slice e) := by
  unfold Ctx.elem at h
  cases hd : (lookTI C.D t).d with
  | sl e' =>
    rw [hd] at h
    obtain rfl : e' = e := Option.some.inj h
    obtain ⟨i, d, z, hi⟩ := hT.get (t := t) (by rw [hd]; simp)
    have h1 := hi.desc
    rw [hd] at h1
    rw [hi.under]
    cases d <;> simp [tdB] at h1
    rw [h1]
  | _ => rw [hd] at h; simp at h
theorem field_some {C : Ctx} (hT : TabOK P C.D) {t f off ft : Nat} (h : C.field t f = some (off, ft)) : ∃ fs : Array Field, P.underlying t = some (.struct fs) ∧ ∃ g : Field, fs[f]? = some g ∧ g.offset = off ∧ g.type = ft := by
  unfold Ctx.field at h
  cases hd : (lookTI C.D t).d with
  | st fs' =>
    rw [hd] at h
    obtain ⟨i, d, z, hi⟩ := hT.get (t := t) (by rw [hd]; simp)
    have h1 := hi.desc
    rw [hd] at h1
    cases d <;> simp [tdB] at h1
    rename_i gs
    refine ⟨gs, hi.under, ?_⟩
    have h2 : fs'[f]? = some (off, ft) := h
    rw [← h1, List.getElem?_map] at h2
    cases hg : gs[f]? with
    | none => simp [hg] at h2
    | some g =>
      simp [hg] at h2
      exact ⟨g, rfl, h2.1, h2.2⟩
  | _ => rw [hd] at h; simp at h
theorem ty_some {C : Ctx} (hT : TabOK P C.D) {e : Nat} {u : Ty} (h : C.ty e = some u) : ∃ i d z, TiOK P C.D e i d z ∧ u.size = C.size e ∧ z.cells.toList = u.zeroV := by
  have hd : (lookTI C.D e).d ≠ .other := by
    intro hd
    have h' : tyOf C.D 16 e = some u := h
    simp only [tyOf, hd] at h'
    cases h'
  obtain ⟨i, d, z, hi⟩ := hT.get hd
  obtain ⟨h1, h2⟩ := hi.tys u h
  exact ⟨i, d, z, hi, h1, h2⟩
theorem M_zero (W : World) (base : Nat) (ok : Nat → Prop) : ∀ u : Ty, u.kd.M W base ok u.zero u.zeroV
  | .int _ => rfl
  | .bool => rfl
  | .str => rfl
  | .sl _ _ => ⟨_, rfl, R_nil _ _ _ _ _⟩
  | .pr a b => ⟨a.zeroV, b.zeroV, rfl, M_zero W base ok a, M_zero W base ok b⟩
end Go.Proofs.YtbakkcdanoopgaaGreatDoor.Ev
set_option linter.unusedVariables false
set_option linter.unusedSimpArgs false
namespace Go.Proofs.YtbakkcdanoopgaaGreatDoor.Ev
open Go Go.RowKit Go.Proofs.YtbakkcdanoopgaaGreatDoorW.PrintWords Go.Proofs.YtbakkcdanoopgaaGreatDoorW.PrintMore Kd
def Sim (P : Program) (o : Oper) (E : Env) (s : St) (act : Act) (W : World) (a' : AV) (s' : St) : Prop :=
  ∀ (K : Act → World → Prop) (Q : Exit → Act → World → Prop), (∀ E' y' W', Rep E' s' act W' → RepV E' s' W' a' y' → After E W E' W' → K (act.put o.dst y') W') → Oper.wp P o act W K Q
def Ext (W W' : World) : Prop := ∀ k, k < W.heap.size → W'.heap[k]? = W.heap[k]?
def SameR (E : Env) (W W' : World) : Rd → Prop
  | .free => ∀ k, k < W.heap.size → E.own k = .free → W'.heap[k]? = W.heap[k]?
  | .box j off n => ∀ g, E.adr[j]? = some g → ∀ i, i < n → ∀ v, W.cell? ⟨g, off + i, none⟩ = some v → W'.cell? ⟨g, off + i, none⟩ = some v
  | .any => Ext W W'
def SimV (C : Ctx) (P : Program) (o : Oper) (E : Env) (s : St) (act : Act) (W : World) (a : AV) : Prop :=
  ∃ y, RepV E s W a y ∧ ∀ W', SameR E W W' (rdOf C s o) → (execOp act.eval o).run P W' = .ok (.value y) W'
theorem SameR.refl (E : Env) (W : World) (d : Rd) : SameR E W W d := by
  cases d with
  | free => exact fun _ _ _ => rfl
  | box j off n => exact fun _ _ _ _ _ h => h
  | any => exact fun _ _ => rfl
end Go.Proofs.YtbakkcdanoopgaaGreatDoor.Ev
set_option linter.unusedVariables false
set_option linter.unusedSimpArgs false
namespace Go.Proofs.YtbakkcdanoopgaaGreatDoor.Ev
open Go Go.RowKit Go.Proofs.YtbakkcdanoopgaaGreatDoorW.PrintWords Go.Proofs.YtbakkcdanoopgaaGreatDoorW.PrintMore Kd
section
variable {P : Program} {o : Oper} {E : Env} {s : St} {act : Act} {W : World} {C : Ctx}
theorem Sim.val {a : AV} {y : Value} (hR : Rep E s act W) (hrun : ∀ W', SameR E W W' (rdOf C s o) → (execOp act.eval o).run P W' = .ok (.value y) W') (hv : RepV E s W a y) : SimV C P o E s act W a := ⟨y, hv, hrun⟩
theorem SimV.sim {a : AV} (h : SimV C P o E s act W a) (hR : Rep E s act W) : Sim P o E s act W a s := by
  obtain ⟨y, hv, hrun⟩ := h
  intro K Q h
  unfold Oper.wp
  rw [hrun W (SameR.refl _ _ _)]
  exact h E y W hR hv (After.refl _ _)
theorem getT_eq : ∀ (l : List AV) (t : Nat), getT l t = (l[t]?).getD .junk
  | [], _ => by simp [getT]
  | _ :: _, 0 => by simp [getT]
  | _ :: r, t + 1 => by simp [getT, getT_eq r t]
theorem rep_ev (hR : Rep E s act W) (x : Operand) : RepV E s W (s.ev x) (act.eval x) := by
  cases x with
  | tmp t =>
    show RepV E s W (getT s.tmps t) (act.tmps.getD t undef)
    rw [getT_eq]
    cases h : s.tmps[t]? with
    | none => exact trivial
    | some a =>
      obtain ⟨y, hy, hr⟩ := hR.tm.get h
      have : act.tmps[t]? = some y := by simpa using hy
      rw [Array.getD_eq_getD_getElem?, this]
      exact hr
  | const v =>
    show RepV E s W (AV.ofConst v) v
    cases v with
    | agg cs =>
      refine ⟨cs, rfl, All2.of_get (by simp) fun i a b ha hb => ?_⟩
      rw [List.getElem?_map] at ha
      rw [hb] at ha
      obtain rfl : AV.v b = a := by simpa using ha
      exact rfl
    | _ => exact rfl
  | global g => exact trivial
  | func f => exact ⟨#[], #[], rfl, trivial, trivial⟩
theorem rep1_of_rep2 {a : AV} {y : Value} (h : Rep2 E s W a y) (hn : ∀ cs, a ≠ .agg cs) : Rep1 E s W a y := by
  cases a <;> first | exact h | exact absurd rfl (hn _)
theorem rep2_of_repV {a : AV} {y : Value} (h : RepV E s W a y) (hn : ∀ cs, a ≠ .tup cs) : Rep2 E s W a y := by
  cases a <;> first | exact h | exact absurd rfl (hn _)
theorem repV_of_rep2 {a : AV} {y : Value} (h : Rep2 E s W a y) (hn : ∀ cs, a ≠ .tup cs) : RepV E s W a y := by
  cases a <;> first | exact h | exact absurd rfl (hn _)
theorem ev_v {x : Operand} {v : Value} (hR : Rep E s act W) (h : s.ev x = .v v) : act.eval x = v := by
  have := rep_ev hR x
  rw [h] at this
  exact this
theorem ev_ptr {x : Operand} {j off : Nat} (hR : Rep E s act W) (h : s.ev x = .ptr j off) : ∃ g, E.adr[j]? = some g ∧ act.eval x = .pointer (some ⟨g, off, none⟩) := by
  have := rep_ev hR x
  rw [h] at this
  exact this
theorem sim_move {x : Operand} (hR : Rep E s act W) (ho : o.op = .move x) : SimV C P o E s act W (s.ev x) :=
  Sim.val hR (fun W _ => by simp [execOp, ho]) (rep_ev hR x)
theorem sim_assign {x : Operand} (hR : Rep E s act W) (ho : o.op = .assign x) : SimV C P o E s act W (s.ev x) :=
  Sim.val hR (fun W _ => by simp [execOp, ho]) (rep_ev hR x)
theorem sim_pick {c a b : Operand} {t : Bool} (hR : Rep E s act W) (ho : o.op = .pick c a b) (hc : s.ev c = .v (.bool t)) : SimV C P o E s act W (if t then s.ev a else s.ev b) := by
  have h := ev_v hR hc
  cases t with
  | true => exact Sim.val hR (y := act.eval a) (fun W _ => by simp [execOp, ho, h, asBool, Sem.run_pure]) (rep_ev hR a)
  | false => exact Sim.val hR (y := act.eval b) (fun W _ => by simp [execOp, ho, h, asBool, Sem.run_pure]) (rep_ev hR b)
theorem sim_nil_ptr {x : Operand} {j off : Nat} (hR : Rep E s act W) (ho : o.op = .nilCheck x) (hx : s.ev x = .ptr j off) : SimV C P o E s act W (.ptr j off) := by
  obtain ⟨g, h1, h2⟩ := ev_ptr hR hx
  exact Sim.val hR (y := .pointer (some ⟨g, off, none⟩)) (fun W _ => by simp [execOp, ho, h2]) ⟨g, h1, rfl⟩
theorem sim_nil_fn {x : Operand} {f : Nat} {l m : List AV} (hR : Rep E s act W) (ho : o.op = .nilCheck x) (hx : s.ev x = .fn (.func f) l m) : SimV C P o E s act W (.fn (.func f) l m) := by
  have h := rep_ev hR x
  rw [hx] at h
  obtain ⟨fs, cs, h1, h2⟩ := h
  exact Sim.val hR (y := .func (.func f) fs cs) (fun W _ => by simp [execOp, ho, h1]) ⟨fs, cs, rfl, h2⟩
theorem eqGuard_v (op : BinOp) (t : TypeId) (x y : Operand) {a b : Value} (ha : (∃ k n, a = .int k n) ∨ (∃ z, a = .string z) ∨ (∃ z, a = .bool z)) (w : World) : (eqGuard op t x y a b).run P w = .ok () w := by
  unfold eqGuard
  rcases ha with ⟨k, n, rfl⟩ | ⟨z, rfl⟩ | ⟨z, rfl⟩ <;> cases op <;> simp [Sem.run_bind, Sem.run_pure]
theorem run_bin {op : BinOp} {t u : TypeId} {x y : Operand} {a b v : Value} (ho : o.op = .binOp op t x y u) (hx : act.eval x = a) (hy : act.eval y = b) (ha : (∃ k n, a = .int k n) ∨ (∃ z, a = .string z) ∨ (∃ z, a = .bool z))
    (hv : (binOp op t a b).run P W = .ok v W) : (execOp act.eval o).run P W = .ok (.value v) W := by
  simp only [execOp, ho, hx, hy, Sem.run_bind, Sem.run_pure, eqGuard_v op t x y ha, Result.andThen_ok, hv]
theorem sim_bin {ρ : Type} (hT : TabOK P C.D) {op : BinOp} {t u : TypeId} {x y : Operand} {κ : AV → Option ρ} {r : ρ} (hR : Rep E s act W) (ho : o.op = .binOp op t x y u)
    (h : evBin (match (lookTI C.D t).d with | .bool => true | _ => false) op (s.ev x) (s.ev y) κ = some r) : ∃ a', κ a' = some r ∧ SimV C P o E s act W a' := by
  unfold evBin at h
  split at h
  · rename_i k a k' b hx hy
    have hx := ev_v hR hx
    have hy := ev_v hR hy
    have go : ∀ v, (∀ W, (binOp op t (.int k a) (.int k' b)).run P W = .ok v W) → SimV C P o E s act W (.v v) := fun v hv => Sim.val hR (fun W _ => run_bin ho hx hy (.inl ⟨_, _, rfl⟩) (hv W)) rfl
    split at h
    · split at h
      · cases h
      · rename_i hn
        exact ⟨_, h, go _ (fun W => by simp [binOp, Op.shift, hn, Sem.run_pure, shl])⟩
    · split at h
      · cases h
      · rename_i hn
        exact ⟨_, h, go _ (fun W => by
          simp only [binOp, Op.shift, hn, if_false, Sem.run_pure, shr]
          rw [Int.fdiv_eq_ediv_of_nonneg]
          exact Int.le_of_lt (Int.pow_pos (by decide)))⟩
    · split at h
      · rename_i hk
        subst hk
        split at h
        case h_4 => split at h <;> first | cases h | exact ⟨_, h, go _ (fun W => by rename_i hn; simp [binOp, Op.intDiv, hn, Sem.run_pure])⟩
        case h_5 => split at h <;> first | cases h | exact ⟨_, h, go _ (fun W => by rename_i hn; simp [binOp, Op.intDiv, hn, Sem.run_pure])⟩
        all_goals first | cases h | exact ⟨_, h, go _ (fun W => by simp [binOp, Op.intArith, Op.intBits, Op.intCmp, Sem.run_pure])⟩
      · cases h
  · rename_i a b hx hy
    have hx := ev_v hR hx
    have hy := ev_v hR hy
    have go : ∀ v, (∀ W, (binOp op t (.string a) (.string b)).run P W = .ok v W) → SimV C P o E s act W (.v v) := fun v hv => Sim.val hR (fun W _ => run_bin ho hx hy (.inr (.inl ⟨_, rfl⟩)) (hv W)) rfl
    split at h
    · split at h
      · rename_i hn
        exact ⟨_, h, go _ (fun W => by
          simp only [binOp, Op.stringOp]
          rw [if_neg]
          · rfl
          · show ¬ (((a.size + b.size : Nat) : Int) > 9223372036854775807)
            omega)⟩
      · cases h
    all_goals first | cases h | exact ⟨_, h, go _ (fun W => by simp [binOp, Op.stringOp, Sem.run_pure])⟩
  · rename_i a b hx hy
    have hx := ev_v hR hx
    have hy := ev_v hR hy
    have go : ∀ v, (∀ W, (binOp op t (.bool a) (.bool b)).run P W = .ok v W) → SimV C P o E s act W (.v v) := fun v hv => Sim.val hR (fun W _ => run_bin ho hx hy (.inr (.inr ⟨_, rfl⟩)) (hv W)) rfl
    split at h
    · rename_i hb
      have hd : (lookTI C.D t).d = .bool := by
        cases hd : (lookTI C.D t).d <;> simp [hd] at hb ⊢
      obtain ⟨i, d, z, hi⟩ := hT.get (t := t) (by rw [hd]; simp)
      have hdd := hi.desc
      rw [hd] at hdd
      have hu : P.underlying t = some .bool := by
        rw [hi.under]
        cases d <;> simp [tdB] at hdd
        rfl
      have heq : ∀ W, (Op.equal t (.bool a) (.bool b)).run P W = .ok (a == b) W := fun W => by
        have hg : ∀ d, (Op.equalIn (d + 1) t (.bool a) (.bool b)).run P W = .ok (a == b) W := fun d => by
          simp only [Op.equalIn, Sem.run_bind, run_underlying hu, Result.andThen_ok, Sem.run_pure]
        exact hg 9999
      split at h
      · exact ⟨_, h, go _ (fun W => by simp [binOp, Sem.run_bind, heq, Sem.run_pure])⟩
      · exact ⟨_, h, go _ (fun W => by simp [binOp, Sem.run_bind, heq, Sem.run_pure])⟩
      · cases h
    · cases h
  · cases h
theorem sim_un {ρ : Type} {op : UnOp} {t : TypeId} {x : Operand} {κ : AV → Option ρ} {r : ρ} (hR : Rep E s act W) (ho : o.op = .unOp op t x) (h : evUn op (s.ev x) κ = some r) : ∃ a', κ a' = some r ∧ SimV C P o E s act W a' := by
  unfold evUn at h
  split at h
  · rename_i b hx
    have hx := ev_v hR hx
    exact ⟨_, h, Sim.val hR (y := .bool (!b)) (fun W _ => by simp [execOp, ho, hx, Op.unary, Sem.run_bind, Sem.run_pure]) rfl⟩
  · rename_i k n hx
    have hx := ev_v hR hx
    exact ⟨_, h, Sim.val hR (y := .int k (k.wrap (0 - n))) (fun W _ => by simp [execOp, ho, hx, Op.unary, Op.intArith, Sem.run_bind, Sem.run_pure]) rfl⟩
  · cases h
end
end Go.Proofs.YtbakkcdanoopgaaGreatDoor.Ev
set_option linter.unusedVariables false
set_option linter.unusedSimpArgs false
namespace Go.Proofs.YtbakkcdanoopgaaGreatDoor.Ev
open Go Go.RowKit Go.Proofs.YtbakkcdanoopgaaGreatDoorW.PrintWords Go.Proofs.YtbakkcdanoopgaaGreatDoorW.PrintMore Kd
section
variable {P : Program} {o : Oper} {E : Env} {s : St} {act : Act} {W : World} {ρ : Type} {C : Ctx} {r : ρ}
theorem addr_add_add (a : Addr) (m n : Nat) : (a.add m).add n = a.add (m + n) := by
  unfold Addr.add
  by_cases hm : m = 0
  · subst hm; simp
  · by_cases hn : n = 0
    · subst hn; simp [hm]
    · rw [if_neg hm, if_neg hn, if_neg (by omega)]
      simp only [Nat.add_assoc]
theorem addr_mk (g o n : Nat) : (⟨g, o, none⟩ : Addr).add n = ⟨g, o + n, none⟩ := Addr.add_mid g o n
theorem run_fieldAt' (hT : TabOK P C.D) {t f off ft : Nat} (hf : C.field t f = some (off, ft)) (a : Addr) (W : World) : (Instr.fieldAt t (.pointer (some a)) f).run P W = .ok (.pointer (some (a.add off))) W := by
  obtain ⟨fs, hu, g, hg, rfl, rfl⟩ := field_some hT hf
  have hd : (lookTI C.D t).d ≠ .other := by
    intro hd
    unfold Ctx.field at hf
    rw [hd] at hf
    cases hf
  obtain ⟨i, d, z, hi⟩ := hT.get hd
  have hz : ∃ j, P.info? g.type = some j ∧ 0 < j.size := by
    have h1 := hi.fss
    unfold Ctx.field at hf
    cases hdd : (lookTI C.D t).d <;> rw [hdd] at hf <;> try (cases hf; done)
    rename_i fs'
    rw [hdd] at h1
    have h2 : fs'[f]? = some (g.offset, g.type) := hf
    have h3 := List.all_eq_true.mp h1 _ (List.mem_of_getElem? h2)
    dsimp only at h3
    cases hj : P.info? g.type with
    | none => rw [hj] at h3; cases h3
    | some j =>
      rw [hj] at h3
      simp only [Bool.and_eq_true, decide_eq_true_eq] at h3
      exact ⟨j, rfl, h3.2⟩
  obtain ⟨j, hj, hpos⟩ := hz
  have hne : ¬ j.size = 0 := by omega
  simp [Instr.fieldAt, run_underlying hu, hg, Instr.sureAddr, fieldPlace, sizeOf, typeInfo, hj, hne, Sem.run_bind, Sem.run_pure]
theorem sim_fieldAddr (hT : TabOK P C.D) {t f off ft : Nat} {x : Operand} (hR : Rep E s act W) (ho : o.op = .fieldAddr t x f) (hf : C.field t f = some (off, ft)) :
    (∀ j o', s.ev x = .ptr j o' → SimV C P o E s act W (.ptr j (o' + off))) ∧ (∀ m ty y o', s.ev x = .fp m ty y o' → SimV C P o E s act W (.fp m ty y (o' + off))) ∧
    (∀ q i o', s.ev x = .ep q i o' → SimV C P o E s act W (.ep q i (o' + off))) ∧ (s.ev x = .deadp → SimV C P o E s act W .deadp) := by
  have go : ∀ a, act.eval x = .pointer (some a) → ∀ W', SameR E W W' (rdOf C s o) → (execOp act.eval o).run P W' = .ok (.value (.pointer (some (a.add off)))) W' := fun a ha W' _ => by
    simp only [execOp, ho, ha, Sem.run_bind, run_fieldAt' hT hf, Result.andThen_ok, Sem.run_pure]
  have hx := rep_ev hR x
  refine ⟨fun j o' h => ?_, fun m ty y o' h => ?_, fun q i o' h => ?_, fun h => ?_⟩ <;> rw [h] at hx
  · obtain ⟨g, h1, h2⟩ := hx
    refine Sim.val hR (go _ h2) ⟨g, h1, by rw [addr_mk]⟩
  · obtain ⟨ad, h1, h2⟩ := hx
    exact Sim.val hR (go _ h1) ⟨ad, by rw [addr_add_add], h2⟩
  · obtain ⟨g, n, c, e, t', xs, h1, h2, h3, h4, h5⟩ := hx
    exact Sim.val hR (go _ h5) ⟨g, n, c, e, t', xs, h1, h2, h3, h4, by rw [addr_mk, Nat.add_assoc]⟩
  · obtain ⟨a, h1⟩ := hx
    exact Sim.val hR (go _ h1) ⟨_, rfl⟩
theorem cut_eq : ∀ (l : List AV) (o n : Nat), cut l o n = (l.drop o).take n
  | _, _, 0 => by simp [cut]
  | [], o, n + 1 => by simp [cut]
  | a :: r, 0, n + 1 => by simp [cut, cut_eq r 0 n]
  | a :: r, o + 1, n + 1 => by simp [cut, cut_eq r o (n + 1)]
theorem lenEq_iff : ∀ (l : List AV) (n : Nat), lenEq l n = true ↔ l.length = n
  | [], 0 => by simp [lenEq]
  | [], n + 1 => by simp [lenEq]
  | a :: r, 0 => by simp [lenEq]
  | a :: r, n + 1 => by simp [lenEq, lenEq_iff r n]
theorem paste_eq : ∀ (l : List AV) (o : Nat) (cs : List AV), o + cs.length ≤ l.length → paste l o cs = l.take o ++ cs ++ l.drop (o + cs.length)
  | l, o, [], h => by simp [paste]
  | [], o, c :: cs, h => by simp at h
  | a :: r, o + 1, c :: cs, h => by
    simp only [paste, List.length_cons] at h ⊢
    rw [paste_eq r o (c :: cs) (by simp; omega)]
    simp only [List.length_cons, List.take_succ_cons, List.cons_append]
    rw [show o + 1 + (cs.length + 1) = (o + (cs.length + 1)) + 1 by omega, List.drop_succ_cons]
  | a :: r, 0, c :: cs, h => by
    simp only [paste, List.length_cons] at h ⊢
    rw [paste_eq r 0 cs (by omega)]
    simp
theorem All2.drop {α β : Type} {R : α → β → Prop} : ∀ {l : List α} {m : List β} (n : Nat), All2 R l m → All2 R (l.drop n) (m.drop n)
  | _, _, 0, h => by simpa using h
  | [], [], n + 1, _ => by simp [All2]
  | a :: l, b :: m, n + 1, h => by simpa using All2.drop n h.2
theorem All2.take {α β : Type} {R : α → β → Prop} : ∀ {l : List α} {m : List β} (n : Nat), All2 R l m → All2 R (l.take n) (m.take n)
  | _, _, 0, h => by simp [All2]
  | [], [], n + 1, _ => by simp [All2]
  | a :: l, b :: m, n + 1, h => by simpa using ⟨h.1, All2.take n h.2⟩
theorem agg_desc (hT : TabOK P C.D) {t : Nat} (hd : (lookTI C.D t).d ≠ .other) (W : World) : (isAgg t).run P W = .ok (C.agg t) W := by
  obtain ⟨i, d, z, hi⟩ := hT.get hd
  have h1 := hi.desc
  unfold isAgg
  rw [Sem.run_bind, run_underlying hi.under, Result.andThen_ok]
  unfold Ctx.agg
  cases hdd : (lookTI C.D t).d <;> rw [hdd] at h1 <;> cases d <;> simp [tdB] at h1 <;> simp [Sem.run_pure]
theorem size_run (hT : TabOK P C.D) {t : Nat} (hd : (lookTI C.D t).d ≠ .other) (W : World) : (sizeOf t).run P W = .ok (C.size t) W := by
  obtain ⟨i, d, z, hi⟩ := hT.get hd
  simp [sizeOf, typeInfo, hi.info, hi.size, Ctx.size, Sem.run_bind, Sem.run_pure]
theorem whole_rep {b : Bool} {cs : List AV} {vs : List Value} (h : All2 (Rep1 E s W) cs vs) (hb : b = false → ∃ y, vs = [y]) :
    Rep2 E s W (whole b cs) (if b then .agg vs.toArray else vs.headD undef) := by
  cases b with
  | true => exact ⟨vs.toArray, rfl, by simpa using h⟩
  | false =>
    obtain ⟨y, rfl⟩ := hb rfl
    match cs, h with
    | [a], h =>
      have h1 : Rep1 E s W a y := h.1
      show Rep2 E s W a y
      cases a <;> first | exact h1 | exact h1.elim
theorem sim_field (hT : TabOK P C.D) {t f off ft : Nat} {x : Operand} {cs l : List AV} (hR : Rep E s act W) (ho : o.op = .field t x f) (hf : C.field t f = some (off, ft)) (hx : s.ev x = .agg cs)
    (hl : cut cs off (C.size ft) = l) (hn : lenEq l (C.size ft) = true) (hd : (lookTI C.D ft).d ≠ .other) (h1 : C.agg ft = false → C.size ft = 1) : SimV C P o E s act W (whole (C.agg ft) l) := by
  have hv := rep_ev hR x
  rw [hx] at hv
  obtain ⟨vs, hv1, hv2⟩ := hv
  obtain ⟨fs, hu, g, hg, rfl, rfl⟩ := field_some hT hf
  have hlen := (lenEq_iff _ _).mp hn
  rw [cut_eq] at hl
  have hp : All2 (Rep1 E s W) l ((vs.toList.drop g.offset).take (C.size g.type)) := by
    rw [← hl]; exact (hv2.drop _).take _
  have hvl : ((vs.toList.drop g.offset).take (C.size g.type)).length = C.size g.type := by rw [← hp.len, hlen]
  have hw := whole_rep (b := C.agg g.type) hp (fun hb => by
    match hq : (vs.toList.drop g.offset).take (C.size g.type), hvl with
    | [y], _ => exact ⟨y, rfl⟩
    | [], h => simp [h1 hb] at h
    | _ :: _ :: _, h => simp [h1 hb] at h)
  refine Sim.val hR (y := if C.agg g.type then .agg ((vs.toList.drop g.offset).take (C.size g.type)).toArray else ((vs.toList.drop g.offset).take (C.size g.type)).headD undef) ?_ ?_
  · intro W _
    have hpart : (part g.type vs g.offset).run P W = .ok (if C.agg g.type then .agg ((vs.toList.drop g.offset).take (C.size g.type)).toArray else ((vs.toList.drop g.offset).take (C.size g.type)).headD undef) W := by
      unfold part
      rw [Sem.run_bind, agg_desc hT hd, Result.andThen_ok]
      cases hb : C.agg g.type with
      | true =>
        simp only [if_true, Sem.run_bind, size_run hT hd, Result.andThen_ok, Sem.run_pure]
        congr 2
        apply Array.ext'
        simp [List.drop_take]
      | false =>
        simp only [Bool.false_eq_true, if_false]
        rw [h1 hb] at hvl ⊢
        have hlt : g.offset < vs.size := by
          rcases Nat.lt_or_ge g.offset vs.size with h | h
          · exact h
          · rw [List.drop_eq_nil_of_le (by simpa using h)] at hvl; simp at hvl
        have e1 : vs[g.offset]? = some vs[g.offset] := Array.getElem?_eq_getElem hlt
        have e2 : ((vs.toList.drop g.offset).take 1).headD undef = vs[g.offset] := by
          rw [List.drop_eq_getElem_cons (by simpa using hlt)]
          simp
        rw [e1, e2]
        rfl
    simp [execOp, ho, hv1, Instr.field, run_underlying hu, hg, asAgg, hpart, Sem.run_bind, Sem.run_pure]
  · exact repV_of_rep2 hw fun cs' => by
      cases hb : C.agg g.type with
      | true => simp [whole]
      | false =>
        match l, hp with
        | [], _ => simp [whole]
        | [a], hp2 =>
          intro he
          have h3 : ∃ y, Rep1 E s W a y := by
            obtain ⟨y, _, hy⟩ := hp2.one
            exact ⟨y, hy⟩
          obtain ⟨y, hy⟩ := h3
          simp [whole] at he
          rw [he] at hy
          exact hy
        | _ :: _ :: _, _ => simp [whole]
theorem sim_extract {x : Operand} {i : Nat} {l : List AV} (hR : Rep E s act W) (ho : o.op = .extract x i) (hx : s.ev x = .tup l) (hi : Nat.blt i l.length = true) : SimV C P o E s act W (getT l i) := by
  have hv := rep_ev hR x
  rw [hx] at hv
  obtain ⟨vs, hv1, hv2⟩ := hv
  have hlt : i < l.length := Nat.blt_eq.mp hi
  obtain ⟨y, hy, hr⟩ := hv2.get (List.getElem?_eq_getElem hlt)
  have hy' : vs[i]? = some y := by simpa using hy
  refine Sim.val hR (y := y) (fun W _ => by simp [execOp, ho, hv1, Instr.extract, hy', Sem.run_bind, Sem.run_pure]) ?_
  rw [getT_eq, List.getElem?_eq_getElem hlt]
  refine repV_of_rep2 hr fun cs he => ?_
  simp only [Option.getD_some] at he
  rw [he] at hr
  exact hr
theorem sim_iface (hT : TabOK P C.D) {t : Nat} {x : Operand} {v : Value} (hR : Rep E s act W) (ho : o.op = .makeInterface t x) (hx : s.ev x = .v v) (hd : (lookTI C.D t).d ≠ .other) (hi : (lookTI C.D t).d ≠ .iface) : SimV C P o E s act W (.v (.iface t v)) := by
  have h := ev_v hR hx
  obtain ⟨i, d, z, hti⟩ := hT.get hd
  have h1 := hti.desc
  refine Sim.val hR (y := .iface t v) ?_ rfl
  intro W _
  have h2 : (Instr.makeInterface t v).run P W = .ok (.iface t v) W := by
    unfold Instr.makeInterface
    rw [Sem.run_bind, run_underlying hti.under, Result.andThen_ok]
    cases hdd : (lookTI C.D t).d <;> rw [hdd] at h1 hi <;> cases d <;> simp [tdB] at h1 <;> first | rfl | exact absurd rfl hi
  simp [execOp, ho, h, h2, Sem.run_bind, Sem.run_pure]
theorem plainL_rep : ∀ {l : List AV} {m : List Value}, plainL l = true → All2 (RepV E s W) l m → All2 (RepS E W) l m
  | [], [], _, _ => trivial
  | a :: l, b :: m, h, hr => by
    cases a with
    | v x => exact ⟨hr.1, plainL_rep (l := l) h hr.2⟩
    | ptr j off => exact ⟨hr.1, plainL_rep (l := l) h hr.2⟩
    | sl q e t xs =>
      cases q with
      | none => exact ⟨hr.1, plainL_rep (l := l) h hr.2⟩
      | some _ => simp [plainL] at h
    | _ => simp [plainL] at h
theorem evs_rep (hR : Rep E s act W) : ∀ l : List Operand, All2 (RepV E s W) (l.map s.ev) (l.map act.eval)
  | [] => trivial
  | x :: l => ⟨rep_ev hR x, evs_rep hR l⟩
theorem sim_makeFunc {f : Fn} {first caps : Array Operand} (hR : Rep E s act W) (ho : o.op = .makeFunc f first caps) (h1 : plainL (first.toList.map s.ev) = true) (h2 : plainL (caps.toList.map s.ev) = true) :
    SimV C P o E s act W (.fn f (first.toList.map s.ev) (caps.toList.map s.ev)) := by
  refine Sim.val hR (y := .func f (first.map act.eval) (caps.map act.eval)) (fun W _ => by simp [execOp, ho, Instr.makeFunc, Sem.run_bind, Sem.run_pure]) ?_
  refine ⟨_, _, rfl, ?_, ?_⟩
  · rw [Array.toList_map]; exact plainL_rep h1 (evs_rep hR _)
  · rw [Array.toList_map]; exact plainL_rep h2 (evs_rep hR _)
theorem isStr_under (hT : TabOK P C.D) {t : Nat} (h : isStr C t = true) : P.underlying t = some .string := by
  unfold isStr at h
  cases hd : (lookTI C.D t).d <;> rw [hd] at h <;> try (cases h; done)
  obtain ⟨i, d, z, hi⟩ := hT.get (t := t) (by rw [hd]; simp)
  have h1 := hi.desc
  rw [hd] at h1
  rw [hi.under]
  cases d <;> simp [tdB] at h1
  rfl
theorem sim_index (hT : TabOK P C.D) {t : Nat} {x i : Operand} {κ : AV → Option ρ} (hR : Rep E s act W) (ho : o.op = .index t x i) (ht : isStr C t = true) (h : evIdx (s.ev x) (s.ev i) κ = some r) : ∃ a', κ a' = some r ∧ SimV C P o E s act W a' := by
  unfold evIdx at h
  split at h
  · rename_i b k n hx hi
    have hx := ev_v hR hx
    have hi := ev_v hR hi
    split at h
    · rename_i h0
      split at h
      · rename_i h1
        refine ⟨_, h, Sim.val hR (y := .int .u8 (bt b n)) ?_ rfl⟩
        intro W _
        have hlt : n.toNat < b.size := by omega
        have hb : (bt b n) = ((b[n.toNat]'hlt).toNat : Int) := (bt_at b n hlt).symm
        have e : b[n.toNat]? = some (b[n.toNat]'hlt) := by simp [hlt]
        have hrun : (Instr.index t (.string b) (.int k n)).run P W = .ok (.int .u8 (bt b n)) W := by
          simp only [Instr.index, asIntOf, Sem.run_bind, Sem.run_pure, Result.andThen_ok, run_underlying (isStr_under hT ht), if_pos h0, e, hb]
        simp only [execOp, ho, hx, hi, Sem.run_bind, Sem.run_pure, Result.andThen_ok, hrun]
      · cases h
    · cases h
  · cases h
theorem getB_eq : ∀ (l : List (List AV)) (j : Nat), getB l j = (l[j]?).getD []
  | [], _ => by simp [getB]
  | _ :: _, 0 => by simp [getB]
  | _ :: r, j + 1 => by simp [getB, getB_eq r j]
theorem get_of_getT {l : List AV} {c : Nat} {a : AV} (h : getT l c = a) (hn : a ≠ .junk) : l[c]? = some a := by
  rw [getT_eq] at h
  cases hc : l[c]? with
  | none => rw [hc] at h; exact absurd h.symm hn
  | some b => rw [hc] at h; simpa using h
theorem box_of_cell {j c : Nat} {a : AV} (h : getT (getB s.boxes j) c = a) (hn : a ≠ .junk) : ∃ cs, s.boxes[j]? = some cs ∧ cs[c]? = some a := by
  have h1 := get_of_getT h hn
  rw [getB_eq] at h1
  cases hj : s.boxes[j]? with
  | none => rw [hj] at h1; simp at h1
  | some cs => rw [hj] at h1; exact ⟨cs, rfl, h1⟩
theorem hdr_own (hR : Rep E s act W) {q : Root} {y : Value} (h : Hdr E s W q y) {e : Nat} {t : Ty} {xs : List t.den} (hr : s.root q = .own e t xs) : t.kd.R e W 0 (fun k => E.own k = q.owner) y xs := by
  cases q with
  | tok n =>
    obtain ⟨rfl, _⟩ := h
    have h1 := hR.tk n
    have h2 : s.toks n = .own e t xs := hr
    rw [h2] at h1
    exact h1
  | cell j c =>
    obtain ⟨g, ty, cells, h1, h2, h3, _⟩ := h
    obtain ⟨cs, h4, h5⟩ := box_of_cell (s := s) (j := j) (c := c) hr (by simp)
    obtain ⟨g', ty', cells', b1, b2, b3, b4, b5⟩ := hR.bx j cs h4
    obtain rfl : g' = g := Option.some.inj (b1.symm.trans h1)
    rw [b3] at h2
    injection h2 with h2
    injection h2 with h2 _ _
    subst h2
    exact b5 c _ y h5 (by simpa using h3)
theorem hdr_slice (hR : Rep E s act W) {q : Root} {y : Value} (h : Hdr E s W q y) : ∃ A n c, y = .slice A n c := by
  cases q with
  | tok n =>
    obtain ⟨rfl, hn⟩ := h
    have h1 := hR.tk n
    cases ht : s.toks n with
    | junk => exact absurd ht hn
    | own e t xs => rw [ht] at h1; obtain ⟨A, c, h2⟩ := R_slice h1; exact ⟨A, _, c, h2⟩
    | lit e t rows => rw [ht] at h1; obtain ⟨g, cells, h2, _⟩ := h1; exact ⟨_, _, _, h2⟩
    | _ => rw [ht] at h1; exact h1.elim
  | cell j c =>
    obtain ⟨g, ty, cells, h1, h2, h3, e, t, xs, h4⟩ := h
    obtain ⟨A, c', h5⟩ := R_slice (hdr_own hR (q := .cell j c) ⟨g, ty, cells, h1, h2, h3, e, t, xs, h4⟩ h4)
    exact ⟨A, _, c', h5⟩
theorem rep1_cell (hR : Rep E s act W) {a : AV} {y : Value} (h : Rep1 E s W a y) (hk : known [a] = true) : y.oneCell' = true := by
  cases a with
  | v x =>
    have : y = x := h
    subst this
    cases y <;> first | rfl | simp [known] at hk
  | dead => obtain ⟨A, n, c, rfl⟩ := h; rfl
  | deadp => obtain ⟨a, rfl⟩ := h; rfl
  | sl m e t xs => obtain ⟨A, c, rfl, _⟩ := h; rfl
  | ptr j off => obtain ⟨g, _, rfl⟩ := h; rfl
  | fp m t x off => obtain ⟨ad, rfl, _⟩ := h; rfl
  | ep q i off => obtain ⟨g, n, c, e, t, xs, _, _, _, _, rfl⟩ := h; rfl
  | fn f l m => obtain ⟨fs, cs, rfl, _⟩ := h; rfl
  | rt q => obtain ⟨A, n, c, rfl⟩ := hdr_slice hR h; rfl
  | same a => exact h.elim
  | _ => simp [known] at hk
theorem one_cells {y : Value} (h : y.oneCell' = true) : y.cells = #[y] := by cases y <;> first | rfl | cases h
theorem known_cons {a : AV} {r : List AV} (h : known (a :: r) = true) : known [a] = true ∧ known r = true := by
  cases a <;> first | exact ⟨rfl, h⟩ | (rename_i x; cases x <;> first | exact ⟨rfl, h⟩ | simp [known] at h) | simp [known] at h
theorem all_one (hR : Rep E s act W) : ∀ {l : List AV} {m : List Value}, All2 (Rep1 E s W) l m → known l = true → ∀ v, v ∈ m → v.oneCell' = true
  | [], [], _, _, v, hv => by simp at hv
  | a :: l, b :: m, h, hk, v, hv => by
    obtain ⟨k1, k2⟩ := known_cons hk
    rcases List.mem_cons.mp hv with rfl | hv
    · exact rep1_cell hR h.1 k1
    · exact all_one hR h.2 k2 v hv
theorem cells_rep (hR : Rep E s act W) {a : AV} {y : Value} (h : RepV E s W a y) (hk : known a.cs = true) : All2 (Rep1 E s W) a.cs y.cells.toList := by
  cases a with
  | agg cs => obtain ⟨vs, rfl, h⟩ := h; exact h
  | tup l => simp [AV.cs, known] at hk
  | junk => simp [AV.cs, known] at hk
  | own e t xs => simp [AV.cs, known] at hk
  | lit e t rows => simp [AV.cs, known] at hk
  | dead => have h1 := rep1_cell hR (a := .dead) h hk; rw [one_cells h1]; exact ⟨h, trivial⟩
  | deadp => have h1 := rep1_cell hR (a := .deadp) h hk; rw [one_cells h1]; exact ⟨h, trivial⟩
  | v x => have h1 := rep1_cell hR (a := .v x) h hk; rw [one_cells h1]; exact ⟨h, trivial⟩
  | sl m e t xs => have h1 := rep1_cell hR (a := .sl m e t xs) h hk; rw [one_cells h1]; exact ⟨h, trivial⟩
  | rt q => have h1 := rep1_cell hR (a := .rt q) h hk; rw [one_cells h1]; exact ⟨h, trivial⟩
  | same a => exact h.elim
  | ptr j off => have h1 := rep1_cell hR (a := .ptr j off) h hk; rw [one_cells h1]; exact ⟨h, trivial⟩
  | fp m t x off => have h1 := rep1_cell hR (a := .fp m t x off) h hk; rw [one_cells h1]; exact ⟨h, trivial⟩
  | ep q i off => have h1 := rep1_cell hR (a := .ep q i off) h hk; rw [one_cells h1]; exact ⟨h, trivial⟩
  | fn f l m => have h1 := rep1_cell hR (a := .fn f l m) h hk; rw [one_cells h1]; exact ⟨h, trivial⟩
theorem foldl_get (off : Nat) : ∀ (l : List Value) (k : Nat) (cells : Array Value), off + k + l.length ≤ cells.size →
    ((l.zipIdx k).foldl (fun cs (p : Value × Nat) => cs.setIfInBounds (off + p.2) p.1) cells).size = cells.size ∧
    ∀ i, ((l.zipIdx k).foldl (fun cs (p : Value × Nat) => cs.setIfInBounds (off + p.2) p.1) cells)[i]? = if off + k ≤ i ∧ i < off + k + l.length then l[i - (off + k)]? else cells[i]?
  | [], k, cells, h => ⟨rfl, fun i => by rw [if_neg (by simp)]; rfl⟩
  | c :: l, k, cells, h => by
    simp only [List.length_cons] at h ⊢
    obtain ⟨h1, h2⟩ := foldl_get off l (k + 1) (cells.setIfInBounds (off + k) c) (by simp; omega)
    rw [List.zipIdx_cons, List.foldl_cons]
    refine ⟨h1.trans (by simp), fun i => (h2 i).trans ?_⟩
    rw [Array.getElem?_setIfInBounds]
    by_cases e : off + k = i
    · subst e
      rw [if_neg (by omega), if_pos rfl, if_pos (by omega), if_pos (by omega)]
      simp
    · rw [if_neg e]
      by_cases d : off + (k + 1) ≤ i ∧ i < off + (k + 1) + l.length
      · rw [if_pos d, if_pos (by omega), show i - (off + k) = (i - (off + (k + 1))) + 1 by omega]
        simp
      · rw [if_neg d, if_neg (by omega)]
theorem paste_get : ∀ (l : List AV) (o : Nat) (cs : List AV), o + cs.length ≤ l.length → (paste l o cs).length = l.length ∧ ∀ i, (paste l o cs)[i]? = if o ≤ i ∧ i < o + cs.length then cs[i - o]? else l[i]? := by
  intro l o cs h
  rw [paste_eq l o cs h]
  refine ⟨by simp; omega, fun i => ?_⟩
  by_cases h1 : o ≤ i ∧ i < o + cs.length
  · rw [if_pos h1, List.append_assoc, List.getElem?_append_right (by simp; omega), List.getElem?_append_left (by simp; omega)]
    simp [Nat.min_eq_left (show o ≤ l.length by omega)]
  · rw [if_neg h1]
    by_cases h2 : i < o
    · rw [List.append_assoc, List.getElem?_append_left (by simp; omega), List.getElem?_take_of_lt h2]
    · rw [List.append_assoc, List.getElem?_append_right (by simp; omega), List.getElem?_append_right (by simp; omega), List.getElem?_drop]
      congr 1
      simp
      omega
theorem paste_rep {R : AV → Value → Prop} {l cs : List AV} {m : Array Value} {xs : List Value} {o : Nat} (h : All2 R l m.toList) (hc : All2 R cs xs) (hl : o + cs.length ≤ l.length) :
    All2 R (paste l o cs) ((xs.zipIdx 0).foldl (fun a (p : Value × Nat) => a.setIfInBounds (o + p.2) p.1) m).toList := by
  have e1 : l.length = m.size := h.len.trans Array.length_toList
  have e2 := hc.len
  obtain ⟨p1, p2⟩ := paste_get l o cs hl
  obtain ⟨f1, f2⟩ := foldl_get o xs 0 m (by omega)
  refine All2.of_get (p1.trans (e1.trans (f1.symm.trans Array.length_toList.symm))) fun i a b ha hb => ?_
  rw [p2] at ha
  rw [Array.getElem?_toList, f2] at hb
  simp only [Nat.add_zero] at hb
  by_cases hh : o ≤ i ∧ i < o + cs.length
  · rw [if_pos hh] at ha
    rw [if_pos (by omega)] at hb
    obtain ⟨b', h1, h2⟩ := hc.get ha
    rw [hb] at h1
    obtain rfl := Option.some.inj h1
    exact h2
  · rw [if_neg hh] at ha
    rw [if_neg (by omega)] at hb
    obtain ⟨b', h1, h2⟩ := h.get ha
    rw [Array.getElem?_toList, hb] at h1
    obtain rfl := Option.some.inj h1
    exact h2
theorem mapM_some {α β : Type} {g : α → Option β} {f : α → β} : ∀ {l : List α}, (∀ a, a ∈ l → g a = some (f a)) → l.mapM g = some (l.map f)
  | [], _ => by simp
  | a :: l, h => by
    rw [List.mapM_cons, h a List.mem_cons_self, mapM_some fun b hb => h b (List.mem_cons_of_mem _ hb)]
    rfl
theorem fill_rep (hR : Rep E s act W) {t : Nat} {fs : List (Nat × Nat)} (hd : (lookTI C.D t).d = .st fs) {place : Nat → Option (Nat × Nat)} (hp : ∀ f off ft, fs[f]? = some (off, ft) → place f = some (off, C.size ft)) :
    ∀ (parts : List (Nat × Operand)) (cells : List AV) (m : Array Value), All2 (Rep1 E s W) cells m.toList → ∀ cs, evParts C s t parts cells = some cs →
      ∃ vs, Instr.fill place m (parts.map fun x => (x.1, act.eval x.2)) = some vs ∧ All2 (Rep1 E s W) cs vs.toList
  | [], cells, m, h, cs, hc => by
    obtain rfl : cells = cs := Option.some.inj hc
    exact ⟨m, rfl, h⟩
  | p :: r, cells, m, h, cs, hc => by
    unfold evParts at hc
    cases hf : C.field t p.1 with
    | none => rw [hf] at hc; cases hc
    | some q =>
      obtain ⟨off, ft⟩ := q
      rw [hf] at hc
      dsimp only at hc
      cases hl : (lenEq (s.ev p.2).cs (C.size ft) && known (s.ev p.2).cs) && Nat.ble (off + C.size ft) cells.length with
      | false => rw [hl] at hc; cases hc
      | true =>
        rw [hl] at hc
        dsimp only at hc
        simp only [Bool.and_eq_true] at hl
        obtain ⟨⟨hl, hk⟩, hb⟩ := hl
        have hlen := (lenEq_iff _ _).mp hl
        have hble := Nat.le_of_ble_eq_true hb
        have hcs := cells_rep hR (rep_ev hR p.2) hk
        have hpl : place p.1 = some (off, C.size ft) := hp _ _ _ (by
          unfold Ctx.field at hf
          rw [hd] at hf
          exact hf)
        have hcl := hcs.len
        rw [hlen, Array.length_toList] at hcl
        have hml : cells.length = m.size := h.len.trans Array.length_toList
        have hnew := paste_rep h hcs (o := off) (by omega)
        obtain ⟨vs, hv1, hv2⟩ := fill_rep hR hd hp r _ _ hnew cs hc
        refine ⟨vs, ?_, hv2⟩
        rw [List.map_cons, Instr.fill]
        simp only [hpl]
        rw [if_neg (by simp only [Bool.or_eq_true, decide_eq_true_eq]; omega)]
        have e : Array.foldl (fun cs (x : Value × Nat) => cs.setIfInBounds (off + x.2) x.1) m (act.eval p.2).cells.zipIdx = List.foldl (fun cs (x : Value × Nat) => cs.setIfInBounds (off + x.2) x.1) m ((act.eval p.2).cells.toList.zipIdx 0) := by
          rw [← Array.foldl_toList]
          simp
        rw [← hv1]
        congr 1
theorem sim_build (hT : TabOK P C.D) {t : Nat} {parts : Array (Nat × Operand)} {cs : List AV} (hR : Rep E s act W) (ho : o.op = .build t parts) (hc : evParts C s t parts.toList (nilZero (C.zero t)) = some cs) (hst : ∃ fs, (lookTI C.D t).d = .st fs) :
    SimV C P o E s act W (.agg cs) := by
  obtain ⟨fs, hd⟩ := hst
  obtain ⟨i, d, z, hi⟩ := hT.get (t := t) (by rw [hd]; simp)
  have h1 := hi.desc
  have h2 := hi.fss
  rw [hd] at h1 h2
  cases d <;> simp [tdB] at h1
  rename_i gs
  have hz : All2 (Rep1 E s W) (nilZero (C.zero t)) z.cells.toList := by
    rw [hi.zeros]
    have : ∀ n, (∀ u, All2 (Rep1 E s W) (nilZero (zeroOf C.D n u)) ((zeroOf C.D n u).map rawZ)) ∧ (∀ l, All2 (Rep1 E s W) (nilZero (zeroOfs C.D n l)) ((zeroOfs C.D n l).map rawZ)) := by
      have app : ∀ l l', nilZero (l ++ l') = nilZero l ++ nilZero l' := by
        intro l l'
        induction l with
        | nil => rfl
        | cons a r ih => cases a <;> simp [nilZero, ih]
      intro n
      induction n with
      | zero => exact ⟨fun u => trivial, fun l => trivial⟩
      | succ n ih =>
        refine ⟨fun u => ?_, fun l => ?_⟩
        · simp only [zeroOf]
          split
          · exact ⟨rfl, trivial⟩
          · exact ⟨rfl, trivial⟩
          · exact ⟨rfl, trivial⟩
          · split
            · exact ⟨rfl, trivial⟩
            · exact ⟨rfl, trivial⟩
          · exact ih.2 _
          · exact ⟨rfl, trivial⟩
          · exact ⟨rfl, trivial⟩
          · exact ⟨rfl, trivial⟩
          · exact ⟨rfl, trivial⟩
          · exact trivial
        · cases l with
          | nil => exact trivial
          | cons f r =>
            simp only [zeroOfs, app, List.map_append]
            exact (ih.1 f.2).append (ih.2 r)
    exact (this 16).1 t
  have hpl : gs.toList.mapM (fun f => (P.info? f.type).map fun i => (f.offset, i.size)) = some (gs.toList.map fun g => (g.offset, C.size g.type)) := by
    refine mapM_some fun g hg => ?_
    have hm : (g.offset, g.type) ∈ fs := by rw [← h1]; exact List.mem_map.mpr ⟨g, hg, rfl⟩
    have h3 := List.all_eq_true.mp h2 _ hm
    dsimp only at h3
    cases hj : P.info? g.type with
    | none => rw [hj] at h3; cases h3
    | some j =>
      rw [hj] at h3
      simp only [Bool.and_eq_true, decide_eq_true_eq] at h3
      simp [h3.1, Ctx.size]
  obtain ⟨vs, hv1, hv2⟩ := fill_rep (C := C) hR hd (place := fun x => ((gs.toList.map fun g => (g.offset, C.size g.type)).toArray)[x]?) (fun f off ft hf => by
    rw [← h1, List.getElem?_map] at hf
    cases hg : gs.toList[f]? with
    | none => rw [hg] at hf; cases hf
    | some g =>
      rw [hg] at hf
      simp only [Option.map_some, Option.some.injEq, Prod.mk.injEq] at hf
      simp only [List.getElem?_toArray, List.getElem?_map, hg, Option.map_some, hf.1, hf.2]) parts.toList _ _ hz cs hc
  refine Sim.val hR (y := .agg vs) ?_ ⟨vs, rfl, hv2⟩
  intro W _
  have hb : P.built t (parts.map fun x => (x.1, act.eval x.2)).toList = some vs := by
    unfold Program.built
    simp only [hi.info, hi.under, hi.zero, hpl, Array.toList_map]
    exact hv1
  simp only [execOp, ho, Sem.run_bind, run_build W t _ vs hb, Result.andThen_ok, Sem.run_pure]
theorem slice_read (hR : Rep E s act W) {a : AV} {y : Value} (h : RepV E s W a y) :
    (∀ e t xs, s.read a = .own e t xs → ∃ q, a = .rt q ∧ ∃ A c, y = .slice A xs.length c ∧ xs.length ≤ c ∧ F t.kd W (fun k => E.own k = q.owner) A xs.length xs) ∧
    (∀ m e t xs, a = .sl m e t xs → ∃ A c, y = .slice A xs.length c ∧ xs.length ≤ c ∧ F t.kd W (fun k => E.own k = mOwn m) A xs.length xs) := by
  refine ⟨fun e t xs ha => ?_, fun m e t xs ha => by subst ha; exact h⟩
  cases a with
  | rt q =>
    have h1 := hdr_own hR (q := q) h ha
    obtain ⟨A, c, h2, h3, h4⟩ := R_reads h1
    subst h2
    exact ⟨q, rfl, A, c, rfl, h3, R_F h1⟩
  | own e' t' xs' => exact h.elim
  | _ => simp [St.read] at ha
theorem F_one {α : Type} {d : Kd α} {ok : Nat → Prop} {A : Option Addr} {xs : List α} (h : F d W ok A xs.length xs) (z : α) (i : Nat) (hi : i < xs.length) : ∃ ad, A = some ad ∧ F d W ok (some (ad.add (i * d.sz))) 1 [xs.getD i z] := by
  obtain ⟨ad, he, _⟩ := (F_now h).2.2 (by omega)
  subst he
  have h1 := F_mid (c := xs.length) (lo := i) (hi := i + 1) h (by omega) (by omega) (Nat.le_refl _)
  rw [if_neg (by omega)] at h1
  have e : (xs.take (i + 1)).drop i = [xs.getD i z] := by
    have e0 : xs.getD i z = xs[i] := by simp [List.getD_eq_getElem?_getD, List.getElem?_eq_getElem hi]
    rw [e0, List.drop_take, show i + 1 - i = 1 by omega, List.drop_eq_getElem_cons hi]
    rfl
  rw [e] at h1
  exact ⟨ad, rfl, h1⟩
theorem okElem_some (hT : TabOK P C.D) {t : Nat} {ty : Ty} (h : okElem C t ty = true) : ∃ e, P.underlying t = some (.slice e) ∧ (∀ W, (sizeOf e).run P W = .ok ty.size W) ∧ P.elem t = e ∧ C.elem t = some e := by
  unfold okElem at h
  cases he : C.elem t with
  | none => rw [he] at h; cases h
  | some e =>
    rw [he] at h
    have hs : C.size e = ty.size := Nat.eq_of_beq_eq_true h
    have hu := elem_some hT he
    have hd := look_size (D := C.D) (t := e) (by show 0 < C.size e; rw [hs]; exact size_pos ty) hT
    exact ⟨e, hu, fun W => by rw [size_run hT hd, hs], by simp [Program.elem, hu], rfl⟩
theorem run_idx (hT : TabOK P C.D) {t : Nat} {ty : Ty} (h : okElem C t ty = true) (ad : Addr) (n c : Nat) (k : IntKind) (i : Int) (h0 : 0 ≤ i) (h1 : i < n) (W : World) :
    (Instr.indexAt t (.slice (some ad) n c) (.int k i)).run P W = .ok (.pointer (some (ad.add (i.toNat * ty.size)))) W := by
  obtain ⟨e, hu, hs, he, _⟩ := okElem_some hT h
  rw [run_indexAt_slice W t ad n c k i (by rw [he]; exact hu), if_pos ⟨h0, h1⟩, he, hs]
  rfl
theorem sim_indexAddr (hT : TabOK P C.D) {t : Nat} {x i : Operand} {κ : AV → Option ρ} (hR : Rep E s act W) (ho : o.op = .indexAddr t x i) (h : evIdxA C t s (s.ev x) (s.ev i) κ = some r) : ∃ a', κ a' = some r ∧ SimV C P o E s act W a' := by
  unfold evIdxA at h
  split at h
  · rename_i k n hi
    have hi := ev_v hR hi
    have hv := rep_ev hR x
    split at h
    · rename_i q hx
      rw [hx] at hv
      split at h
      · rename_i e ty xs hq
        split at h
        · rename_i hok
          split at h
          · rename_i h0
            split at h
            · rename_i h1
              have hown := hdr_own hR (q := q) hv hq
              obtain ⟨A, c, hy, hl, hC⟩ := R_reads hown
              obtain ⟨ad, he, _⟩ := hC.2.2 (by omega)
              subst he
              have hg : ad = ⟨ad.block, 0, none⟩ := by
                obtain ⟨_, inner, ho2, _⟩ := hown
                rcases ho2.2 with ⟨h3, _⟩ | ⟨g, cap, cur, h3, _⟩
                · rw [hy] at h3; cases h3
                · rw [hy] at h3; injection h3 with h3; injection h3 with h3; rw [h3]
              refine ⟨_, h, Sim.val hR (y := .pointer (some (ad.add (n.toNat * ty.size)))) ?_ ?_⟩
              · intro W _; simp only [execOp, ho, hy, hi, Sem.run_bind, run_idx hT hok ad xs.length c k n h0 h1, Result.andThen_ok, Sem.run_pure]
              · refine ⟨ad.block, xs.length, c, e, ty, xs, ?_, hq, h0, h1, ?_⟩
                · rw [← hg, ← hy]; exact hv
                · rw [hg]; simp only [addr_mk]; rw [Nat.zero_add, Nat.add_zero]
            · cases h
          · cases h
        · cases h
      · cases h
    · rename_i m e ty xs hx
      rw [hx] at hv
      obtain ⟨A, c, hy, hl, hF⟩ := hv
      split at h
      · rename_i hok
        split at h
        · rename_i h0
          split at h
          · rename_i h1
            obtain ⟨ad, he, h2⟩ := F_one hF ty.zero n.toNat (by omega)
            subst he
            refine ⟨_, h, Sim.val hR (y := .pointer (some (ad.add (n.toNat * ty.size)))) ?_ ?_⟩
            · intro W _; simp only [execOp, ho, hy, hi, Sem.run_bind, run_idx hT hok ad xs.length c k n h0 h1, Result.andThen_ok, Sem.run_pure]
            · refine ⟨ad.add (n.toNat * ty.size), by rw [addr_add_add, Nat.add_zero], ?_⟩
              rw [kd_sz] at h2
              exact h2
          · cases h
        · cases h
      · cases h
    · cases h
  · cases h
theorem sim_len (hT : TabOK P C.D) {x : Operand} {t : Nat} {args : Array Operand} {κ : AV → Option ρ} (hR : Rep E s act W) (ho : o.op = .call { callee := .builtin .len, args := #[x], argTypes := #[t] }) (h : evLen C t s (s.ev x) κ = some r) : ∃ a', κ a' = some r ∧ SimV C P o E s act W a' := by
  have hv := rep_ev hR x
  have go : ∀ y n, act.eval x = y → (∀ W, (Builtin.len_ #[t] o.type #[y]).run P W = .ok (.int .i64 n) W) → SimV C P o E s act W (.v (.int .i64 n)) := fun y n hy hrun => by
    refine Sim.val hR (y := .int .i64 n) ?_ rfl
    intro W _
    simp only [execOp, ho, resolve, Sem.run_bind, Sem.run_pure, Result.andThen_ok, invoke, builtin]
    have e : (#[x].map act.eval) = #[y] := by simp [hy]
    rw [e, hrun W]
    rfl
  unfold evLen at h
  split at h
  · rename_i hs
    split at h
    · rename_i b hx
      have hy := ev_v hR hx
      exact ⟨_, h, go _ _ hy (fun W => by rw [run_len_string W t o.type b (isStr_under hT hs)]; rfl)⟩
    · cases h
  · split at h
    · rename_i e he
      have hu := elem_some hT he
      have hel : P.elem t = e := by simp [Program.elem, hu]
      have hu' : P.underlying t = some (.slice (P.elem t)) := by rw [hel]; exact hu
      split at h
      · rename_i hx
        cases hxe : s.ev x with
        | v y =>
          rw [hxe] at hx
          have hy := ev_v hR hxe
          have e2 : y = .slice none 0 0 := by simpa [St.read] using hx
          subst e2
          exact ⟨_, h, go _ _ hy (fun W => by rw [run_len_slice W t o.type none 0 0 hu']; rfl)⟩
        | rt q =>
          rw [hxe] at hx
          have h1 : s.root q = .v (.slice none 0 0) := hx
          rw [hxe] at hv
          exfalso
          cases q with
          | tok n =>
            have h2 := hR.tk n
            have h3 : s.toks n = .v (.slice none 0 0) := h1
            rw [h3] at h2
            exact h2
          | cell j c =>
            obtain ⟨g, ty, cells, _, _, _, e', t', xs, h4⟩ := hv
            rw [h1] at h4
            cases h4
        | _ => rw [hxe] at hx; simp [St.read] at hx
      · rename_i m e' ty xs hx
        have hxe : s.ev x = .sl m e' ty xs := by
          cases hxe : s.ev x with
          | rt q =>
            rw [hxe] at hx hv
            have h1 : s.root q = .sl m e' ty xs := hx
            exfalso
            cases q with
            | tok n =>
              have h2 := hR.tk n
              have h3 : s.toks n = .sl m e' ty xs := h1
              rw [h3] at h2
              exact h2
            | cell j c =>
              obtain ⟨g, ty, cells, _, _, _, e2, t', xs', h4⟩ := hv
              rw [h1] at h4
              cases h4
          | sl m2 e2 t2 xs2 => rw [hxe] at hx; exact hx
          | _ => rw [hxe] at hx; simp [St.read] at hx
        obtain ⟨A, c, hy, hl, _⟩ := (slice_read hR hv).2 _ _ _ _ hxe
        exact ⟨_, h, go _ _ hy (fun W => by rw [run_len_slice W t o.type A xs.length c hu']; rfl)⟩
      · rename_i e' ty xs hx
        obtain ⟨q, _, A, c, hy, hl, _⟩ := (slice_read hR hv).1 _ _ _ hx
        exact ⟨_, h, go _ _ hy (fun W => by rw [run_len_slice W t o.type A xs.length c hu']; rfl)⟩
      · cases h
    · cases h
theorem FK_pair {α β : Type} {a : Kd α} {b : Kd β} {ok : Nat → Prop} {x : α × β} {c : List Value} (h : FK (Kd.pair a b) W ok x c) : FK a W ok x.1 (c.take a.sz) ∧ FK b W ok x.2 (c.drop a.sz) := by
  constructor
  · intro W' hW
    obtain ⟨c0, c1, rfl, h0, h1⟩ := h W' hW
    rw [← a.K_len h0, List.take_left]
    exact h0
  · intro W' hW
    obtain ⟨c0, c1, rfl, h0, h1⟩ := h W' hW
    rw [← a.K_len h0, List.drop_left]
    exact h1
theorem cells_FK (m : Option Root) : ∀ (ty : Ty) (x : ty.den) (c : List Value), FK ty.kd W (fun k => E.own k = mOwn m) x c → All2 (Rep1 E s W) (ty.cells m x) c
  | .int k, x, c, h => by
    have h1 : c = [.int k x] := FK_now h
    subst h1
    exact ⟨rfl, trivial⟩
  | .bool, x, c, h => by
    have h1 : c = [.bool x] := FK_now h
    subst h1
    exact ⟨rfl, trivial⟩
  | .str, x, c, h => by
    have h1 : c = [.string x] := FK_now h
    subst h1
    exact ⟨rfl, trivial⟩
  | .sl e t, x, c, h => by
    obtain ⟨A, cc, rfl, h1, h2⟩ := FK_slice_open h
    exact ⟨⟨A, cc, rfl, h1, h2⟩, trivial⟩
  | .pr a b, x, c, h => by
    obtain ⟨h1, h2⟩ := FK_pair h
    have := (cells_FK m a x.1 _ h1).append (cells_FK m b x.2 _ h2)
    rw [List.take_append_drop] at this
    exact this
theorem run_load_cells (hT : TabOK P C.D) {t : Nat} (hd : (lookTI C.D t).d ≠ .other) (a : Addr) (cs : List Value) (hn : cs.length = C.size t) (h1 : C.agg t = false → C.size t = 1) (hc : ∀ j v, cs[j]? = some v → W.cell? (a.add j) = some v) :
    (Instr.loadAt t (.pointer (some a))).run P W = .ok (if C.agg t then .agg cs.toArray else cs.headD undef) W := by
  have hl : (loadCells a cs.length).run P W = .ok cs.toArray W := run_loadCells_list (P := P) W a cs hc
  simp only [Instr.loadAt, Instr.sureAddr, loadVar, Sem.run_bind, Sem.run_pure, Result.andThen_ok, agg_desc hT hd]
  cases hb : C.agg t with
  | true => simp only [if_true, Sem.run_bind, size_run hT hd, Result.andThen_ok, ← hn, hl, Sem.run_pure]
  | false =>
    rw [h1 hb] at hn
    match cs, hn with
    | [v], _ =>
      have := hc 0 v rfl
      rw [Addr.add_zero'] at this
      simp only [Bool.false_eq_true, if_false, List.headD_cons]
      simp [load, Sem.run, this]
theorem oneOk_spec (hT : TabOK P C.D) {t : Nat} (h : oneOk C t = true) : (lookTI C.D t).d ≠ .other ∧ (C.agg t = false → C.size t = 1) := by
  unfold oneOk at h
  cases hb : C.agg t with
  | true =>
    refine ⟨fun hd => ?_, fun h => by cases h⟩
    unfold Ctx.agg at hb
    rw [hd] at hb
    cases hb
  | false =>
    rw [hb] at h
    dsimp only at h
    refine ⟨fun hd => ?_, fun _ => ?_⟩
    · rw [hd] at h; cases h
    · cases hd : (lookTI C.D t).d <;> rw [hd] at h <;> first | exact Nat.eq_of_beq_eq_true h | cases h
theorem cell_same {W W' : World} {a : Addr} (h : W'.heap[a.block]? = W.heap[a.block]?) {v : Value} (hc : W.cell? a = some v) : W'.cell? a = some v := by
  unfold World.cell? at *
  rw [h]
  exact hc
theorem cell_lt {W : World} {a : Addr} {v : Value} (hc : W.cell? a = some v) : a.block < W.heap.size := by
  rcases Nat.lt_or_ge a.block W.heap.size with h1 | h1
  · exact h1
  · unfold World.cell? at hc
    rw [Array.getElem?_eq_none h1] at hc
    cases hc
theorem cell_ext {W W' : World} (h : Ext W W') {a : Addr} {v : Value} (hc : W.cell? a = some v) : W'.cell? a = some v := cell_same (h _ (cell_lt hc)) hc
theorem load_done (hT : TabOK P C.D) {t : Nat} {x : Operand} {a : Addr} {l : List AV} {vs : List Value} (hR : Rep E s act W) (ho : o.op = .load t x) (hx : act.eval x = .pointer (some a))
    (hl : All2 (Rep1 E s W) l vs) (hn : lenEq l (C.size t) = true) (h1 : oneOk C t = true) (hc : ∀ W', SameR E W W' (rdOf C s o) → ∀ j v, vs[j]? = some v → W'.cell? (a.add j) = some v) : SimV C P o E s act W (whole (C.agg t) l) := by
  obtain ⟨hd, h2⟩ := oneOk_spec hT h1
  have hlen := (lenEq_iff _ _).mp hn
  have hvl : vs.length = C.size t := by rw [← hl.len, hlen]
  have hw := whole_rep (b := C.agg t) hl (fun hb => by
    rw [h2 hb] at hvl
    match vs, hvl with
    | [y], _ => exact ⟨y, rfl⟩)
  refine Sim.val hR (y := if C.agg t then .agg vs.toArray else vs.headD undef) ?_ (repV_of_rep2 hw fun cs' => ?_)
  · intro W1 hW; simp only [execOp, ho, hx, Sem.run_bind, run_load_cells hT hd a vs hvl h2 (hc W1 hW), Result.andThen_ok, Sem.run_pure]
  · cases hb : C.agg t with
    | true => simp [whole]
    | false =>
      match l, hl with
      | [], _ => simp [whole]
      | [a], hp2 =>
        intro he
        obtain ⟨y, _, hy⟩ := hp2.one
        simp [whole] at he
        rw [he] at hy
        exact hy
      | _ :: _ :: _, _ => simp [whole]
theorem view_rep {j g ty : Nat} {cells : Array Value} (hadr : E.adr[j]? = some g) (hg : W.heap[g]? = some (.cells cells ty (0, 0))) : ∀ (cs : List AV) (c : Nat) (vs : List Value), cs.length = vs.length →
    (∀ (i : Nat) (a : AV) (y : Value), cs[i]? = some a → vs[i]? = some y → RepC E W (.cell j (c + i)) a y ∧ cells[c + i]? = some y ∧ (∀ e t xs, a = .own e t xs → s.root (.cell j (c + i)) = .own e t xs)) → All2 (Rep1 E s W) (viewC j cs c) vs
  | [], c, [], _, _ => trivial
  | a :: cs, c, y :: vs, hl, h => by
    have ih := view_rep hadr hg cs (c + 1) vs (by simpa using hl) fun i b z hb hz => by
      have := h (i + 1) b z (by simpa using hb) (by simpa using hz)
      rw [show c + (i + 1) = c + 1 + i by omega] at this
      exact this
    obtain ⟨h1, h2, h3⟩ := h 0 a y rfl rfl
    rw [Nat.add_zero] at h1 h2 h3
    cases a with
    | own e t xs => exact ⟨⟨g, ty, cells, hadr, hg, h2, e, t, xs, h3 e t xs rfl⟩, ih⟩
    | junk => exact ⟨trivial, ih⟩
    | v x => exact ⟨h1, ih⟩
    | sl m e t xs =>
      cases m with
      | none => exact ⟨h1, ih⟩
      | some q => exact h1.elim
    | ptr j' off => exact ⟨h1, ih⟩
    | same a => exact ⟨repS_rep1 h1.1, ih⟩
    | _ => exact h1.elim
theorem getT_of {l : List AV} {c : Nat} {a : AV} (h : l[c]? = some a) : getT l c = a := by rw [getT_eq, h]; rfl
theorem getB_of {l : List (List AV)} {c : Nat} {a : List AV} (h : l[c]? = some a) : getB l c = a := by rw [getB_eq, h]; rfl
theorem box_view (hR : Rep E s act W) {j : Nat} {cs : List AV} (hj : s.boxes[j]? = some cs) : ∃ g ty cells, E.adr[j]? = some g ∧ W.heap[g]? = some (.cells cells ty (0, 0)) ∧ All2 (Rep1 E s W) (viewC j cs 0) cells.toList := by
  obtain ⟨g, ty, cells, h1, h2, h3, h4, h5⟩ := hR.bx j cs hj
  refine ⟨g, ty, cells, h1, h3, view_rep h1 h3 cs 0 cells.toList (by simp [h4]) fun i a y ha hy => ?_⟩
  rw [Nat.zero_add]
  have hy' : cells[i]? = some y := by simpa using hy
  refine ⟨h5 i a y ha hy', hy', fun e t xs he => ?_⟩
  show getT (getB s.boxes j) i = _
  rw [getB_of hj, getT_of ha, he]
theorem blk_cell' {g ty : Nat} {cells : Array Value} (hg : W.heap[g]? = some (.cells cells ty (0, 0))) (i : Nat) : W.cell? ⟨g, i, none⟩ = cells[i]? := by simp [World.cell?, hg]
theorem sim_load (hT : TabOK P C.D) {t : Nat} {x : Operand} {κ : AV → Option ρ} (hR : Rep E s act W) (ho : o.op = .load t x) (h : evLoad C s t (s.ev x) κ = some r) : ∃ a', κ a' = some r ∧ SimV C P o E s act W a' := by
  unfold evLoad at h
  have hv := rep_ev hR x
  split at h
  · rename_i j off hx
    rw [hx] at hv
    obtain ⟨g, hg, hy⟩ := hv
    dsimp only at h
    split at h
    · rename_i hh
      simp only [Bool.and_eq_true] at hh
      refine ⟨_, h, ?_⟩
      cases hj : s.boxes[j]? with
      | none =>
        have e : getB s.boxes j = [] := by rw [getB_eq, hj]; rfl
        rw [e] at hh
        obtain ⟨hd, _⟩ := oneOk_spec hT hh.2
        obtain ⟨i, d, z, hi⟩ := hT.get hd
        have hp : 0 < C.size t := hi.spos
        have h0 := (lenEq_iff _ _).mp hh.1
        rw [cut_eq] at h0
        simp [viewC] at h0
        omega
      | some cs =>
        have e : getB s.boxes j = cs := getB_of hj
        rw [e] at hh ⊢
        obtain ⟨g', ty, cells, b1, b2, b3⟩ := box_view hR hj
        obtain rfl : g' = g := Option.some.inj (b1.symm.trans hg)
        have hl : All2 (Rep1 E s W) (cut (viewC j cs 0) off (C.size t)) ((cells.toList.drop off).take (C.size t)) := by
          rw [cut_eq]; exact (b3.drop _).take _
        have hrd : rdOf C s o = .box j off (C.size t) := by unfold rdOf; rw [ho]; dsimp only; rw [hx]
        refine load_done hT hR ho hy hl hh.1 hh.2 fun W1 hW i v hi => ?_
        have h1 : i < C.size t := by
          have := (List.getElem?_eq_some_iff.mp hi).1
          simp at this
          omega
        have hc : W.cell? ⟨g', off + i, none⟩ = some v := by
          rw [blk_cell' b2]
          rw [List.getElem?_take_of_lt h1, List.getElem?_drop] at hi
          simpa using hi
        rw [hrd] at hW
        rw [addr_mk]
        exact hW g' hg i h1 v hc
    · cases h
  · rename_i m ty z off hx
    rw [hx] at hv
    obtain ⟨ad, hy, hF⟩ := hv
    dsimp only at h
    split at h
    · rename_i hh
      simp only [Bool.and_eq_true] at hh
      refine ⟨_, h, ?_⟩
      obtain ⟨ad', c, he, hcl, hFK, hcell, hblk⟩ := F_get hF z 0 (by omega) (by omega)
      injection he with he
      subst he
      have hFK' : FK ty.kd W (fun k => E.own k = mOwn m) z c := by simpa using hFK
      have hl : All2 (Rep1 E s W) (cut (ty.cells m z) off (C.size t)) ((c.drop off).take (C.size t)) := by
        rw [cut_eq]; exact ((cells_FK m ty z c hFK').drop _).take _
      have hsame : ∀ W1, SameR E W W1 (rdOf C s o) → ∀ k v, W.cell? (ad.add k) = some v → W1.cell? (ad.add k) = some v := fun W1 hW k v hv => by
        cases m with
        | none =>
          have hrd : rdOf C s o = .free := by unfold rdOf; rw [ho]; dsimp only; rw [hx]
          rw [hrd] at hW
          have hb : (ad.add k).block = ad.block := by unfold Addr.add; split <;> first | rfl | (split <;> rfl)
          refine cell_same (hW _ (cell_lt hv) ?_) hv
          rw [hb]
          exact hblk (by rw [kd_sz]; exact size_pos ty)
        | some q =>
          have hrd : rdOf C s o = .any := by unfold rdOf; rw [ho]; dsimp only; rw [hx]
          rw [hrd] at hW
          exact cell_ext hW hv
      refine load_done hT hR ho hy hl hh.1 hh.2 fun W1 hW i v hi => ?_
      rw [addr_add_add]
      refine hsame W1 hW _ _ ?_
      have h1 : i < C.size t := by
        have := (List.getElem?_eq_some_iff.mp hi).1
        simp at this
        omega
      rw [List.getElem?_take_of_lt h1, List.getElem?_drop] at hi
      have := hcell _ _ hi
      simpa using this
    · cases h
  · rename_i q i off hx
    rw [hx] at hv
    split at h
    · rename_i e ty xs hq
      dsimp only at h
      split at h
      · rename_i hh
        simp only [Bool.and_eq_true] at hh
        refine ⟨_, h, ?_⟩
        obtain ⟨g, n, cc, e', t', xs', h1, h2, h3, h4, h5⟩ := hv
        rw [hq] at h2
        injection h2 with h2 h6 h7
        subst h6
        have h7' : xs = xs' := eq_of_heq h7
        subst h7'
        have hown := hdr_own hR (q := q) h1 hq
        have hF := R_F hown
        have hn : xs.length = n := F_len hF
        obtain ⟨ad', c, he, hcl, hFK, hcell, _⟩ := F_get hF ty.zero i h3 (by omega)
        injection he with he
        subst he
        have hl : All2 (Rep1 E s W) (cut (ty.cells (some q) (elem ty xs i)) off (C.size t)) ((c.drop off).take (C.size t)) := by
          rw [cut_eq]; exact ((cells_FK (some q) ty _ c hFK).drop _).take _
        have hrd : rdOf C s o = .any := by unfold rdOf; rw [ho]; dsimp only; rw [hx]
        refine load_done hT hR ho h5 hl hh.1 hh.2 fun W1 hW k v hi => cell_ext (by rw [hrd] at hW; exact hW) ?_
        have h8 : k < C.size t := by
          have := (List.getElem?_eq_some_iff.mp hi).1
          simp at this
          omega
        rw [List.getElem?_take_of_lt h8, List.getElem?_drop] at hi
        have := hcell _ _ hi
        rw [kd_sz, addr_mk] at this
        rw [addr_mk, ← this]
        congr 2
        omega
      · cases h
    · cases h
  · cases h
theorem opt_ev (hR : Rep E s act W) {x : Option Operand} {k : IntKind} {n : Int} (h : ofOpt s x = some (.v (.int k n))) : x.map act.eval = some (.int k n) := by
  cases x with
  | none => cases h
  | some y =>
    have h1 : s.ev y = .v (.int k n) := Option.some.inj h
    rw [Option.map_some, ev_v hR h1]
theorem opt_none {x : Option Operand} (h : ofOpt s x = none) : x.map act.eval = none := by
  cases x with
  | none => rfl
  | some y => cases h
theorem run_cut (hT : TabOK P C.D) {t : Nat} {ty : Ty} (h : okElem C t ty = true) (W : World) (A : Option Addr) (n c : Nat) :
    (∀ k l, 0 ≤ l → l ≤ (n : Int) → (Instr.sliceAt t (.slice A n c) (some (.int k l)) none none).run P W = .ok (sliced A l.toNat n c ty.size) W) ∧
    (∀ k h, 0 ≤ h → h ≤ (c : Int) → (Instr.sliceAt t (.slice A n c) none (some (.int k h)) none).run P W = .ok (sliced A 0 h.toNat c ty.size) W) ∧
    (∀ k k' l h, 0 ≤ l → l ≤ h → h ≤ (c : Int) → (Instr.sliceAt t (.slice A n c) (some (.int k l)) (some (.int k' h)) none).run P W = .ok (sliced A l.toNat h.toNat c ty.size) W) := by
  obtain ⟨e, hu, hs, he, _⟩ := okElem_some hT h
  have hu' : P.underlying t = some (.slice (P.elem t)) := by rw [he]; exact hu
  refine ⟨fun k l h0 h1 => ?_, fun k h h0 h1 => ?_, fun k k' l h h0 h1 h2 => ?_⟩
  · rw [run_sliceAt_slice W t _ _ _ _ hu', run_slice_l W t A n c hu' k l h0 h1, he, hs]; rfl
  · rw [run_sliceAt_slice W t _ _ _ _ hu', run_slice_h W t A n c hu' k h h0 h1, he, hs]; rfl
  · rw [run_sliceAt_slice W t _ _ _ _ hu', run_slice_lh W t A n c hu' k k' l h h0 h1 h2, he, hs]; rfl
theorem sim_part (hT : TabOK P C.D) {t : Nat} {x : Operand} {lo hi : Option Operand} {m : Option Root} {e : Nat} {ty : Ty} {xs : List ty.den} {A : Option Addr} {c : Nat} {κ : AV → Option ρ} (hR : Rep E s act W)
    (ho : o.op = .slice t x lo hi none) (hy : act.eval x = .slice A xs.length c) (hl : xs.length ≤ c) (hF : F ty.kd W (fun k => E.own k = mOwn m) A xs.length xs) (hok : okElem C t ty = true)
    (h : evPart m e ty xs (ofOpt s lo) (ofOpt s hi) κ = some r) : ∃ a', κ a' = some r ∧ SimV C P o E s act W a' := by
  have c1 := fun W => (run_cut hT hok W A xs.length c).1
  have c2 := fun W => (run_cut hT hok W A xs.length c).2.1
  have c3 := fun W => (run_cut hT hok W A xs.length c).2.2
  have go : ∀ lv hv v, lo.map act.eval = lv → hi.map act.eval = hv → (∀ W, (Instr.sliceAt t (.slice A xs.length c) lv hv none).run P W = .ok v W) → ∀ W', SameR E W W' (rdOf C s o) → (execOp act.eval o).run P W' = .ok (.value v) W' := fun lv hv v h1 h2 h3 W' _ => by
    simp only [execOp, ho, hy, h1, h2, Option.map_none, Sem.run_bind, h3, Result.andThen_ok, Sem.run_pure]
  unfold evPart at h
  split at h
  · rename_i k l h1 h2
    split at h
    · rename_i h0
      split at h
      · rename_i hle
        refine ⟨_, h, Sim.val hR (go _ _ _ (opt_ev hR h1) (opt_none h2) (fun W => c1 W k l h0 hle)) ?_⟩
        have hf := F_cut (m := l.toNat) hF (by omega) hl
        rw [kd_sz] at hf
        have e1 : (xs.drop l.toNat).length = xs.length - l.toNat := List.length_drop
        exact ⟨_, c - l.toNat, by rw [e1]; rfl, by rw [e1]; omega, hf⟩
      · cases h
    · cases h
  · rename_i k hh h1 h2
    split at h
    · rename_i h0
      split at h
      · rename_i hle
        refine ⟨_, h, Sim.val hR (go _ _ _ (opt_none h1) (opt_ev hR h2) (fun W => c2 W k hh h0 (by omega))) ?_⟩
        have hf := F_take (m := hh.toNat) hF (by omega)
        have e1 : (xs.take hh.toNat).length = hh.toNat := by rw [List.length_take]; omega
        have e2 : (if c = 0 then A else A.map (·.add (0 * ty.size))) = A := by
          split
          · rfl
          · cases A with
            | none => rfl
            | some a => simp [Addr.add_zero']
        exact ⟨A, c, by rw [e1]; unfold sliced; rw [e2]; rfl, by rw [e1]; omega, hf⟩
      · cases h
    · cases h
  · rename_i k l k' hh h1 h2
    split at h
    · rename_i h0
      split at h
      · rename_i hlh
        split at h
        · rename_i hle
          refine ⟨_, h, Sim.val hR (go _ _ _ (opt_ev hR h1) (opt_ev hR h2) (fun W => c3 W k k' l hh h0 hlh (by omega))) ?_⟩
          have hf := F_mid (lo := l.toNat) (hi := hh.toNat) hF (by omega) (by omega) hl
          rw [kd_sz] at hf
          have e1 : ((xs.take hh.toNat).drop l.toNat).length = hh.toNat - l.toNat := by rw [List.length_drop, List.length_take]; omega
          exact ⟨_, c - l.toNat, by rw [e1]; rfl, by rw [e1]; omega, hf⟩
        · cases h
      · cases h
    · cases h
  · cases h
theorem sim_slice (hT : TabOK P C.D) {t : Nat} {x : Operand} {lo hi : Option Operand} {κ : AV → Option ρ} (hR : Rep E s act W) (ho : o.op = .slice t x lo hi none)
    (h : evSlice C t s (s.ev x) (ofOpt s lo) (ofOpt s hi) κ = some r) : ∃ a', κ a' = some r ∧ SimV C P o E s act W a' := by
  have hv := rep_ev hR x
  unfold evSlice at h
  split at h
  · rename_i hs
    have hu := isStr_under hT hs
    split at h
    · rename_i b hx
      have hy := ev_v hR hx
      have go : ∀ lv hv v, lo.map act.eval = lv → hi.map act.eval = hv → (∀ W, (Instr.sliceAt t (.string b) lv hv none).run P W = .ok v W) → ∀ W', SameR E W W' (rdOf C s o) → (execOp act.eval o).run P W' = .ok (.value v) W' := fun lv hv v h1 h2 h3 W' _ => by
        simp only [execOp, ho, hy, h1, h2, Option.map_none, Sem.run_bind, h3, Result.andThen_ok, Sem.run_pure]
      unfold evPartS at h
      split at h
      · rename_i k l h1 h2
        split at h
        · rename_i h0
          split at h
          · rename_i hle
            refine ⟨_, h, Sim.val hR (go _ _ _ (opt_ev hR h1) (opt_none h2) ?_) rfl⟩
            intro W
            rw [run_sliceAt_string W t _ _ _ _ hu]
            simp [Instr.slice, Instr.sliceBounds, run_sliceBound, run_underlying hu, *]
          · cases h
        · cases h
      · rename_i k hh h1 h2
        split at h
        · rename_i h0
          split at h
          · rename_i hle
            refine ⟨_, h, Sim.val hR (go _ _ _ (opt_none h1) (opt_ev hR h2) ?_) rfl⟩
            intro W
            rw [run_sliceAt_string W t _ _ _ _ hu]
            simp [Instr.slice, Instr.sliceBounds, run_sliceBound, run_underlying hu, *]
          · cases h
        · cases h
      · rename_i k l k' hh h1 h2
        split at h
        · rename_i h0
          split at h
          · rename_i hlh
            split at h
            · rename_i hle
              refine ⟨_, h, Sim.val hR (go _ _ _ (opt_ev hR h1) (opt_ev hR h2) ?_) rfl⟩
              intro W
              rw [run_sliceAt_string W t _ _ _ _ hu]
              have e1 : (hh.toNat : Int) = hh := Int.toNat_of_nonneg (by omega)
              simp [Instr.slice, Instr.sliceBounds, run_sliceBound, run_underlying hu, *, (by omega : 0 ≤ hh)]
            · cases h
          · cases h
        · cases h
      · cases h
    · cases h
  · split at h
    · rename_i q hx
      rw [hx] at hv
      split at h
      · rename_i e ty xs hq
        split at h
        · rename_i hok
          have hown := hdr_own hR (q := q) hv hq
          obtain ⟨A, c, hy, hl, _⟩ := R_reads hown
          rw [hy] at hown
          exact sim_part hT hR ho hy hl (m := some q) (R_F hown) hok h
        · cases h
      · cases h
    · rename_i m e ty xs hx
      rw [hx] at hv
      obtain ⟨A, c, hy, hl, hF⟩ := hv
      split at h
      · rename_i hok
        exact sim_part hT hR ho hy hl hF hok h
      · cases h
    · cases h
theorem under_of (hT : TabOK P C.D) {t : Nat} (hd : (lookTI C.D t).d ≠ .other) : ∃ d, P.underlying t = some d ∧ tdB (lookTI C.D t).d d = true := by
  obtain ⟨i, d, z, hi⟩ := hT.get hd
  exact ⟨d, hi.under, hi.desc⟩
theorem isBytes_some (hT : TabOK P C.D) {t : Nat} (h : isBytes C t = true) : ∃ e, P.underlying t = some (.slice e) ∧ P.underlying e = some (.int .u8) := by
  unfold isBytes at h
  split at h
  · rename_i e he
    refine ⟨e, elem_some hT he, ?_⟩
    split at h
    · rename_i hd
      obtain ⟨d, hu, h1⟩ := under_of hT (t := e) (by rw [hd]; simp)
      rw [hd] at h1
      cases d <;> simp [tdB] at h1
      rw [hu, ← h1]
    · cases h
  · cases h
theorem sim_conv (hT : TabOK P C.D) {src dst : Nat} {x : Operand} {κ : AV → Option ρ} (hR : Rep E s act W) (ho : o.op = .convert src dst x) (h : evConv C s src dst (s.ev x) κ = some r) : ∃ a', κ a' = some r ∧ SimV C P o E s act W a' := by
  have hv := rep_ev hR x
  have go : ∀ y v, act.eval x = y → (∀ W', SameR E W W' (rdOf C s o) → (convert src dst y).run P W' = .ok v W') → ∀ W', SameR E W W' (rdOf C s o) → (execOp act.eval o).run P W' = .ok (.value v) W' := fun y v h1 h3 W' hW => by
    simp only [execOp, ho, h1, Sem.run_bind, h3 W' hW, Result.andThen_ok, Sem.run_pure]
  unfold evConv at h
  split at h
  · cases h
  · rename_i hd
    obtain ⟨d1, hu1, ht1⟩ := under_of hT (t := src) (fun he => hd he)
    split at h
    · rename_i k hk
      obtain ⟨d2, hu2, ht2⟩ := under_of hT (t := dst) (by rw [hk]; simp)
      rw [hk] at ht2
      cases d2 <;> simp [tdB] at ht2
      subst ht2
      split at h
      · rename_i k' n hx
        have hy := ev_v hR hx
        exact ⟨_, h, Sim.val hR (go _ _ hy (fun W _ => by simp only [convert, Sem.run_bind, run_underlying hu1, run_underlying hu2, Result.andThen_ok, Conv.intToInt, Sem.run_pure])) rfl⟩
      · cases h
    · rename_i hk
      obtain ⟨d2, hu2, ht2⟩ := under_of hT (t := dst) (by rw [hk]; simp)
      rw [hk] at ht2
      cases d2 <;> simp [tdB] at ht2
      split at h
      · rename_i b hx
        have hy := ev_v hR hx
        exact ⟨_, h, Sim.val hR (go _ _ hy (fun W _ => by simp only [convert, Sem.run_bind, run_underlying hu1, run_underlying hu2, Result.andThen_ok, Sem.run_pure])) rfl⟩
      · split at h
        · rename_i hb
          obtain ⟨e, he1, he2⟩ := isBytes_some hT hb
          split at h
          · rename_i m e' xs hx
            have hxe : s.ev x = .sl m e' (.int .u8) xs := by
              cases hxe : s.ev x with
              | rt q =>
                rw [hxe] at hx hv
                have h1 : s.root q = .sl m e' (.int .u8) xs := hx
                exfalso
                cases q with
                | tok n =>
                  have h2 := hR.tk n
                  have h3 : s.toks n = .sl m e' (.int .u8) xs := h1
                  rw [h3] at h2
                  exact h2
                | cell j c =>
                  obtain ⟨g, ty, cells, _, _, _, e2, t', xs', h4⟩ := hv
                  rw [h1] at h4
                  cases h4
              | sl m2 e2 t2 xs2 => rw [hxe] at hx; exact hx
              | _ => rw [hxe] at hx; simp [St.read] at hx
            obtain ⟨A, c, hy, hl, hF⟩ := (slice_read hR hv).2 _ _ _ _ hxe
            refine ⟨_, h, Sim.val hR (go _ _ hy (fun W1 hW => Kd.C_string he1 he2 hu2 (F_now (F_step (F_bound hF) fun k hk hlt => ?_)))) rfl⟩
            cases m with
            | none =>
              have hrd : rdOf C s o = .free := by unfold rdOf; rw [ho]; dsimp only; rw [hxe]
              rw [hrd] at hW
              exact hW k hlt hk.1
            | some q =>
              have hrd : rdOf C s o = .any := by unfold rdOf; rw [ho]; dsimp only; rw [hxe]
              rw [hrd] at hW
              exact hW k hlt
          · rename_i e' xs hx
            obtain ⟨q, hxe, A, c, hy, hl, hF⟩ := (slice_read hR hv).1 _ _ _ hx
            refine ⟨_, h, Sim.val hR (go _ _ hy (fun W1 hW => Kd.C_string he1 he2 hu2 (F_now (F_step (F_bound hF) fun k hk hlt => ?_)))) rfl⟩
            have hrd : rdOf C s o = .any := by unfold rdOf; rw [ho]; dsimp only; rw [hxe]
            rw [hrd] at hW
            exact hW k hlt
          · cases h
        · cases h
    · cases h
end
end Go.Proofs.YtbakkcdanoopgaaGreatDoor.Ev
set_option linter.unusedVariables false
set_option linter.unusedSimpArgs false
namespace Go.Proofs.YtbakkcdanoopgaaGreatDoor.Ev
open Go Go.RowKit Go.Proofs.YtbakkcdanoopgaaGreatDoorW.PrintWords Go.Proofs.YtbakkcdanoopgaaGreatDoorW.PrintMore Kd
section
variable {E E' : Env} {s s' : St} {act : Act} {W W' : World} {bad : Owner → Prop} {g : Root → Bool}
theorem kill1_rep (hm : Move bad E W E' W') (hf : ¬ bad .free) (hq : ∀ q, g q = false → ¬ bad q.owner ∧ Stay E s W E' s' W' q) (hs : ∀ q y, Hdr E s W q y → ∃ A n c, y = .slice A n c) {a : AV} {y : Value} (hr : Rep1 E s W a y) : Rep1 E' s' W' (AV.kill1 g a) y := by
  cases a with
  | rt q =>
    have e : AV.kill1 g (.rt q) = (match g q with | true => .dead | false => .rt q) := rfl
    rw [e]
    cases hg : g q with
    | true => exact hs q y hr
    | false => exact ((hq q hg).2 y hr).1
  | sl m e t xs =>
    cases m with
    | none => exact hm.rep1 hf (a := .sl none e t xs) (fun q h => h.elim) hr
    | some q =>
      have e : AV.kill1 g (.sl (some q) e t xs) = (match g q with | true => .dead | false => .sl (some q) e t xs) := rfl
      rw [e]
      cases hg : g q with
      | true => obtain ⟨A, c, h1, _⟩ := hr; exact ⟨A, _, c, h1⟩
      | false => exact hm.rep1 hf (a := .sl (some q) _ t xs) (fun p h => by obtain rfl : q = p := h; exact hq q hg) hr
  | fp m t x off =>
    cases m with
    | none => exact hm.rep1 hf (a := .fp none t x off) (fun q h => h.elim) hr
    | some q =>
      have e : AV.kill1 g (.fp (some q) t x off) = (match g q with | true => .deadp | false => .fp (some q) t x off) := rfl
      rw [e]
      cases hg : g q with
      | true => obtain ⟨ad, h1, _⟩ := hr; exact ⟨_, h1⟩
      | false => exact hm.rep1 hf (a := .fp (some q) t x off) (fun p h => by obtain rfl : q = p := h; exact hq q hg) hr
  | ep q i off =>
    have e : AV.kill1 g (.ep q i off) = (match g q with | true => .deadp | false => .ep q i off) := rfl
    rw [e]
    cases hg : g q with
    | true => obtain ⟨b, n, c, e, t, xs, _, _, _, _, h1⟩ := hr; exact ⟨_, h1⟩
    | false => exact hm.rep1 hf (a := .ep q i off) (fun p h => by obtain rfl : q = p := h; exact hq q hg) hr
  | junk => exact trivial
  | dead => exact hr
  | deadp => exact hr
  | v x => exact hr
  | ptr j off => exact hm.rep1 hf (a := .ptr j off) (fun q h => h.elim) hr
  | fn f l m => exact hm.rep1 hf (a := .fn f l m) (fun q h => h.elim) hr
  | _ => exact hr.elim
theorem mapL_eq (f : AV → AV) : ∀ l, mapL f l = l.map f
  | [] => rfl
  | a :: l => by simp [mapL, mapL_eq f l]
theorem All2.mapl {R R' : AV → Value → Prop} {f : AV → AV} : ∀ {l : List AV} {m : List Value}, All2 R l m → (∀ a b, R a b → R' (f a) b) → All2 R' (mapL f l) m
  | [], [], _, _ => trivial
  | a :: l, b :: m, h, hf => ⟨hf a b h.1, All2.mapl h.2 hf⟩
theorem lift2_rep {φ : AV → AV} (h : ∀ a y, Rep1 E s W a y → Rep1 E' s' W' (φ a) y) {a : AV} {y : Value} (hr : Rep2 E s W a y) : Rep2 E' s' W' (AV.lift2 φ a) y := by
  by_cases hc : ∃ cs, a = .agg cs
  · obtain ⟨cs, rfl⟩ := hc
    obtain ⟨vs, h1, h2⟩ := hr
    exact ⟨vs, h1, h2.mapl h⟩
  · have h1 : Rep1 E s W a y := rep1_of_rep2 hr fun cs he => hc ⟨cs, he⟩
    have h2 := h a y h1
    have e : AV.lift2 φ a = φ a := by cases a <;> first | rfl | exact absurd ⟨_, rfl⟩ hc
    rw [e]
    cases hk : φ a <;> rw [hk] at h2 <;> first | exact h2 | exact h2.elim
theorem lift_rep {φ : AV → AV} (h : ∀ a y, Rep1 E s W a y → Rep1 E' s' W' (φ a) y) {a : AV} {y : Value} (hr : RepV E s W a y) : RepV E' s' W' (AV.lift φ a) y := by
  by_cases hc : ∃ cs, a = .tup cs
  · obtain ⟨cs, rfl⟩ := hc
    obtain ⟨vs, h1, h2⟩ := hr
    exact ⟨vs, h1, h2.mapl fun _ _ hh => lift2_rep h hh⟩
  · have h1 : Rep2 E s W a y := rep2_of_repV hr fun cs he => hc ⟨cs, he⟩
    have h2 := lift2_rep h h1
    have e : AV.lift φ a = AV.lift2 φ a := by cases a <;> first | rfl | exact absurd ⟨_, rfl⟩ hc
    rw [e]
    cases hk : AV.lift2 φ a <;> rw [hk] at h2 <;> first | exact h2 | exact h2.elim
theorem mapR_flat (f : AV → AV) : ∀ l, (mapR f l).flatten = mapL f l.flatten
  | [] => rfl
  | a :: l => by
    simp only [mapR, List.flatten_cons, mapR_flat f l, mapL_eq, List.map_append]
theorem mapR_len (f : AV → AV) {k : Nat} : ∀ {l : List (List AV)}, (∀ row, row ∈ l → row.length = k) → ∀ row, row ∈ mapR f l → row.length = k
  | [], _, row, h => by simp [mapR] at h
  | a :: l, hl, row, h => by
    simp only [mapR, List.mem_cons] at h
    rcases h with rfl | h
    · rw [mapL_eq, List.length_map]; exact hl a List.mem_cons_self
    · exact mapR_len f (fun r hr => hl r (List.mem_cons_of_mem _ hr)) row h
theorem mapR_length (f : AV → AV) : ∀ l, (mapR f l).length = l.length
  | [] => rfl
  | a :: l => by simp [mapR, mapR_length f l]
theorem tok_go {φ : AV → AV} (h1 : ∀ a y, Rep1 E s W a y → Rep1 E' s' W' (φ a) y) (hm : Move bad E W E' W') {n : Nat} (hn : ¬ bad (.tok n)) (hrv : E'.rv n = E.rv n) {a : AV} (h : Tok E s W n a) : Tok E' s' W' n (a.inLit φ) := by
  cases a with
  | junk => trivial
  | own e t xs =>
    show t.kd.R e W' 0 _ (E'.rv n) xs
    rw [hrv]
    exact hm.row hn h
  | lit e t rows =>
    obtain ⟨b, cells, g1, g2, g3, g4, g5, g8⟩ := h
    obtain ⟨g6, g7⟩ := hm.blk b (Array.getElem?_eq_some_iff.mp g3).1 (by rw [g2]; exact hn)
    refine ⟨b, cells, by rw [hrv, g1, mapR_length], g6.trans g2, g7.trans g3, ?_, mapR_len _ g5, by rw [mapR_length]; exact g8⟩
    rw [mapR_flat]
    exact g4.mapl fun _ _ h => h1 _ _ h
  | _ => exact h.elim
theorem Rep.go {φ : AV → AV} (hR : Rep E s act W) (hm : Move bad E W E' W') (hf : ¬ bad .free) (h1 : ∀ a y, Rep1 E s W a y → Rep1 E' s' W' (φ a) y)
    (htm : s'.tmps = mapL (AV.lift φ) s.tmps)
    (htk : ∀ n, (s'.toks n = (s.toks n).inLit φ ∧ ¬ bad (.tok n) ∧ E'.rv n = E.rv n) ∨ Tok E' s' W' n (s'.toks n))
    (hbx : ∀ j cs, s'.boxes[j]? = some cs → (s.boxes[j]? = some cs ∧ ¬ bad (.box j) ∧ ∀ c, ¬ bad (.cell j c)) ∨ Box E' W' j cs)
    (hln : s'.boxes.length = E'.adr.length) (hnew : ∀ k, W'.heap.size ≤ k → E'.own k = .free) : Rep E' s' act W' where
  tm := by
    rw [htm]
    exact hR.tm.mapl fun _ _ h => lift_rep h1 h
  tk := fun n => by
    rcases htk n with ⟨g1, g2, g3⟩ | h
    · rw [g1]; exact tok_go h1 hm g2 g3 (hR.tk n)
    · exact h
  bx := fun j cs h => by
    rcases hbx j cs h with ⟨h1, h2, h3⟩ | h
    · exact hm.box hf h2 h3 (hR.bx j cs h1)
    · exact h
  ln := hln
  new := hnew
theorem mapL_id {f : AV → AV} (hf : ∀ a, f a = a) : ∀ l, mapL f l = l
  | [] => rfl
  | a :: l => by simp [mapL, hf, mapL_id hf l]
theorem mapR_id {f : AV → AV} (hf : ∀ a, f a = a) : ∀ l, mapR f l = l
  | [] => rfl
  | a :: l => by simp [mapR, mapL_id hf, mapR_id hf l]
theorem lift2_id {f : AV → AV} (hf : ∀ a, f a = a) (a : AV) : AV.lift2 f a = a := by
  cases a with
  | agg cs => show AV.agg _ = _; rw [mapL_id hf]
  | _ => show f _ = _; exact hf _
theorem lift_id {f : AV → AV} (hf : ∀ a, f a = a) (a : AV) : AV.lift f a = a := by
  by_cases hc : ∃ cs, a = .tup cs
  · obtain ⟨cs, rfl⟩ := hc
    show AV.tup _ = _
    rw [mapL_id (lift2_id hf)]
  · have e : AV.lift f a = AV.lift2 f a := by cases a <;> first | rfl | exact absurd ⟨_, rfl⟩ hc
    rw [e, lift2_id hf]
theorem map_none {φ : AV → AV} (hφ : ∀ a, φ a = a) (l : List AV) : mapL (AV.lift φ) l = l := mapL_id (lift_id hφ) l
theorem getT_setT : ∀ (l : List AV) (c c' : Nat) (a : AV), getT (setT l c a) c' = if c' = c ∧ c < l.length then a else getT l c'
  | [], c, c', a => by simp [setT, getT]
  | x :: l, 0, 0, a => by simp [setT, getT]
  | x :: l, 0, c' + 1, a => by simp [setT, getT]
  | x :: l, c + 1, 0, a => by simp [setT, getT]
  | x :: l, c + 1, c' + 1, a => by simp [setT, getT, getT_setT l c c' a]
theorem getB_setB : ∀ (l : List (List AV)) (c c' : Nat) (a : List AV), getB (setB l c a) c' = if c' = c ∧ c < l.length then a else getB l c'
  | [], c, c', a => by simp [setB, getB]
  | x :: l, 0, 0, a => by simp [setB, getB]
  | x :: l, 0, c' + 1, a => by simp [setB, getB]
  | x :: l, c + 1, 0, a => by simp [setB, getB]
  | x :: l, c + 1, c' + 1, a => by simp [setB, getB, getB_setB l c c' a]
theorem setT_eq : ∀ (l : List AV) (c : Nat) (a : AV), setT l c a = l.set c a
  | [], c, a => by simp [setT]
  | x :: l, 0, a => by simp [setT]
  | x :: l, c + 1, a => by simp [setT, setT_eq l c a]
theorem setB_eq : ∀ (l : List (List AV)) (c : Nat) (a : List AV), setB l c a = l.set c a
  | [], c, a => by simp [setB]
  | x :: l, 0, a => by simp [setB]
  | x :: l, c + 1, a => by simp [setB, setB_eq l c a]
def Env.give (E : Env) (o o' : Owner) : Env := { E with own := fun k => if E.own k = o then o' else E.own k }
theorem give_move (E : Env) (W : World) (o o' : Owner) : Move (fun x => x = o) E W (E.give o o') W :=
  ⟨fun k _ hn => ⟨if_neg hn, rfl⟩, ⟨[], by simp [Env.give]⟩, rfl⟩
theorem owner_ne_free (q : Root) : q.owner ≠ .free := by cases q <;> simp [Root.owner]
theorem owner_ne_box (q : Root) (j : Nat) : Owner.box j ≠ q.owner := by cases q <;> simp [Root.owner]
theorem beq_false {m n : Nat} (h : m ≠ n) : Nat.beq m n = false := by
  cases hb : Nat.beq m n with
  | false => rfl
  | true => exact absurd (Nat.eq_of_beq_eq_true hb) h
theorem inLit_own {φ : AV → AV} {a : AV} {e : Nat} {t : Ty} {xs : List t.den} (h : a = .own e t xs) : a.inLit φ = .own e t xs := by rw [h]; rfl
theorem inLit_junk {φ : AV → AV} {a : AV} (h : a.inLit φ = .junk) : a = .junk := by cases a <;> first | rfl | cases h
theorem tokSet_self (l : Nat → AV) (n : Nat) (a : AV) : tokSet l n a n = a := by
  show (match Nat.beq n n with | true => a | false => l n) = a
  rw [show Nat.beq n n = true from Nat.beq_refl n]
theorem tokSet_ne (l : Nat → AV) {m n : Nat} (a : AV) (h : m ≠ n) : tokSet l n a m = l m := by
  show (match Nat.beq m n with | true => a | false => l m) = l m
  rw [beq_false h]
theorem gone_rep (hR : Rep E s act W) (q : Root) (o' : Owner) : Rep (E.give q.owner o') (s.gone q) act W := by
  have hmv := give_move E W q.owner o'
  have hfree : ¬ (Owner.free = q.owner) := fun h => owner_ne_free q h.symm
  have hnew : ∀ k, W.heap.size ≤ k → (E.give q.owner o').own k = .free := fun k hk => by
    show (if E.own k = _ then o' else E.own k) = _
    rw [hR.new k hk, if_neg hfree]
  have hne : ∀ p, Root.beq q p = false → p ≠ q := fun p hp h => by
    have h1 : Root.beq q p = true := Root.beq_iff.mpr h.symm
    rw [h1] at hp; cases hp
  cases q with
  | tok n =>
    have htok : ∀ m, m ≠ n → (s.gone (.tok n)).toks m = (s.toks m).inLit (AV.kill1 (Root.beq (.tok n))) := fun m hmn => by
      show (tokSet s.toks n .junk m).inLit _ = _
      rw [tokSet_ne _ _ hmn]
    refine hR.go (φ := AV.kill1 (Root.beq (.tok n))) hmv hfree (fun a y h => kill1_rep hmv hfree (fun p hp => ?_) (fun q y h => hdr_slice hR h) h) rfl (fun m => ?_) (fun j cs hj => .inl ⟨hj, by simp [Root.owner], fun c => by simp [Root.owner]⟩) hR.ln hnew
    · have hpn := hne p hp
      refine ⟨fun h => hpn (Root.owner_inj h), fun y hy => ?_⟩
      cases p with
      | tok m =>
        have hmn : m ≠ n := fun h => hpn (by rw [h])
        refine ⟨⟨hy.1, fun h => hy.2 (inLit_junk ((htok m hmn).symm.trans h))⟩, fun e t xs h => ?_⟩
        exact (htok m hmn).trans (inLit_own h)
      | cell j c =>
        obtain ⟨b, ty, cells, h1, h2, h3, h4⟩ := hy
        exact ⟨⟨b, ty, cells, h1, h2, h3, h4⟩, fun _ _ _ h => h⟩
    · by_cases hmn : m = n
      · subst hmn
        refine .inr ?_
        have e : (s.gone (.tok m)).toks m = .junk := by
          show (tokSet s.toks m .junk m).inLit _ = _
          rw [tokSet_self]
          rfl
        rw [e]; trivial
      · exact .inl ⟨htok m hmn, by simp [Root.owner, hmn], rfl⟩
  | cell j c =>
    refine hR.go (φ := AV.kill1 (Root.beq (.cell j c))) hmv hfree (fun a y h => kill1_rep hmv hfree (fun p hp => ?_) (fun q y h => hdr_slice hR h) h) rfl (fun m => .inl ⟨rfl, by simp [Root.owner], rfl⟩) (fun i cs hj => ?_) ?_ hnew
    · have hpn := hne p hp
      refine ⟨fun h => hpn (Root.owner_inj h), fun y hy => ?_⟩
      cases p with
      | tok m => exact ⟨⟨hy.1, fun h => hy.2 (inLit_junk h)⟩, fun e t xs h => inLit_own h⟩
      | cell j' c' =>
        have hroot : (s.gone (.cell j c)).root (.cell j' c') = s.root (.cell j' c') := by
          show getT (getB (setB s.boxes j (setT (getB s.boxes j) c .junk)) j') c' = getT (getB s.boxes j') c'
          rw [getB_setB]
          by_cases hj : j' = j ∧ j < s.boxes.length
          · rw [if_pos hj, getT_setT, if_neg, hj.1]
            exact fun h => hpn (by rw [hj.1, h.1])
          · rw [if_neg hj]
        obtain ⟨b, ty, cells, h1, h2, h3, e, t, xs, h4⟩ := hy
        exact ⟨⟨b, ty, cells, h1, h2, h3, e, t, xs, hroot.trans h4⟩, fun _ _ _ h => hroot.trans h⟩
    · have hj' : (setB s.boxes j (setT (getB s.boxes j) c .junk))[i]? = some cs := hj
      rw [setB_eq, List.getElem?_set] at hj'
      by_cases hij : j = i
      · subst hij
        rw [if_pos rfl] at hj'
        split at hj'
        · rename_i hlt
          obtain rfl := Option.some.inj hj'
          have e0 : s.boxes[j]? = some s.boxes[j] := List.getElem?_eq_getElem hlt
          refine .inr ?_
          obtain ⟨g, ty, cells, b1, b2, b3, b4, b5⟩ := hR.bx j _ e0
          rw [getB_of e0, setT_eq]
          refine ⟨g, ty, cells, b1, ?_, b3, by rw [List.length_set]; exact b4, fun i a y ha hy => ?_⟩
          · show (if E.own g = _ then o' else E.own g) = _
            rw [b2, if_neg (by simp [Root.owner])]
          · rw [List.getElem?_set] at ha
            by_cases hci : c = i
            · rw [if_pos hci] at ha
              split at ha
              · obtain rfl := Option.some.inj ha; trivial
              · cases ha
            · rw [if_neg hci] at ha
              exact hmv.repC hfree (by simp [Root.owner]; exact fun h => hci h.symm) (b5 i a y ha hy)
        · cases hj'
      · rw [if_neg hij] at hj'
        exact .inl ⟨hj', by simp [Root.owner], fun c' => by simp [Root.owner]; exact fun h => absurd h.symm hij⟩
    · show (setB s.boxes j (setT (getB s.boxes j) c .junk)).length = _
      rw [setB_eq, List.length_set]
      exact hR.ln
end
end Go.Proofs.YtbakkcdanoopgaaGreatDoor.Ev
set_option linter.unusedVariables false
set_option linter.unusedSimpArgs false
namespace Go.Proofs.YtbakkcdanoopgaaGreatDoor.Ev
open Go Go.RowKit Go.Proofs.YtbakkcdanoopgaaGreatDoorW.PrintWords Go.Proofs.YtbakkcdanoopgaaGreatDoorW.PrintMore Kd
def RepT (E : Env) (W : World) (O : Owner → Prop) : AV → Value → Prop
  | .own e t xs, y => t.kd.R e W 0 (fun k => O (E.own k)) y xs
  | .fn f first caps, y => ∃ fs cs : Array Value, y = .func f fs cs ∧ All2 (RepS E W) first fs.toList ∧ All2 (RepS E W) caps cs.toList
  | .junk, _ => False
  | a, y => RepS E W a y
def AllT (E : Env) (W : World) (o : Nat → Owner → Prop) : Nat → List AV → List Value → Prop
  | _, [], [] => True
  | p, a :: l, y :: m => RepT E W (o p) a y ∧ AllT E W o (p + 1) l m
  | _, _, _ => False
def Hand (p : Nat) (x : Owner) : Prop := ∃ b, x = .hand p b
structure Pass (P : Nat → Bool → Prop) (E E' : Env) : Prop where
  adr : E'.adr = E.adr
  rv : E'.rv = E.rv
  own : ∀ k, E'.own k = E.own k ∨ ((∃ q : Root, E.own k = q.owner) ∧ ∃ p b, P p b ∧ E'.own k = .hand p b)
  kv : E'.kv = E.kv
theorem Pass.refl (P : Nat → Bool → Prop) (E : Env) : Pass P E E := ⟨rfl, rfl, fun _ => .inl rfl, rfl⟩
theorem Pass.trans {P : Nat → Bool → Prop} {E E1 E2 : Env} (h : Pass P E E1) (h' : Pass P E1 E2) : Pass P E E2 :=
  ⟨h'.adr.trans h.adr, h'.rv.trans h.rv, fun k => by
    rcases h'.own k with h1 | ⟨⟨q, h1⟩, p, b, h2, h3⟩
    · rcases h.own k with h4 | h4
      · exact .inl (h1.trans h4)
      · obtain ⟨h5, p, b, h6, h7⟩ := h4
        exact .inr ⟨h5, p, b, h6, h1.trans h7⟩
    · rcases h.own k with h4 | ⟨h5, p', b', h6, h7⟩
      · exact .inr ⟨⟨q, h4.symm.trans h1⟩, p, b, h2, h3⟩
      · exact absurd h1 (by rw [h7]; cases q <;> simp [Root.owner]), h'.kv.trans h.kv⟩
theorem Pass.mono {P P' : Nat → Bool → Prop} {E E' : Env} (h : Pass P E E') (hp : ∀ p b, P p b → P' p b) : Pass P' E E' :=
  ⟨h.adr, h.rv, fun k => (h.own k).imp id fun ⟨h1, p, b, h2, h3⟩ => ⟨h1, p, b, hp p b h2, h3⟩, h.kv⟩
theorem Pass.keep {P : Nat → Bool → Prop} {E E' : Env} (h : Pass P E E') {k : Nat} {o : Owner} (hk : E.own k = o) (ho : ∀ q : Root, o ≠ q.owner) : E'.own k = o := by
  rcases h.own k with h1 | ⟨⟨q, h1⟩, _⟩
  · exact h1.trans hk
  · exact absurd (hk.symm.trans h1) (ho q)
structure Later (E E' : Env) : Prop where
  adr : E'.adr = E.adr
  rv : E'.rv = E.rv
  free : ∀ k, E.own k = .free → E'.own k = .free
  hid : ∀ k, E.own k = .hid → E'.own k = .hid
  kv : E'.kv = E.kv
theorem Later.refl (E : Env) : Later E E := ⟨rfl, rfl, fun _ h => h, fun _ h => h, rfl⟩
theorem Later.trans {E E1 E2 : Env} (h : Later E E1) (h' : Later E1 E2) : Later E E2 := ⟨h'.adr.trans h.adr, h'.rv.trans h.rv, fun k hk => h'.free k (h.free k hk), fun k hk => h'.hid k (h.hid k hk), h'.kv.trans h.kv⟩
end Go.Proofs.YtbakkcdanoopgaaGreatDoor.Ev
set_option linter.unusedVariables false
set_option linter.unusedSimpArgs false
namespace Go.Proofs.YtbakkcdanoopgaaGreatDoor.Ev
open Go Go.RowKit Go.Proofs.YtbakkcdanoopgaaGreatDoorW.PrintWords Go.Proofs.YtbakkcdanoopgaaGreatDoorW.PrintMore Kd
section
variable {E E' : Env} {s s' : St} {act : Act} {W W' : World} {bad : Owner → Prop} {g : Root → Bool} {P : Nat → Bool → Prop}
theorem hand_ne (p : Nat) (b : Bool) (q : Root) : Owner.hand p b ≠ q.owner := by cases q <;> simp [Root.owner]
theorem still_ne {o : Owner} (h : o = .free ∨ o = .hid) (q : Root) : o ≠ q.owner := by rcases h with rfl | rfl <;> cases q <;> simp [Root.owner]
theorem still_hand {o : Owner} (h : o = .free ∨ o = .hid) (p : Nat) (b : Bool) : o ≠ .hand p b := by rcases h with rfl | rfl <;> simp
theorem free_ne (q : Root) : Owner.free ≠ q.owner := by cases q <;> simp [Root.owner]
theorem Pass.later (h : Pass P E E') : Later E E' := ⟨h.adr, h.rv, fun _ hk => h.keep hk free_ne, fun _ hk => h.keep hk (still_ne (.inr rfl)), h.kv⟩
theorem Later.repS (h : Later E E') {a : AV} {y : Value} (hr : RepS E W a y) : RepS E' W a y := by
  cases a with
  | junk => trivial
  | v x => exact hr
  | sl m e t xs =>
    cases m with
    | none => obtain ⟨A, c, h1, h2, h3⟩ := hr; exact ⟨A, c, h1, h2, F_mono h3 fun k hk => h.free k hk⟩
    | some r => exact hr.elim
  | ptr j off => obtain ⟨b, h1, h2⟩ := hr; exact ⟨b, by rw [h.adr]; exact h1, h2⟩
  | _ => exact hr.elim
theorem Pass.repS (h : Pass P E E') {a : AV} {y : Value} (hr : RepS E W a y) : RepS E' W a y := h.later.repS hr
theorem Pass.repT (h : Pass P E E') {O : Owner → Prop} (hO : ∀ x, O x → ∀ q : Root, x ≠ q.owner) {a : AV} {y : Value} (hr : RepT E W O a y) : RepT E' W O a y := by
  cases a with
  | own e t xs => exact R_mono hr fun k hk => by rw [h.keep (o := E.own k) rfl (hO _ hk)]; exact hk
  | fn f l m => obtain ⟨fs, cs, h1, h2, h3⟩ := hr; exact ⟨fs, cs, h1, h2.imp fun _ _ _ => h.repS, h3.imp fun _ _ _ => h.repS⟩
  | v x => exact hr
  | sl m e t xs => exact h.repS (a := .sl m e t xs) hr
  | ptr j off => exact h.repS (W := W) (a := .ptr j off) hr
  | _ => exact hr.elim
theorem hands_ne (p : Nat) : ∀ x, Hand p x → ∀ q : Root, x ≠ q.owner := fun x ⟨b, h⟩ q => by rw [h]; exact hand_ne p b q
theorem give_pass (E : Env) (q : Root) (p : Nat) (b : Bool) (hp : P p b) : Pass P E (E.give q.owner (.hand p b)) :=
  ⟨rfl, rfl, fun k => by
    show (if E.own k = q.owner then Owner.hand p b else E.own k) = _ ∨ _
    by_cases h : E.own k = q.owner
    · refine .inr ⟨⟨q, h⟩, p, b, hp, ?_⟩
      show (if E.own k = q.owner then Owner.hand p b else E.own k) = _
      rw [if_pos h]
    · rw [if_neg h]; exact .inl rfl, rfl⟩
def Any (_ : Nat) (_ : Bool) : Prop := True
def Is (p : Nat) (b : Bool) (p' : Nat) (b' : Bool) : Prop := p' = p ∧ b' = b
theorem is_ne (p : Nat) (b : Bool) : ∀ x, x = Owner.hand p b → ∀ q : Root, x ≠ q.owner := fun x h q => by rw [h]; exact hand_ne p b q
theorem take0_rep (hR : Rep E s act W) (p : Nat) (b : Bool) {a a' : AV} {y : Value} (hr : Rep1 E s W a y) (h : s.take0 a = some (a', s')) :
    ∃ E', Rep E' s' act W ∧ Pass (Is p b) E E' ∧ RepT E' W (· = .hand p b) a' y := by
  cases a with
  | rt q =>
    simp only [St.take0] at h
    cases hq : s.root q <;> rw [hq] at h <;> try (cases h; done)
    rename_i e t xs
    obtain ⟨rfl, rfl⟩ : AV.own e t xs = a' ∧ s.gone q = s' := by simpa using h
    refine ⟨_, gone_rep hR q (.hand p b), give_pass E q p b ⟨rfl, rfl⟩, R_mono (hdr_own hR hr hq) fun k hk => ?_⟩
    show (if E.own k = q.owner then Owner.hand p b else E.own k) = _
    rw [if_pos hk]
  | v x =>
    obtain ⟨rfl, rfl⟩ : AV.v x = a' ∧ s = s' := by simpa [St.take0] using h
    exact ⟨E, hR, Pass.refl _ _, hr⟩
  | sl m e t xs =>
    cases m with
    | none =>
      obtain ⟨rfl, rfl⟩ : AV.sl none e t xs = a' ∧ s = s' := by simpa [St.take0] using h
      exact ⟨E, hR, Pass.refl _ _, hr⟩
    | some r => simp [St.take0] at h
  | ptr j off =>
    obtain ⟨rfl, rfl⟩ : AV.ptr j off = a' ∧ s = s' := by simpa [St.take0] using h
    exact ⟨E, hR, Pass.refl _ _, hr⟩
  | fn f l m =>
    obtain ⟨rfl, rfl⟩ : AV.fn f l m = a' ∧ s = s' := by simpa [St.take0] using h
    exact ⟨E, hR, Pass.refl _ _, hr⟩
  | _ => simp [St.take0] at h
theorem later_rep (h : Later E E') {a : AV} {y : Value} (hr : Rep1 E s W a y) (ht : ∃ r, s'.take1 a = some r) : Rep1 E' s' W a y := by
  cases a with
  | rt q =>
    cases q with
    | tok n =>
      refine ⟨by rw [h.rv]; exact hr.1, fun hn => ?_⟩
      obtain ⟨r, ht⟩ := ht
      simp only [St.take1, hn, St.take0, St.root] at ht
      cases ht
    | cell j c =>
      obtain ⟨r, ht⟩ := ht
      obtain ⟨b, ty, cells, h1, h2, h3, e, t, xs, h4⟩ := hr
      simp only [St.take1, St.take0] at ht
      cases hq : s'.root (.cell j c) <;> rw [hq] at ht <;> try (cases ht; done)
      exact ⟨b, ty, cells, by rw [h.adr]; exact h1, h2, h3, _, _, _, hq⟩
  | v x => exact hr
  | sl m e t xs =>
    cases m with
    | none => exact h.repS (a := .sl none e t xs) hr
    | some r => obtain ⟨r, ht⟩ := ht; simp [St.take1, St.take0] at ht
  | ptr j off => exact h.repS (W := W) (a := .ptr j off) hr
  | fn f l m => obtain ⟨fs, cs, h1, h2, h3⟩ := hr; exact ⟨fs, cs, h1, h2.imp fun _ _ _ => h.repS, h3.imp fun _ _ _ => h.repS⟩
  | _ => obtain ⟨r, ht⟩ := ht; simp [St.take1, St.take0] at ht
theorem take0_take1 {a : AV} {r : AV × St} (h : s.take0 a = some r) : ∃ r, s.take1 a = some r := by
  cases a with
  | rt q =>
    cases q with
    | tok n =>
      simp only [St.take0] at h
      cases hq : s.root (.tok n) <;> rw [hq] at h <;> try (cases h; done)
      have hq' : s.toks n = _ := hq
      exact ⟨_, by simp only [St.take1, hq', St.take0, hq]; rfl⟩
    | cell j c => exact ⟨r, h⟩
  | _ => exact ⟨r, h⟩
theorem take0s_rep (p : Nat) (b : Bool) : ∀ (l : List AV) {l' : List AV} {m : List Value} {E : Env} {s s' : St} (E0 : Env) (s0 : St), Rep E s act W → Later E0 E → All2 (Rep1 E0 s0 W) l m → s.take0s l = some (l', s') →
    ∃ E', Rep E' s' act W ∧ Pass (Is p b) E E' ∧ All2 (RepT E' W (· = .hand p b)) l' m
  | [], l', [], E, s, s', E0, s0, hR, hP, hr, h => by
    obtain ⟨rfl, rfl⟩ : [] = l' ∧ s = s' := by simpa [St.take0s] using h
    exact ⟨E, hR, Pass.refl _ _, trivial⟩
  | a :: l, l', y :: m, E, s, s', E0, s0, hR, hP, hr, h => by
    simp only [St.take0s] at h
    cases h1 : s.take0 a with
    | none => rw [h1] at h; cases h
    | some r1 =>
      obtain ⟨a', s1⟩ := r1
      rw [h1] at h
      dsimp only at h
      cases h2 : s1.take0s l with
      | none => rw [h2] at h; cases h
      | some r2 =>
        obtain ⟨l2, s2⟩ := r2
        rw [h2] at h
        obtain ⟨rfl, rfl⟩ : a' :: l2 = l' ∧ s2 = s' := by simpa using h
        obtain ⟨E1, g1, g2, g3⟩ := take0_rep hR p b (later_rep hP hr.1 (take0_take1 h1)) h1
        obtain ⟨E2, k1, k2, k3⟩ := take0s_rep p b l E0 s0 g1 (hP.trans g2.later) hr.2 h2
        exact ⟨E2, k1, g2.trans k2, k2.repT (is_ne p b) g3, k3⟩
theorem set_cells (c : List Value) (off : Nat) (v : Value) (l : List Value) (h : off < c.length) : ((c.set off v).take (off + 1) ++ l ++ (c.set off v).drop (off + 1 + l.length)) = c.take off ++ (v :: l) ++ c.drop (off + (v :: l).length) := by
  have e1 : (c.set off v).take (off + 1) = c.take off ++ [v] := by
    apply List.ext_getElem
    · simp; omega
    · intro i h1 h2
      simp only [List.getElem_take, List.getElem_set]
      by_cases hi : off = i
      · subst hi; simp; rw [List.getElem_append_right (by simp; omega)]; simp
      · rw [if_neg hi, List.getElem_append_left (by simp at h1 h2 ⊢; omega)]; simp
  have e2 : (c.set off v).drop (off + 1 + l.length) = c.drop (off + (v :: l).length) := by
    apply List.ext_getElem
    · simp; omega
    · intro i h1 h2
      simp only [List.getElem_drop, List.getElem_set]
      rw [if_neg (by omega)]
      congr 1
      simp
      omega
  rw [e1, e2]
  simp
theorem asSl_R {e : Nat} {t : Ty} {a : AV} {xs : List t.den} {y : Value} {o : Owner → Prop} (h : Ty.asSl e t a = some xs) (hr : RepT E W o a y) : t.kd.R e W 0 (fun k => o (E.own k)) y xs := by
  unfold Ty.asSl at h
  split at h
  · rename_i e' t' zs
    split at h
    · rename_i he
      subst he
      split at h
      · rename_i ht
        subst ht
        obtain rfl := Option.some.inj h
        exact hr
      · cases h
    · cases h
  · obtain rfl := Option.some.inj h
    have : y = .slice none 0 0 := hr
    subst this
    exact R_nil _ _ _ _ _
  · cases h
theorem put_M {o : Owner → Prop} {ok : Nat → Prop} (hok : ∀ k, o (E.own k) → ok k) : ∀ (t : Ty) (x y : t.den) (off : Nat) (a : AV) (v : Value) (c : List Value), c.length = t.size → t.kd.M W 0 ok x c → t.put x off a = some y → RepT E W o a v → off < t.size ∧ t.kd.M W 0 ok y (c.set off v)
  | .int k, x, y, off, a, v, c, hl, hM, h, hr => by
    cases off <;> cases a <;> try (simp [Ty.put] at h; done)
    rename_i z
    cases z <;> try (simp [Ty.put] at h; done)
    rename_i k' n
    simp only [Ty.put] at h
    split at h
    · rename_i hk
      subst hk
      obtain rfl := Option.some.inj h
      have : v = .int k' n := hr
      subst this
      match c, hl with
      | [u], _ => exact ⟨Nat.one_pos, rfl⟩
    · cases h
  | .bool, x, y, off, a, v, c, hl, hM, h, hr => by
    cases off <;> cases a <;> try (simp [Ty.put] at h; done)
    rename_i z
    cases z <;> try (simp [Ty.put] at h; done)
    simp only [Ty.put] at h
    obtain rfl := Option.some.inj h
    have : v = _ := hr
    subst this
    match c, hl with
    | [u], _ => exact ⟨Nat.one_pos, rfl⟩
  | .str, x, y, off, a, v, c, hl, hM, h, hr => by
    cases off <;> cases a <;> try (simp [Ty.put] at h; done)
    rename_i z
    cases z <;> try (simp [Ty.put] at h; done)
    simp only [Ty.put] at h
    obtain rfl := Option.some.inj h
    have : v = _ := hr
    subst this
    match c, hl with
    | [u], _ => exact ⟨Nat.one_pos, rfl⟩
  | .sl e t, x, y, off, a, v, c, hl, hM, h, hr => by
    cases off with
    | succ n => simp [Ty.put] at h
    | zero =>
      simp only [Ty.put] at h
      match c, hl with
      | [u], _ => exact ⟨Nat.one_pos, v, rfl, R_mono (asSl_R h hr) hok⟩
  | .pr a b, x, y, off, u, v, c, hl, hM, h, hr => by
    obtain ⟨c0, c1, rfl, h0, h1⟩ := hM
    have l0 : c0.length = a.size := by rw [a.kd.K_len (a.kd.K_of_M h0), kd_sz]
    have l1 : c1.length = b.size := by rw [b.kd.K_len (b.kd.K_of_M h1), kd_sz]
    simp only [Ty.put] at h
    cases hb : Nat.blt off a.size with
    | true =>
      rw [hb] at h
      dsimp only at h
      have hlt : off < a.size := Nat.blt_eq.mp hb
      cases hp : a.put x.1 off u with
      | none => rw [hp] at h; cases h
      | some z =>
        rw [hp] at h
        obtain rfl := Option.some.inj h
        have ih := put_M hok a x.1 z off u v c0 l0 h0 hp hr
        refine ⟨by show off < a.size + b.size; omega, c0.set off v, c1, ?_, ih.2, h1⟩
        rw [List.set_append_left _ _ (by omega)]
    | false =>
      rw [hb] at h
      dsimp only at h
      have hge : ¬ off < a.size := fun hh => by rw [Nat.blt_eq.mpr hh] at hb; cases hb
      cases hp : b.put x.2 (off - a.size) u with
      | none => rw [hp] at h; cases h
      | some z =>
        rw [hp] at h
        obtain rfl := Option.some.inj h
        have ih := put_M hok b x.2 z (off - a.size) u v c1 l1 h1 hp hr
        refine ⟨by show off < a.size + b.size; omega, c0, c1.set (off - a.size) v, ?_, h0, ih.2⟩
        rw [List.set_append_right _ _ (by omega), l0]
theorem puts_M {o : Nat → Owner → Prop} {ok : Nat → Prop} (hok : ∀ p k, o p (E.own k) → ok k) (t : Ty) : ∀ (cs : List AV) (vs : List Value) (p : Nat) (x y : t.den) (off : Nat) (c : List Value), c.length = t.size → t.kd.M W 0 ok x c → t.puts cs x off = some y → AllT E W o p cs vs →
    (cs = [] ∨ off + vs.length ≤ t.size) ∧ t.kd.M W 0 ok y (c.take off ++ vs ++ c.drop (off + vs.length))
  | [], [], p, x, y, off, c, hl, hM, h, hr => by
    obtain rfl : x = y := Option.some.inj h
    exact ⟨.inl rfl, by simpa using hM⟩
  | a :: cs, v :: vs, p, x, y, off, c, hl, hM, h, hr => by
    simp only [Ty.puts] at h
    cases hp : t.put x off a with
    | none => rw [hp] at h; cases h
    | some z =>
      rw [hp] at h
      dsimp only at h
      obtain ⟨h1, h2⟩ := put_M (hok p) t x z off a v c hl hM hp hr.1
      obtain ⟨h3, h4⟩ := puts_M hok t cs vs (p + 1) z y (off + 1) (c.set off v) (by rw [List.length_set]; exact hl) h2 h hr.2
      rw [set_cells c off v vs (by omega)] at h4
      refine ⟨.inr ?_, h4⟩
      rw [List.length_cons]
      rcases h3 with rfl | h3
      · cases vs with
        | nil => simp; omega
        | cons _ _ => exact hr.2.elim
      · omega
theorem allT_const {o : Owner → Prop} : ∀ {l : List AV} {m : List Value} {p : Nat}, All2 (RepT E W o) l m → AllT E W (fun _ => o) p l m
  | [], [], _, _ => trivial
  | a :: l, b :: m, p, h => ⟨h.1, allT_const h.2⟩
theorem AllT.len {o : Nat → Owner → Prop} : ∀ {l : List AV} {m : List Value} {p : Nat}, AllT E W o p l m → l.length = m.length
  | [], [], _, _ => rfl
  | a :: l, b :: m, p, h => by rw [List.length_cons, List.length_cons, AllT.len h.2]
theorem AllT.get {o : Nat → Owner → Prop} : ∀ {l : List AV} {m : List Value} {p : Nat}, AllT E W o p l m → ∀ (i : Nat) (a : AV) (y : Value), l[i]? = some a → m[i]? = some y → RepT E W (o (p + i)) a y
  | a :: l, b :: m, p, h, 0, x, y, hx, hy => by
    obtain rfl : a = x := by simpa using hx
    obtain rfl : b = y := by simpa using hy
    exact h.1
  | a :: l, b :: m, p, h, i + 1, x, y, hx, hy => by
    have := AllT.get h.2 i x y (by simpa using hx) (by simpa using hy)
    rw [show p + (i + 1) = p + 1 + i by omega]
    exact this
theorem solid_rep (p : Nat) (b : Bool) (t : Ty) : ∀ (rows : List (List AV)) {xs : List t.den} {m : List Value} {E : Env} {s s' : St} (E0 : Env) (s0 : St), Rep E s act W → Later E0 E → All2 (Rep1 E0 s0 W) rows.flatten m → St.solid t rows s = some (xs, s') →
    ∃ E', Rep E' s' act W ∧ Pass (Is p b) E E' ∧ xs.length = rows.length ∧ Reps (t.kd.M W 0 (fun k => E'.own k = .hand p b)) t.size xs m
  | [], xs, [], E, s, s', E0, s0, hR, hP, hr, h => by
    obtain ⟨rfl, rfl⟩ : [] = xs ∧ s = s' := by simpa [St.solid] using h
    exact ⟨E, hR, Pass.refl _ _, rfl, by simp, fun j p hj => by simp at hj⟩
  | row :: rows, xs, m, E, s, s', E0, s0, hR, hP, hr, h => by
    rw [List.flatten_cons] at hr
    obtain ⟨m1, m2, rfl, hr1, hr2⟩ := hr.split
    simp only [St.solid] at h
    cases h1 : s.take0s row with
    | none => rw [h1] at h; cases h
    | some r1 =>
      obtain ⟨cs, s1⟩ := r1
      rw [h1] at h
      dsimp only at h
      cases hl : lenEq cs t.size with
      | false => rw [hl] at h; cases h
      | true =>
        rw [hl] at h
        dsimp only at h
        cases h2 : t.puts cs t.zero 0 with
        | none => rw [h2] at h; cases h
        | some y =>
          rw [h2] at h
          dsimp only at h
          cases h3 : St.solid t rows s1 with
          | none => rw [h3] at h; cases h
          | some r3 =>
            obtain ⟨ys, s2⟩ := r3
            rw [h3] at h
            obtain ⟨rfl, rfl⟩ : y :: ys = xs ∧ s2 = s' := by simpa using h
            obtain ⟨E1, g1, g2, g3⟩ := take0s_rep p b row E0 s0 hR hP hr1 h1
            obtain ⟨E2, k1, k2, k3, k4⟩ := solid_rep p b t rows E0 s0 g1 (hP.trans g2.later) hr2 h3
            have hlen := (lenEq_iff _ _).mp hl
            have hzl : t.zeroV.length = t.size := by
              have := t.kd.K_len (t.kd.K_of_M (M_zero W 0 (fun _ => True) t))
              rw [this, kd_sz]
            have g3' : All2 (RepT E2 W (· = .hand p b)) cs m1 := g3.imp fun _ _ _ => k2.repT (is_ne p b)
            obtain ⟨_, hM⟩ := puts_M (o := fun _ x => x = .hand p b) (ok := fun k => E2.own k = .hand p b) (fun _ k hk => hk) t cs m1 0 t.zero y 0 t.zeroV hzl (M_zero W 0 _ t) h2 (allT_const g3')
            have hm1 : m1.length = t.size := by rw [← g3'.len, hlen]
            have e : t.zeroV.take 0 ++ m1 ++ t.zeroV.drop (0 + m1.length) = m1 := by
              rw [hm1, Nat.zero_add, List.drop_eq_nil_of_le (by omega)]
              simp
            rw [e] at hM
            refine ⟨E2, k1, g2.trans k2, by rw [List.length_cons, List.length_cons, k3], ?_⟩
            obtain ⟨r1, r2⟩ := k4
            refine ⟨by rw [List.length_append, r1, hm1, List.length_cons, Nat.succ_mul, Nat.add_comm], fun j z hj => ?_⟩
            cases j with
            | zero =>
              obtain rfl : y = z := by simpa using hj
              rw [Nat.zero_mul, List.drop_zero, List.take_left' hm1]
              exact hM
            | succ j =>
              have := r2 j z (by simpa using hj)
              rw [Nat.succ_mul, Nat.add_comm, ← hm1, ← List.drop_drop, List.drop_left, hm1]
              exact this
theorem repT_mono {O O' : Owner → Prop} (h : ∀ x, O x → O' x) {a : AV} {y : Value} (hr : RepT E W O a y) : RepT E W O' a y := by
  cases a <;> first | exact R_mono hr (fun k hk => h _ hk) | exact hr
def At (p : Nat) (p' : Nat) (_ : Bool) : Prop := p' = p
theorem take1_rep (hR : Rep E s act W) (p : Nat) {a a' : AV} {y : Value} (hr : Rep1 E s W a y) (h : s.take1 a = some (a', s')) :
    ∃ E', Rep E' s' act W ∧ Pass (At p) E E' ∧ RepT E' W (Hand p) a' y := by
  have go : s.take0 a = some (a', s') → ∃ E', Rep E' s' act W ∧ Pass (At p) E E' ∧ RepT E' W (Hand p) a' y := fun h => by
    obtain ⟨E', h1, h2, h3⟩ := take0_rep hR p false hr h
    exact ⟨E', h1, h2.mono fun _ _ hh => hh.1, repT_mono (fun x hx => ⟨_, hx⟩) h3⟩
  cases a with
  | rt q =>
    cases q with
    | cell j c => exact go h
    | tok n =>
      cases hn : s.toks n with
      | lit e t rows =>
        simp only [St.take1, hn] at h
        cases h1 : St.solid t rows (s.drop n) with
        | none => rw [h1] at h; cases h
        | some r =>
          obtain ⟨xs, s1⟩ := r
          rw [h1] at h
          obtain ⟨rfl, rfl⟩ : AV.own e t xs = a' ∧ s1 = s' := by simpa using h
          have ht := hR.tk n
          rw [hn] at ht
          obtain ⟨g, cells, t1, t2, t3, t4, t5, t6⟩ := ht
          have hg := give_pass (P := At p) E (.tok n) p true rfl
          obtain ⟨E2, k1, k2, k3, k4⟩ := solid_rep p false t rows E s (gone_rep hR (.tok n) (.hand p true)) hg.later t4 h1
          have hg2 : E2.own g = .hand p true := k2.keep (by
            exact if_pos t2) (hand_ne p true)
          refine ⟨E2, k1, hg.trans (k2.mono fun _ _ hh => hh.1), ?_⟩
          have hy : y = .slice (some ⟨g, 0, none⟩) rows.length rows.length := hr.1.trans t1
          subst hy
          show t.kd.R e W 0 (fun k => Hand p (E2.own k)) _ xs
          refine ⟨fun k hk => ?_, cells.toList, ?_, ?_⟩
          · have : g = k := by simpa [Value.ownBlock] using hk
            subst this
            exact ⟨_, hg2⟩
          · have hcs : cells.toList.length = xs.length * t.kd.sz := by rw [k4.1, kd_sz]
            have h2 : W.ownsRow 0 e t.kd.sz (.slice (some ⟨g, 0, none⟩) rows.length rows.length) xs.length cells.toList := by
              refine ⟨hcs, .inr ⟨g, rows.length, cells, by rw [k3], Nat.zero_le _, t3, by omega, by simp only [maxLen]; omega, by rw [← Array.length_toList, hcs, k3], ?_⟩⟩
              rw [← hcs, List.take_length]
            exact h2
          · rw [kd_sz]
            refine k4.imp_ fun z c hz => t.kd.M_mono (fun k hk => ⟨⟨_, hk⟩, fun he => ?_⟩) hz
            have : k = g := by simpa [Value.ownBlock] using he
            rw [this, hg2] at hk
            cases hk
      | _ => exact go (by simpa only [St.take1, hn] using h)
  | _ => exact go h
def From (p0 n p : Nat) (_ : Bool) : Prop := p0 ≤ p ∧ p < p0 + n
theorem takes_rep : ∀ (l : List AV) (p : Nat) {l' : List AV} {m : List Value} {E : Env} {s s' : St} (E0 : Env) (s0 : St), Rep E s act W → Later E0 E → All2 (Rep1 E0 s0 W) l m → s.takes l = some (l', s') →
    ∃ E', Rep E' s' act W ∧ Pass (From p l.length) E E' ∧ AllT E' W Hand p l' m
  | [], p, l', [], E, s, s', E0, s0, hR, hP, hr, h => by
    obtain ⟨rfl, rfl⟩ : [] = l' ∧ s = s' := by simpa [St.takes] using h
    exact ⟨E, hR, Pass.refl _ _, trivial⟩
  | a :: l, p, l', y :: m, E, s, s', E0, s0, hR, hP, hr, h => by
    simp only [St.takes] at h
    cases h1 : s.take1 a with
    | none => rw [h1] at h; cases h
    | some r1 =>
      obtain ⟨a', s1⟩ := r1
      rw [h1] at h
      dsimp only at h
      cases h2 : s1.takes l with
      | none => rw [h2] at h; cases h
      | some r2 =>
        obtain ⟨l2, s2⟩ := r2
        rw [h2] at h
        obtain ⟨rfl, rfl⟩ : a' :: l2 = l' ∧ s2 = s' := by simpa using h
        obtain ⟨E1, g1, g2, g3⟩ := take1_rep hR p (later_rep hP hr.1 ⟨_, h1⟩) h1
        obtain ⟨E2, k1, k2, k3⟩ := takes_rep l (p + 1) E0 s0 g1 (hP.trans g2.later) hr.2 h2
        refine ⟨E2, k1, (g2.mono fun q _ hq => ?_).trans (k2.mono fun q _ hq => ?_), k2.repT (hands_ne p) g3, k3⟩
        · have : q = p := hq
          exact ⟨by omega, by rw [List.length_cons]; omega⟩
        · exact ⟨by have := hq.1; omega, by rw [List.length_cons]; have := hq.2; omega⟩
def Env.ren (E : Env) (f : Owner → Owner) : Env := { E with own := fun k => f (E.own k) }
def OnlyHands (f : Owner → Owner) : Prop := ∀ o, (∀ p b, o ≠ .hand p b) → f o = o
theorem ren_move {f : Owner → Owner} (hf : OnlyHands f) (E : Env) (W : World) : Move (fun x => ∃ p b, x = .hand p b) E W (E.ren f) W :=
  ⟨fun k _ hn => ⟨hf _ fun p b h => hn ⟨p, b, h⟩, rfl⟩, ⟨[], by simp [Env.ren]⟩, rfl⟩
theorem ren_rep {f : Owner → Owner} (hf : OnlyHands f) (hR : Rep E s act W) : Rep (E.ren f) s act W := by
  have hm := ren_move hf E W
  have hb : ∀ q : Root, ¬ ∃ p b, q.owner = .hand p b := fun q ⟨p, b, h⟩ => hand_ne p b q h.symm
  refine hR.go (φ := id) hm (by simp) (fun a y h => hm.rep1 (by simp) (fun q _ => ⟨hb q, fun y hy => ⟨?_, fun _ _ _ h => h⟩⟩) h) (map_none (fun _ => rfl) _).symm (fun n => .inl ⟨?_, by simp, rfl⟩) (fun j cs h => .inl ⟨h, by simp, by simp⟩) hR.ln (fun k hk => ?_)
  · cases q <;> exact hy
  · cases s.toks n with
    | lit e t rows => show AV.lit e t rows = AV.lit e t (mapR id rows); rw [mapR_id (f := id) fun _ => rfl]
    | _ => rfl
  · show f (E.own k) = .free
    rw [hR.new k hk]
    exact hf _ (by simp)
theorem ren_repS {f : Owner → Owner} (hf : OnlyHands f) {a : AV} {y : Value} (h : RepS E W a y) : RepS (E.ren f) W a y := (ren_move hf E W).repS (by simp) h
theorem ren_repT {f : Owner → Owner} (hf : OnlyHands f) {O O' : Owner → Prop} (hO : ∀ x, O x → O' (f x)) {a : AV} {y : Value} (h : RepT E W O a y) : RepT (E.ren f) W O' a y := by
  cases a with
  | own e t xs => exact R_mono h fun k hk => hO _ hk
  | fn g l m => obtain ⟨fs, cs, h1, h2, h3⟩ := h; exact ⟨fs, cs, h1, h2.imp fun _ _ _ => ren_repS hf, h3.imp fun _ _ _ => ren_repS hf⟩
  | v x => exact h
  | sl m e t xs => exact ren_repS hf (a := .sl m e t xs) h
  | ptr j off => exact ren_repS (W := W) hf (a := .ptr j off) h
  | _ => exact h.elim
end
end Go.Proofs.YtbakkcdanoopgaaGreatDoor.Ev
set_option linter.unusedVariables false
set_option linter.unusedSimpArgs false
namespace Go.Proofs.YtbakkcdanoopgaaGreatDoor.Ev
open Go Go.RowKit Go.Proofs.YtbakkcdanoopgaaGreatDoorW.PrintWords Go.Proofs.YtbakkcdanoopgaaGreatDoorW.PrintMore Kd
def Less (s s' : St) : Prop := ∀ (r : Root) (e : Nat) (t : Ty) (xs : List t.den), s'.root r = .own e t xs → s.root r = .own e t xs
theorem Less.refl (s : St) : Less s s := fun _ _ _ _ h => h
theorem Less.trans {s s1 s2 : St} (h : Less s s1) (h' : Less s1 s2) : Less s s2 := fun r e t xs hr => h r e t xs (h' r e t xs hr)
theorem inLit_own' {φ : AV → AV} {a : AV} {e : Nat} {t : Ty} {xs : List t.den} (h : a.inLit φ = .own e t xs) : a = .own e t xs := by
  cases a with
  | lit _ _ _ => cases h
  | _ => exact h
theorem gone_less (s : St) (q : Root) : Less s (s.gone q) := by
  intro r e t xs h
  cases q with
  | tok n =>
    cases r with
    | cell j c => exact h
    | tok m =>
      have h1 : (tokSet s.toks n .junk m).inLit (AV.kill1 (Root.beq (.tok n))) = .own e t xs := h
      have h2 := inLit_own' h1
      by_cases hm : m = n
      · subst hm; rw [tokSet_self] at h2; cases h2
      · rw [tokSet_ne _ _ hm] at h2; exact h2
  | cell j c =>
    cases r with
    | tok m => exact inLit_own' h
    | cell j' c' =>
      have h1 : getT (getB (setB s.boxes j (setT (getB s.boxes j) c .junk)) j') c' = .own e t xs := h
      show getT (getB s.boxes j') c' = _
      rw [getB_setB] at h1
      split at h1
      · rename_i hj
        rw [getT_setT] at h1
        split at h1
        · cases h1
        · rw [hj.1]; exact h1
      · exact h1
theorem take0_less {s s' : St} {a a' : AV} (h : s.take0 a = some (a', s')) : Less s s' := by
  unfold St.take0 at h
  split at h
  · split at h
    · obtain ⟨-, rfl⟩ : _ ∧ _ := by simpa using h
      exact gone_less _ _
    · cases h
  all_goals first
    | cases h; done
    | (obtain ⟨-, rfl⟩ : _ ∧ _ := by simpa using h
       exact Less.refl _)
theorem take0s_less : ∀ {l l' : List AV} {s s' : St}, s.take0s l = some (l', s') → Less s s'
  | [], l', s, s', h => by
    obtain ⟨-, rfl⟩ : [] = l' ∧ s = s' := by simpa [St.take0s] using h
    exact Less.refl _
  | a :: l, l', s, s', h => by
    simp only [St.take0s] at h
    split at h
    · rename_i h1
      split at h
      · rename_i h2
        obtain ⟨-, rfl⟩ : _ ∧ _ := by simpa using h
        exact (take0_less h1).trans (take0s_less h2)
      · cases h
    · cases h
theorem solid_less (t : Ty) : ∀ {rows : List (List AV)} {xs : List t.den} {s s' : St}, St.solid t rows s = some (xs, s') → Less s s'
  | [], xs, s, s', h => by
    obtain ⟨-, rfl⟩ : [] = xs ∧ s = s' := by simpa [St.solid] using h
    exact Less.refl _
  | row :: rows, xs, s, s', h => by
    simp only [St.solid] at h
    split at h
    · rename_i h1
      split at h
      · split at h
        · split at h
          · rename_i h2
            obtain ⟨-, rfl⟩ : _ ∧ _ := by simpa using h
            exact (take0s_less h1).trans (solid_less t h2)
          · cases h
        · cases h
      · cases h
    · cases h
theorem take1_less {s s' : St} {a a' : AV} (h : s.take1 a = some (a', s')) : Less s s' := by
  unfold St.take1 at h
  split at h
  · split at h
    · split at h
      · rename_i h1
        obtain ⟨-, rfl⟩ : _ ∧ _ := by simpa using h
        exact fun r e t xs hr => gone_less s (.tok _) r e t xs (solid_less _ h1 r e t xs hr)
      · cases h
    · exact take0_less h
  · exact take0_less h
theorem takes_less : ∀ {l l' : List AV} {s s' : St}, s.takes l = some (l', s') → Less s s'
  | [], l', s, s', h => by
    obtain ⟨-, rfl⟩ : [] = l' ∧ s = s' := by simpa [St.takes] using h
    exact Less.refl _
  | a :: l, l', s, s', h => by
    simp only [St.takes] at h
    split at h
    · rename_i h1
      split at h
      · rename_i h2
        obtain ⟨-, rfl⟩ : _ ∧ _ := by simpa using h
        exact (take1_less h1).trans (takes_less h2)
      · cases h
    · cases h
end Go.Proofs.YtbakkcdanoopgaaGreatDoor.Ev
set_option linter.unusedVariables false
set_option linter.unusedSimpArgs false
namespace Go.Proofs.YtbakkcdanoopgaaGreatDoor.Ev
open Go Go.RowKit Go.Proofs.YtbakkcdanoopgaaGreatDoorW.PrintWords Go.Proofs.YtbakkcdanoopgaaGreatDoorW.PrintMore Kd
section
variable {P : Program} {o : Oper} {E E' : Env} {s s' : St} {act : Act} {W W' : World} {ρ : Type} {C : Ctx} {r : ρ}
theorem fitNil_get : ∀ (z cs : List AV), (fitNil z cs).length = cs.length ∧ ∀ (i : Nat) (a : AV), (fitNil z cs)[i]? = some a → ∃ b, cs[i]? = some b ∧ (a = b ∨ (b = .v (.slice none 0 0) ∧ ∃ e t, a = .own e t []))
  | [], cs => ⟨by simp [fitNil], fun i a h => ⟨a, by simpa [fitNil] using h, .inl rfl⟩⟩
  | x :: z, [] => ⟨by unfold fitNil; split <;> simp_all, fun i a h => by
      have : fitNil (x :: z) [] = [] := by unfold fitNil; split <;> simp_all
      rw [this] at h; simp at h⟩
  | x :: z, c :: cs => by
    obtain ⟨h1, h2⟩ := fitNil_get z cs
    unfold fitNil
    split
    · rename_i he hc
      simp only [List.cons.injEq] at he hc
      obtain ⟨-, rfl⟩ := he
      obtain ⟨rfl, rfl⟩ := hc
      refine ⟨by simp [h1], fun i a h => ?_⟩
      cases i with
      | zero =>
        simp only [List.getElem?_cons_zero, Option.some.injEq] at h
        exact ⟨_, rfl, .inr ⟨rfl, _, _, h.symm⟩⟩
      | succ i => exact h2 i a (by simpa using h)
    · rename_i he hc
      simp only [List.cons.injEq] at he hc
      obtain ⟨-, rfl⟩ := he
      obtain ⟨rfl, rfl⟩ := hc
      refine ⟨by simp [h1], fun i a h => ?_⟩
      cases i with
      | zero => exact ⟨a, by simpa using h, .inl rfl⟩
      | succ i => exact h2 i a (by simpa using h)
    · rename_i he; cases he
    · rename_i he _; cases he
def toCells (j off : Nat) : Owner → Owner
  | .hand p _ => .cell j (off + p)
  | o => o
theorem toCells_only (j off : Nat) : OnlyHands (toCells j off) := fun o h => by
  cases o <;> first | rfl | exact absurd rfl (h _ _)
def toRoot (q : Root) : Owner → Owner
  | .hand _ _ => q.owner
  | o => o
theorem toRoot_only (q : Root) : OnlyHands (toRoot q) := fun o h => by
  cases o <;> first | rfl | exact absurd rfl (h _ _)
theorem repC_of_T {O : Owner → Prop} {q : Owner} (hO : ∀ x, O x → x = q) {l : List AV} (hb : boxOk l = true) {i : Nat} {a : AV} (hi : l[i]? = some a) {y : Value} (h : RepT E W O a y) : RepC E W q a y := by
  have hb1 : boxOk [a] = true := by
    have : ∀ (l : List AV), boxOk l = true → ∀ a, a ∈ l → boxOk [a] = true := by
      intro l
      induction l with
      | nil => intro _ a ha; simp at ha
      | cons x l ih =>
        intro hx a ha
        have hxl : boxOk [x] = true ∧ boxOk l = true := by
          cases x with
          | sl m e t xs => cases m <;> first | exact ⟨rfl, hx⟩ | cases hx
          | _ => first | exact ⟨rfl, hx⟩ | cases hx
        rcases List.mem_cons.mp ha with rfl | ha
        · exact hxl.1
        · exact ih hxl.2 a ha
    exact this l hb a (List.mem_of_getElem? hi)
  cases a with
  | own e t xs => exact R_mono h fun k hk => hO _ hk
  | sl m e t xs => exact h
  | v x => exact h
  | ptr j off => exact h
  | _ => cases hb1
theorem pass_after {Pp : Nat → Bool → Prop} (h : Pass Pp E E') (hf : ∀ k, k < W.heap.size → (E.own k = .free ∨ E.own k = .hid) → W'.heap[k]? = W.heap[k]?) {f : Owner → Owner} (hO : OnlyHands f) (h1 : W'.os = W.os) (h2 : W'.tape = W.tape) (h3 : W'.output = W.output) (h4 : W.heap.size ≤ W'.heap.size) : After E W (E'.ren f) W' where
  os := h1
  tape := h2
  output := h3
  size := h4
  free := fun k hk hfr => ⟨by
    show f (E'.own k) = E.own k
    rw [h.keep (o := E.own k) rfl (still_ne hfr)]
    exact hO _ (still_hand hfr), hf k hk hfr⟩
  adr := ⟨[], by show E'.adr = _; rw [h.adr, List.append_nil]⟩
  par := fun n _ => by show E'.rv n = _; rw [h.rv]
  kv := h.kv
theorem run_store {t : Nat} {x p : Operand} {u : Value} {g off : Nat} {cells : Array Value} {ty : Nat} (ho : o.op = .store t p x) (hp : act.eval p = .pointer (some ⟨g, off, none⟩)) (hx : act.eval x = u) (hg : W.heap[g]? = some (.cells cells ty (0, 0)))
    (ht : (P.info? t).map (·.size) = some u.cells.size) (hfit : off + u.cells.size ≤ cells.size) (h1 : ∀ q ∈ u.cells.toList, q.oneCell' = true) :
    (execOp act.eval o).run P W = .ok .skip (W.setCells g off u.cells.toList) := by
  have h := run_store_run (P := P) t u u.cells.toList hg rfl (by simpa using ht) (by simpa using hfit) h1
  simp only [execOp, ho, hp, hx, Sem.run_bind, h, Result.andThen_ok, Sem.run_pure]
theorem Sim.step {a : AV} {y : Value} (hrun : (execOp act.eval o).run P W = .ok (.value y) W') (hR : Rep E' s' act W') (hv : RepV E' s' W' a y) (hA : After E W E' W') : Sim P o E s act W a s' := by
  intro K Q h
  unfold Oper.wp
  rw [hrun]
  exact h E' y W' hR hv hA
theorem Sim.skip (hrun : (execOp act.eval o).run P W = .ok .skip W') (hR : Rep E' s' act W') (hA : After E W E' W') : Sim P o E s act W .junk s' := by
  intro K Q h
  unfold Oper.wp
  rw [hrun]
  exact h E' undef W' hR trivial hA
theorem info_size (hT : TabOK P C.D) {t : Nat} (h : 0 < C.size t) : (P.info? t).map (·.size) = some (C.size t) := by
  obtain ⟨i, d, z, hi⟩ := hT.get (look_size h hT)
  rw [hi.info, Option.map_some, hi.size]
  rfl
def StayC (E : Env) (W W' : World) (x : Cl) : Prop := ∀ g, E.adr[x.j]? = some g → ∀ i, i < x.n → ∀ v, W.cell? ⟨g, x.off + i, none⟩ = some v → W'.cell? ⟨g, x.off + i, none⟩ = some v
theorem box_own (hR : Rep E s act W) {j g : Nat} (h : E.adr[j]? = some g) : E.own g = .box j := by
  have hlt : j < s.boxes.length := by rw [hR.ln]; exact (List.getElem?_eq_some_iff.mp h).1
  obtain ⟨g', ty, cells, b1, b2, -⟩ := hR.bx j _ (List.getElem?_eq_getElem hlt)
  obtain rfl : g' = g := Option.some.inj (b1.symm.trans h)
  exact b2
theorem store_box (hT : TabOK P C.D) (hR : Rep E s act W) {t : Nat} {p x : Operand} {j off : Nat} {cs : List AV} {s1 : St} (ho : o.op = .store t p x) (hp : s.ev p = .ptr j off) (ht : s.takes (s.ev x).cs = some (cs, s1))
    (hn : lenEq cs (C.size t) = true) (hk : known (s.ev x).cs = true) (hb : boxOk cs = true) (hcut : lenEq (cut (getB s1.boxes j) off (C.size t)) (C.size t) = true) (hpos : 0 < C.size t) :
    Sim P o E s act W .junk (({ s1 with boxes := setB s1.boxes j (paste (getB s1.boxes j) off (fitNil (C.zero t) cs)) }).kill (fun r => match r with | .cell j' c => Nat.beq j' j && (Nat.ble off c && Nat.blt c (off + C.size t)) | _ => false)) ∧
    ∃ W1, (execOp act.eval o).run P W = .ok .skip W1 ∧ ∀ x : Cl, (x.j ≠ j ∨ x.off + x.n ≤ off ∨ off + C.size t ≤ x.off) → StayC E W W1 x := by
  have hcells := cells_rep hR (rep_ev hR x) hk
  obtain ⟨E1, R1, P1, A1⟩ := takes_rep (s.ev x).cs 0 E s hR (Later.refl _) hcells ht
  obtain ⟨g, hg, hpy⟩ := ev_ptr hR hp
  have hlen := (lenEq_iff _ _).mp hn
  have hvl : (act.eval x).cells.toList.length = C.size t := by rw [← A1.len, hlen]
  have hvs : (act.eval x).cells.size = C.size t := by rw [← hvl, Array.length_toList]
  -- the box
  have hbx : ∃ bs, s1.boxes[j]? = some bs ∧ off + C.size t ≤ bs.length := by
    have h0 := (lenEq_iff _ _).mp hcut
    rw [cut_eq, List.length_take, List.length_drop] at h0
    cases hj : s1.boxes[j]? with
    | none =>
      have e : getB s1.boxes j = [] := by rw [getB_eq, hj]; rfl
      rw [e] at h0
      simp at h0
      omega
    | some bs =>
      rw [getB_of hj] at h0
      exact ⟨bs, rfl, by omega⟩
  obtain ⟨bs, hj, hfit⟩ := hbx
  rw [getB_of hj]
  obtain ⟨g', ty, cells, b1, b2, b3, b4, b5⟩ := R1.bx j bs hj
  have hgg : g' = g := Option.some.inj (b1.symm.trans (by rw [P1.adr]; exact hg))
  subst hgg
  obtain ⟨cells', c1, c2, c3⟩ := setCells_row (act.eval x).cells.toList off W cells b3 (by rw [hvl]; omega)
  obtain ⟨w1, w2, w3, w4⟩ := setCells_same g' (act.eval x).cells.toList off W
  have hrun := run_store ho hpy rfl b3 (by rw [hvs]; exact info_size hT hpos) (by rw [hvs]; omega) (all_one hR hcells hk)
  have hO := toCells_only j off
  generalize hW' : W.setCells g' off (act.eval x).cells.toList = W' at *
  have hfar : ∀ k, k ≠ g' → W'.heap[k]? = W.heap[k]? := fun k hk => by rw [← hW']; exact setCells_far _ _ k hk
  -- the move
  have hm : Move (fun x => (∃ p b, x = .hand p b) ∨ x = .box j) E1 W (E1.ren (toCells j off)) W' :=
    ⟨fun k _ hn => ⟨hO _ fun p b h => hn (.inl ⟨p, b, h⟩), hfar k fun h => hn (.inr (by rw [h]; exact b2))⟩, ⟨[], by simp [Env.ren]⟩, rfl⟩
  have hf : ¬ ((∃ p b, Owner.free = .hand p b) ∨ Owner.free = .box j) := by simp
  have hq : ∀ q : Root, ¬ ((∃ p b, q.owner = .hand p b) ∨ q.owner = .box j) := fun q => by cases q <;> simp [Root.owner]
  have hcell : ∀ c, ¬ (off ≤ c ∧ c < off + C.size t) → cells'[c]? = cells[c]? := fun c hc => by
    rw [← Array.getElem?_toList, ← Array.getElem?_toList, c3, List.append_assoc]
    by_cases h1 : c < off
    · rw [List.getElem?_append_left (by simp; omega), List.getElem?_take_of_lt h1]
    · rw [List.getElem?_append_right (by simp; omega), List.getElem?_append_right (by simp; omega), List.getElem?_drop]
      congr 1
      simp
      omega
  have hcellin : ∀ i, i < C.size t → cells'[off + i]? = (act.eval x).cells.toList[i]? := fun i hi => by
    rw [← Array.getElem?_toList, c3, List.append_assoc, List.getElem?_append_right (by simp; omega), List.getElem?_append_left (by simp; omega)]
    congr 1
    simp
    omega
  have hroot : ∀ j' c, ¬ (j' = j ∧ off ≤ c ∧ c < off + C.size t) → getT (getB (setB s1.boxes j (paste bs off (fitNil (C.zero t) cs))) j') c = getT (getB s1.boxes j') c := fun j' c hc => by
    rw [getB_setB]
    split
    · rename_i h
      obtain ⟨q1, q2⟩ := paste_get bs off (fitNil (C.zero t) cs) (by rw [(fitNil_get _ _).1, hlen]; exact hfit)
      rw [getT_eq, q2, (fitNil_get _ _).1, hlen, if_neg (fun h2 => hc ⟨h.1, h2⟩), h.1, getB_of hj, getT_eq]
    · rfl
  refine ⟨Sim.skip (E' := E1.ren (toCells j off)) hrun ?_ (pass_after P1 (fun k _ hfr => hfar k fun h => ?_) hO w1 w2 w3 (Nat.le_of_eq w4.symm)), W', hrun, fun x hx g2 hg2 i hi v hv => ?_⟩
  · refine R1.go (φ := AV.kill1 _) hm hf (fun a y h => kill1_rep hm hf (fun q hg => ⟨hq q, fun y hy => ?_⟩) (fun q y h => hdr_slice R1 h) h) rfl (fun n => .inl ⟨rfl, by simp, rfl⟩) (fun i bs' hi => ?_) ?_ (fun k hk => ?_)
    · cases q with
      | tok m => exact ⟨⟨hy.1, fun h => hy.2 (inLit_junk h)⟩, fun e t xs h => inLit_own h⟩
      | cell j' c =>
        have hc : ¬ (j' = j ∧ off ≤ c ∧ c < off + C.size t) := fun ⟨h1, h2, h3⟩ => by
          have : (Nat.beq j' j && (Nat.ble off c && Nat.blt c (off + C.size t))) = true := by
            rw [h1, show Nat.beq j j = true from Nat.beq_refl j, show Nat.ble off c = true from Nat.ble_eq_true_of_le h2, show Nat.blt c (off + C.size t) = true from Nat.blt_eq.mpr h3]
            rfl
          have hg' : (Nat.beq j' j && (Nat.ble off c && Nat.blt c (off + C.size t))) = false := hg
          rw [this] at hg'
          cases hg'
        have hro := hroot j' c hc
        obtain ⟨b, ty', cl, h1, h2, h3, e, t', xs, h4⟩ := hy
        have h1' : E1.adr[j']? = some b := h1
        obtain ⟨bs', h5, h6⟩ := box_of_cell (s := s1) (j := j') (c := c) h4 (by simp)
        obtain ⟨b', ty2, cl2, d1, d2, d3, d4, d5⟩ := R1.bx j' bs' h5
        obtain rfl : b' = b := Option.some.inj (d1.symm.trans h1')
        refine ⟨?_, fun _ _ _ h => hro.trans h⟩
        by_cases hjj : j' = j
        · subst hjj
          obtain rfl : b' = g' := Option.some.inj (d1.symm.trans b1)
          have e0 : cl = cells ∧ ty' = ty := by
            rw [b3] at h2
            simp only [Option.some.injEq, Obj.cells.injEq] at h2
            exact ⟨h2.1.symm, h2.2.1.symm⟩
          exact ⟨b', ty, cells', h1, c1, by rw [hcell c fun h => hc ⟨rfl, h⟩, ← e0.1]; exact h3, e, t', xs, hro.trans h4⟩
        · have hne : b' ≠ g' := fun h => by
            rw [h, b2] at d2
            injection d2 with d2
            exact hjj d2.symm
          exact ⟨b', ty', cl, h1, by rw [hfar _ hne]; exact h2, h3, e, t', xs, hro.trans h4⟩
    · have hi' : (setB s1.boxes j (paste bs off (fitNil (C.zero t) cs)))[i]? = some bs' := hi
      rw [setB_eq, List.getElem?_set] at hi'
      by_cases hij : j = i
      · subst hij
        rw [if_pos rfl, if_pos (List.getElem?_eq_some_iff.mp hj).1] at hi'
        obtain rfl := Option.some.inj hi'
        obtain ⟨f1, f2⟩ := fitNil_get (C.zero t) cs
        obtain ⟨q1, q2⟩ := paste_get bs off (fitNil (C.zero t) cs) (by rw [f1, hlen]; exact hfit)
        refine .inr ⟨g', ty, cells', by show E1.adr[j]? = _; exact b1, ?_, c1, by rw [c2, q1]; exact b4, fun c a y ha hy => ?_⟩
        · show toCells j off (E1.own g') = _
          rw [b2]
          rfl
        · rw [q2, f1, hlen] at ha
          by_cases hin : off ≤ c ∧ c < off + C.size t
          · rw [if_pos hin] at ha
            obtain ⟨b, hb1, hb2⟩ := f2 _ _ ha
            have hcc := hcellin (c - off) (by omega)
            rw [show off + (c - off) = c by omega, hy] at hcc
            have hT1 := A1.get (c - off) b y hb1 hcc.symm
            rw [Nat.zero_add] at hT1
            have hT2 : RepT (E1.ren (toCells j off)) W (fun x => x = .cell j c) b y := ren_repT hO (fun x ⟨bb, hx⟩ => by
              rw [hx]
              show Owner.cell j (off + (c - off)) = _
              rw [show off + (c - off) = c by omega]) hT1
            have hC : RepC (E1.ren (toCells j off)) W (.cell j c) b y := repC_of_T (fun x hx => hx) hb hb1 hT2
            have hC2 : RepC (E1.ren (toCells j off)) W' (.cell j c) b y := by
              refine Move.repC (bad := fun x => x = .box j) (E := E1.ren (toCells j off)) (W := W) ⟨fun k _ hn => ⟨rfl, hfar k fun h => hn ?_⟩, ⟨[], by simp⟩, rfl⟩ (by simp) (by simp) hC
              show toCells j off (E1.own k) = _
              rw [h, b2]
              rfl
            rcases hb2 with rfl | ⟨rfl, e, t', rfl⟩
            · exact hC2
            · have : y = .slice none 0 0 := hC2
              subst this
              exact R_nil _ _ _ _ _
          · rw [if_neg hin] at ha
            rw [hcell c hin] at hy
            exact hm.repC hf (by simp) (b5 c a y ha hy)
      · rw [if_neg hij] at hi'
        exact .inl ⟨hi', by simp; exact fun h => hij h.symm, by simp⟩
    · show (setB s1.boxes j _).length = _
      rw [setB_eq, List.length_set]
      exact R1.ln
    · rw [w4] at hk
      show toCells j off (E1.own k) = .free
      rw [R1.new k hk]
      rfl
  · rw [h] at hfr
    have := P1.keep (o := E.own g') rfl (still_ne hfr)
    rw [← this, b2] at hfr
    rcases hfr with hfr | hfr <;> cases hfr
  · by_cases hgg : g2 = g'
    · subst hgg
      have e1 := box_own hR hg2
      rw [box_own hR hg] at e1
      injection e1 with e1
      rw [blk_cell' b3] at hv
      rw [blk_cell' c1, hcell _ fun h => ?_]
      · exact hv
      · rcases hx with hx | hx | hx
        · exact hx e1.symm
        · omega
        · omega
    · exact cell_same (hfar g2 hgg) hv
theorem set_rep {bad : Owner → Prop} (hR : Rep E s act W) {q : Root} {e : Nat} {ty : Ty} {xs : List ty.den} (hq : s.root q = .own e ty xs) (xs' : List ty.den) (hlen : xs'.length = xs.length)
    (hf : ¬ bad .free) (hb : ∀ p : Root, p ≠ q → ¬ bad p.owner) (hbox : ∀ j, ¬ bad (.box j)) (hm : Move bad E W E' W') (hrv : E'.rv = E.rv) (hadr : E'.adr = E.adr)
    (hnew : ∀ y, Hdr E s W q y → ty.kd.R e W' 0 (fun k => E'.own k = q.owner) y xs') (hfree : ∀ k, W'.heap.size ≤ k → E'.own k = .free) :
    Rep E' ((s.setRoot q (.own e ty xs')).fade (Root.beq q)) act W' := by
  have hroot : ∀ p : Root, p ≠ q → ∀ e2 t2 xs2, s.root p = .own e2 t2 xs2 → ((s.setRoot q (.own e ty xs')).fade (Root.beq q)).root p = .own e2 t2 xs2 := fun p hp e1 t1 xs1 h => by
    cases q with
    | tok n =>
      cases p with
      | tok m =>
        have hmn : m ≠ n := fun h => hp (by rw [h])
        show (tokSet s.toks n _ m).inLit _ = _
        rw [tokSet_ne _ _ hmn]
        exact inLit_own h
      | cell j c => exact h
    | cell j c =>
      cases p with
      | tok m => exact inLit_own h
      | cell j' c' =>
        show getT (getB (setB s.boxes j (setT (getB s.boxes j) c _)) j') c' = _
        rw [getB_setB]
        split
        · rename_i hj
          rw [getT_setT, if_neg fun h2 => hp (by rw [hj.1, h2.1]), ← hj.1]
          exact h
        · exact h
  have hself : ((s.setRoot q (.own e ty xs')).fade (Root.beq q)).root q = .own e ty xs' := by
    cases q with
    | tok n =>
      show (tokSet s.toks n _ n).inLit _ = _
      rw [tokSet_self]
      rfl
    | cell j c =>
      obtain ⟨cs, h1, h2⟩ := box_of_cell (s := s) (j := j) (c := c) hq (by simp)
      show getT (getB (setB s.boxes j (setT (getB s.boxes j) c _)) j) c = _
      rw [getB_setB, if_pos ⟨rfl, (List.getElem?_eq_some_iff.mp h1).1⟩, getT_setT, if_pos ⟨rfl, by rw [getB_of h1]; exact (List.getElem?_eq_some_iff.mp h2).1⟩]
  have hhdr : ∀ (p : Root) y, Hdr E s W p y → Hdr E' ((s.setRoot q (.own e ty xs')).fade (Root.beq q)) W' p y := fun p y hy => by
    cases p with
    | tok m =>
      refine ⟨by rw [hrv]; exact hy.1, ?_⟩
      by_cases h : Root.tok m = q
      · subst h
        intro h2
        have h3 : ((s.setRoot (.tok m) (.own e ty xs')).fade (Root.beq (.tok m))).toks m = .own e ty xs' := hself
        rw [h3] at h2
        cases h2
      · intro h2
        refine hy.2 ?_
        cases q with
        | tok n =>
          have hmn : m ≠ n := fun hh => h (by rw [hh])
          have h2' : (tokSet s.toks n _ m).inLit _ = .junk := h2
          rw [tokSet_ne _ _ hmn] at h2'
          exact inLit_junk h2'
        | cell j c => exact inLit_junk h2
    | cell j c =>
      obtain ⟨b, ty', cl, h1, h2, h3, e1, t1, xs1, h4⟩ := hy
      obtain ⟨bs', h5, h6⟩ := box_of_cell (s := s) (j := j) (c := c) h4 (by simp)
      obtain ⟨b', ty2, cl2, d1, d2, d3, d4, d5⟩ := hR.bx j bs' h5
      obtain rfl : b' = b := Option.some.inj (d1.symm.trans h1)
      have h7 := (hm.blk b' (Array.getElem?_eq_some_iff.mp h2).1 (by rw [d2]; exact hbox j)).2
      refine ⟨b', ty', cl, by rw [hadr]; exact h1, h7.trans h2, h3, ?_⟩
      by_cases h : Root.cell j c = q
      · subst h; exact ⟨_, _, _, hself⟩
      · exact ⟨_, _, _, hroot _ h _ _ _ h4⟩
  have hne : ∀ p : Root, Root.beq q p = false → p ≠ q := fun p hp h => by
    have h1 : Root.beq q p = true := Root.beq_iff.mpr h.symm
    rw [h1] at hp; cases hp
  have h1 : ∀ a y, Rep1 E s W a y → Rep1 E' ((s.setRoot q (.own e ty xs')).fade (Root.beq q)) W' (AV.fade1 (Root.beq q) a) y := fun a y hr => by
    have old : ∀ {a : AV}, Rep1 E s W a y → (∀ p, a.leans p → p ≠ q) → Rep1 E' ((s.setRoot q (.own e ty xs')).fade (Root.beq q)) W' a y := fun {a} hr hl =>
      hm.rep1 hf (fun p hp => ⟨hb p (hl p hp), fun y hy => ⟨hhdr p y hy, hroot p (hl p hp)⟩⟩) hr
    cases a with
    | rt p => exact hhdr p y hr
    | sl m e1 t1 xs1 =>
      cases m with
      | none => exact old hr fun p h => h.elim
      | some p =>
        have e0 : AV.fade1 (Root.beq q) (.sl (some p) e1 t1 xs1) = (match Root.beq q p with | true => .dead | false => .sl (some p) e1 t1 xs1) := rfl
        rw [e0]
        cases hg : Root.beq q p with
        | true => obtain ⟨A, c, h1, _⟩ := hr; exact ⟨A, _, c, h1⟩
        | false => exact old (a := .sl (some p) _ t1 xs1) hr fun p' h => by obtain rfl : p = p' := h; exact hne p hg
    | fp m t1 x off =>
      cases m with
      | none => exact old hr fun p h => h.elim
      | some p =>
        have e0 : AV.fade1 (Root.beq q) (.fp (some p) t1 x off) = (match Root.beq q p with | true => .deadp | false => .fp (some p) t1 x off) := rfl
        rw [e0]
        cases hg : Root.beq q p with
        | true => obtain ⟨ad, h1, _⟩ := hr; exact ⟨_, h1⟩
        | false => exact old (a := .fp (some p) t1 x off) hr fun p' h => by obtain rfl : p = p' := h; exact hne p hg
    | ep p i off =>
      by_cases hp : p = q
      · subst hp
        obtain ⟨b, n, c, e1, t1, xs1, g1, g2, g3, g4, g5⟩ := hr
        rw [hq] at g2
        injection g2 with g2 g6 g7
        subst g6
        have g7' : xs = xs1 := eq_of_heq g7
        subst g7'
        exact ⟨b, n, c, e, ty, xs', hhdr _ _ g1, hself, g3, by rw [hlen]; exact g4, g5⟩
      · exact old hr fun p' h => by obtain rfl : p = p' := h; exact hp
    | junk => exact trivial
    | dead => exact hr
    | deadp => exact hr
    | v x => exact hr
    | ptr j off => exact old hr fun p h => h.elim
    | fn f l m => exact old hr fun p h => h.elim
    | _ => exact hr.elim
  have hqt : ∀ n, q = .tok n → Tok E' ((s.setRoot q (.own e ty xs')).fade (Root.beq q)) W' n (.own e ty xs') := fun n h => by
    subst h
    have h2 : s.toks n = .own e ty xs := hq
    show ty.kd.R e W' 0 (fun k => E'.own k = .tok n) (E'.rv n) xs'
    rw [hrv]
    exact hnew _ ⟨rfl, by rw [h2]; simp⟩
  cases q with
  | tok n =>
    refine hR.go (φ := AV.fade1 (Root.beq (.tok n))) hm hf h1 rfl (fun m => ?_) (fun j cs hj => .inl ⟨hj, hbox j, fun c => hb (.cell j c) (by simp)⟩) (by rw [hadr]; exact hR.ln) hfree
    by_cases hmn : m = n
    · subst hmn
      refine .inr ?_
      have e0 : ((s.setRoot (.tok m) (.own e ty xs')).fade (Root.beq (.tok m))).toks m = .own e ty xs' := hself
      rw [e0]
      exact hqt m rfl
    · refine .inl ⟨?_, hb (.tok m) (fun h => hmn (by injection h)), by rw [hrv]⟩
      show (tokSet s.toks n _ m).inLit _ = _
      rw [tokSet_ne _ _ hmn]
  | cell j c =>
    obtain ⟨cs, h2, h3⟩ := box_of_cell (s := s) (j := j) (c := c) hq (by simp)
    refine hR.go (φ := AV.fade1 (Root.beq (.cell j c))) hm hf h1 rfl (fun m => .inl ⟨rfl, hb (.tok m) (by simp), by rw [hrv]⟩) (fun i cs' hi => ?_) (by rw [hadr, ← hR.ln]; show (setB s.boxes j _).length = _; rw [setB_eq, List.length_set]) hfree
    have hi' : (setB s.boxes j (setT (getB s.boxes j) c (.own e ty xs')))[i]? = some cs' := hi
    rw [setB_eq, List.getElem?_set] at hi'
    by_cases hij : j = i
    · subst hij
      rw [if_pos rfl, if_pos (List.getElem?_eq_some_iff.mp h2).1] at hi'
      obtain rfl := Option.some.inj hi'
      obtain ⟨b, ty', cl, d1, d2, d3, d4, d5⟩ := hR.bx j cs h2
      obtain ⟨k1, k2⟩ := hm.blk b (Array.getElem?_eq_some_iff.mp d3).1 (by rw [d2]; exact hbox j)
      rw [getB_of h2, setT_eq]
      refine .inr ⟨b, ty', cl, by rw [hadr]; exact d1, k1.trans d2, k2.trans d3, by rw [List.length_set]; exact d4, fun i a y ha hy => ?_⟩
      rw [List.getElem?_set] at ha
      by_cases hci : c = i
      · subst hci
        rw [if_pos rfl, if_pos (List.getElem?_eq_some_iff.mp h3).1] at ha
        obtain rfl := Option.some.inj ha
        exact hnew y ⟨b, ty', cl, d1, d3, hy, _, _, _, hq⟩
      · rw [if_neg hci] at ha
        exact hm.repC hf (hb (.cell j i) (fun h => hci (by injection h with _ h; exact h.symm))) (d5 i a y ha hy)
    · rw [if_neg hij] at hi'
      exact .inl ⟨hi', hbox i, fun c' => hb (.cell i c') (fun h => hij (by injection h with h; exact h.symm))⟩
theorem store_elem (hT : TabOK P C.D) (hR : Rep E s act W) {t : Nat} {p x : Operand} {q : Root} {i : Int} {off e : Nat} {ty : Ty} {xs : List ty.den} {y : ty.den} {cs : List AV} {s1 : St} (ho : o.op = .store t p x) (hp : s.ev p = .ep q i off) (ht : s.takes (s.ev x).cs = some (cs, s1))
    (hn : lenEq cs (C.size t) = true) (hk : known (s.ev x).cs = true) (hq : s1.root q = .own e ty xs) (hpos : 0 < C.size t) (hy : ty.puts cs (elem ty xs i) off = some y) :
    Sim P o E s act W .junk ((s1.setRoot q (.own e ty (xs.set i.toNat y))).fade (Root.beq q)) ∧
    ∃ W1, (execOp act.eval o).run P W = .ok .skip W1 ∧ ∀ x : Cl, StayC E W W1 x := by
  have hcells := cells_rep hR (rep_ev hR x) hk
  obtain ⟨E1, R1, P1, A1⟩ := takes_rep (s.ev x).cs 0 E s hR (Later.refl _) hcells ht
  have hpv := rep_ev hR p
  rw [hp] at hpv
  obtain ⟨g, n, c, e1, t1, xs1, hd, hr1, hi0, hi1, hpy⟩ := hpv
  have hq0 := takes_less ht q e ty xs hq
  rw [hq0] at hr1
  injection hr1 with g2 g6 g7
  subst g6
  have g7' : xs = xs1 := eq_of_heq g7
  subst g7'
  have hlen := (lenEq_iff _ _).mp hn
  have hvl : (act.eval x).cells.toList.length = C.size t := by rw [← A1.len, hlen]
  have hvs : (act.eval x).cells.size = C.size t := by rw [← hvl, Array.length_toList]
  have hd1 : Hdr E1 s1 W q (.slice (some ⟨g, 0, none⟩) n c) := by
    cases q with
    | tok m => exact ⟨by rw [P1.rv]; exact hd.1, by have : s1.toks m = .own e ty xs := hq; rw [this]; simp⟩
    | cell j c' =>
      obtain ⟨b, ty', cl, h1, h2, h3, _⟩ := hd
      exact ⟨b, ty', cl, by rw [P1.adr]; exact h1, h2, h3, _, _, _, hq⟩
  have hown := hdr_own R1 hd1 hq
  have hO := toRoot_only q
  have hnx : xs.length = n := F_len (R_F hown)
  have howng : E1.own g = q.owner := hown.1 g (by simp [Value.ownBlock])
  obtain ⟨c0, hc0, hM0, hcc, _⟩ := R_elem hown ty.zero i hi0 (by omega)
  rw [kd_sz] at hc0
  have hfit : ∃ cells ty', W.heap[g]? = some (.cells cells ty' (0, 0)) ∧ (i.toNat * ty.size + ty.size ≤ cells.size) := by
    obtain ⟨_, inner, ho1, hr⟩ := hown
    rcases ho1.2 with ⟨hv, _⟩ | ⟨g', cap', cur, hv, hb, hh, hnc, hcm, hcs, _⟩
    · cases hv
    · injection hv with ha _ hc
      injection ha with ha
      injection ha with hg'
      subst hg'
      refine ⟨cur, e, hh, ?_⟩
      rw [hcs, kd_sz, ← Nat.succ_mul]
      exact Nat.mul_le_mul_right _ (by omega)
  obtain ⟨cells, ty', hcl, hfit⟩ := hfit
  obtain ⟨hsz, hM⟩ := puts_M (o := Hand) (ok := fun k => (E1.own k = q.owner ∧ k ≠ g) ∨ ∃ p b, E1.own k = .hand p b) (fun p k ⟨b, hk⟩ => .inr ⟨p, b, hk⟩) ty cs (act.eval x).cells.toList 0 (elem ty xs i) y off c0 hc0 (ty.kd.M_mono (fun k hk => .inl hk) hM0) hy A1
  have hsz' : off + (act.eval x).cells.toList.length ≤ ty.size := by
    rcases hsz with rfl | h
    · simp at hlen; omega
    · exact h
  have hown' : ty.kd.R e W 0 (fun k => E1.own k = q.owner ∨ ∃ p b, E1.own k = .hand p b) (.slice (some ⟨g, 0, none⟩) n c) xs := R_mono hown fun k hk => .inl hk
  obtain ⟨hnew, hgr⟩ := R_seg (okp := fun k => (E1.own k = q.owner ∧ k ≠ g) ∨ ∃ p b, E1.own k = .hand p b) hown' i hi0 (by omega) (c := c0) (seg := (act.eval x).cells.toList) (j := off) (by rw [kd_sz]; exact hc0) hcc (by rw [kd_sz]; exact hsz') hM (fun k hk => by
    rcases hk with hk | ⟨p, b, hk⟩
    · exact ⟨.inl hk.1, hk.2⟩
    · exact ⟨.inr ⟨p, b, hk⟩, fun h => by rw [h, howng] at hk; cases q <;> cases hk⟩)
  rw [kd_sz] at hnew hgr
  have hrun := run_store ho hpy rfl hcl (by rw [hvs]; exact info_size hT hpos) (by rw [hvs]; rw [hvl] at hsz'; omega) (all_one hR hcells hk)
  obtain ⟨w1, w2, w3, w4⟩ := setCells_same g (act.eval x).cells.toList (i.toNat * ty.size + off) W
  have hfar : ∀ k, k ≠ g → (W.setCells g (i.toNat * ty.size + off) (act.eval x).cells.toList).heap[k]? = W.heap[k]? := fun k hk => setCells_far _ _ k hk
  generalize hW' : W.setCells g (i.toNat * ty.size + off) (act.eval x).cells.toList = W' at *
  have hm : Move (fun x => (∃ p b, x = .hand p b) ∨ x = q.owner) E1 W (E1.ren (toRoot q)) W' :=
    ⟨fun k _ hn => ⟨hO _ fun p b h => hn (.inl ⟨p, b, h⟩), hfar k fun h => hn (.inr (by rw [h]; exact howng))⟩, ⟨[], by simp [Env.ren]⟩, rfl⟩
  refine ⟨Sim.skip (E' := E1.ren (toRoot q)) hrun ?_ (pass_after P1 (fun k _ hfr => hfar k fun h => ?_) hO w1 w2 w3 (Nat.le_of_eq w4.symm)), W', hrun, fun x g2 hg2 i hi v hv => cell_same (hfar g2 fun h => ?_) hv⟩
  · refine set_rep R1 hq _ (by rw [List.length_set]) (fun h => ?_) (fun p hp h => ?_) (fun j h => ?_) hm rfl rfl (fun y' hy' => ?_) (fun k hk => ?_)
    · rcases h with ⟨p, b, h⟩ | h
      · cases h
      · exact free_ne q h
    · rcases h with ⟨p', b, h⟩ | h
      · exact hand_ne p' b p h.symm
      · exact hp (Root.owner_inj h)
    · rcases h with ⟨p', b, h⟩ | h
      · cases h
      · cases q <;> cases h
    · have : y' = .slice (some ⟨g, 0, none⟩) n c := by
        cases q with
        | tok m => exact hy'.1.trans hd1.1.symm
        | cell j c' =>
          obtain ⟨b, tb, cl, h1, h2, h3, _⟩ := hy'
          obtain ⟨b', tb', cl', h1', h2', h3', _⟩ := hd1
          obtain rfl : b = b' := Option.some.inj (h1.symm.trans h1')
          rw [h2'] at h2
          simp only [Option.some.injEq, Obj.cells.injEq] at h2
          obtain ⟨rfl, _⟩ := h2
          exact Option.some.inj (h3.symm.trans h3')
      subst this
      refine R_mono hnew fun k hk => ?_
      show toRoot q (E1.own k) = _
      rcases hk with hk | ⟨p, b, hk⟩
      · rw [hk]; cases q <;> rfl
      · rw [hk]; rfl
    · rw [w4] at hk
      show toRoot q (E1.own k) = .free
      rw [R1.new k hk]
      rfl
  · rw [h] at hfr
    have := P1.keep (o := E.own g) rfl (still_ne hfr)
    rw [howng] at this
    exact absurd this.symm (still_ne hfr q)
  · subst h
    have e1 := box_own hR hg2
    have := P1.keep (o := E.own g2) rfl (fun q => by rw [e1]; cases q <;> simp [Root.owner])
    rw [howng, e1] at this
    cases q <;> cases this
theorem sim_store (hT : TabOK P C.D) (hR : Rep E s act W) {t : Nat} {p x : Operand} {κ : St → Option ρ} (ho : o.op = .store t p x) (h : evStore C s t (s.ev p) (s.ev x) κ = some r) : ∃ s', κ s' = some r ∧ Sim P o E s act W .junk s' ∧ ∃ W1, (execOp act.eval o).run P W = .ok .skip W1 ∧ ∀ x : Cl, stayB C t (s.ev p) x = true → StayC E W W1 x := by
  unfold evStore at h
  split at h
  · rename_i cs s1 ht
    split at h
    · rename_i hh
      simp only [Bool.and_eq_true] at hh
      obtain ⟨h1, h2, h3, h4⟩ := hh
      have hpos := Nat.blt_eq.mp h4
      split at h
      · rename_i j off hp
        dsimp only at h
        split at h
        · rename_i h5
          obtain ⟨g1, W1, g2, g3⟩ := store_box hT hR ho hp ht h1 h2 h3 h5 hpos
          refine ⟨_, h, g1, W1, g2, fun x hx => g3 x ?_⟩
          rw [hp] at hx
          simp only [stayB, Bool.or_eq_true, Bool.not_eq_true'] at hx
          rcases hx with hx | hx | hx
          · exact .inl fun h => by rw [h, show Nat.beq j j = true from Nat.beq_refl j] at hx; cases hx
          · exact .inr (.inl (Nat.le_of_ble_eq_true hx))
          · exact .inr (.inr (Nat.le_of_ble_eq_true hx))
        · cases h
      · rename_i q i off hp
        split at h
        · rename_i e ty xs hq
          split at h
          · rename_i y hy
            obtain ⟨g1, W1, g2, g3⟩ := store_elem hT hR ho hp ht h1 h2 hq hpos hy
            exact ⟨_, h, g1, W1, g2, fun x _ => g3 x⟩
          · cases h
        · cases h
      · cases h
    · cases h
  · cases h
theorem fresh_rep {bad : Owner → Prop} (hR : Rep E s act W) {d : Nat} {a : AV} (hd : s.toks d = .junk) (ha : a ≠ .junk) (hm : Move bad E W E' W') (hf : ¬ bad .free) (hb : ∀ q : Root, ¬ bad q.owner) (hbox : ∀ j, ¬ bad (.box j))
    (hrv : ∀ n, n ≠ d → E'.rv n = E.rv n) (hadr : E'.adr = E.adr) (htok : Tok E' { s with toks := tokSet s.toks d a } W' d a) (hfree : ∀ k, W'.heap.size ≤ k → E'.own k = .free) :
    Rep E' { s with toks := tokSet s.toks d a } act W' ∧ RepV E' { s with toks := tokSet s.toks d a } W' (.rt (.tok d)) (E'.rv d) := by
  refine ⟨hR.go (φ := id) hm hf (fun b y h => hm.rep1 hf (fun q _ => ⟨hb q, fun y hy => ?_⟩) h) (map_none (fun _ => rfl) _).symm (fun n => ?_) (fun j cs h => .inl ⟨h, hbox j, fun c => hb (.cell j c)⟩) (by rw [hadr]; exact hR.ln) hfree, rfl, ?_⟩
  · cases q with
    | tok n =>
      have hn : n ≠ d := fun h => hy.2 (by rw [h]; exact hd)
      have e0 : (⟨s.tmps, tokSet s.toks d a, s.boxes⟩ : St).toks n = s.toks n := tokSet_ne _ _ hn
      exact ⟨⟨by rw [hrv n hn]; exact hy.1, by rw [e0]; exact hy.2⟩, fun _ _ _ h => e0.trans h⟩
    | cell j c =>
      obtain ⟨b, ty', cl, h1, h2, h3, e1, t1, xs1, h4⟩ := hy
      obtain ⟨bs', h5, h6⟩ := box_of_cell (s := s) (j := j) (c := c) h4 (by simp)
      obtain ⟨b', ty2, cl2, d1, d2, d3, d4, d5⟩ := hR.bx j bs' h5
      obtain rfl : b' = b := Option.some.inj (d1.symm.trans h1)
      have h7 := (hm.blk b' (Array.getElem?_eq_some_iff.mp h2).1 (by rw [d2]; exact hbox j)).2
      exact ⟨⟨b', ty', cl, by rw [hadr]; exact h1, h7.trans h2, h3, e1, t1, xs1, h4⟩, fun _ _ _ h => h⟩
  · by_cases hn : n = d
    · subst hn
      refine .inr ?_
      have e0 : (⟨s.tmps, tokSet s.toks n a, s.boxes⟩ : St).toks n = a := tokSet_self _ _ _
      rw [e0]
      exact htok
    · refine .inl ⟨?_, hb (.tok n), hrv n hn⟩
      show tokSet s.toks d a n = _
      rw [tokSet_ne _ _ hn]
      cases s.toks n with
      | lit e t rows => show AV.lit e t rows = AV.lit e t (mapR id rows); rw [mapR_id (f := id) fun _ => rfl]
      | _ => rfl
  · show tokSet s.toks d a d ≠ .junk
    rw [tokSet_self]
    exact ha
theorem fresh_some {d : Nat} {a : AV} {κ : AV → St → Option ρ} (h : s.fresh d a κ = some r) : d < 500000 ∧ s.toks d = .junk ∧ κ (.rt (.tok d)) { s with toks := tokSet s.toks d a } = some r := by
  unfold St.fresh at h
  split at h
  · rename_i hd
    split at h
    · rename_i hj
      exact ⟨Nat.blt_eq.mp hd, hj, h⟩
    · cases h
  · cases h
def SimE (P : Program) (o : Oper) (E : Env) (s : St) (act : Act) (W : World) (a' : AV) (s' : St) : Prop :=
  ∀ (K : Act → World → Prop) (Q : Exit → Act → World → Prop), (∀ E' y' W', Rep E' s' act W' → RepV E' s' W' a' y' → After E W E' W' → Ext W W' → K (act.put o.dst y') W') → Oper.wp P o act W K Q
theorem SimE.step {a : AV} {y : Value} (hrun : (execOp act.eval o).run P W = .ok (.value y) W') (hR : Rep E' s' act W') (hv : RepV E' s' W' a y) (hA : After E W E' W') (hx : Ext W W') : SimE P o E s act W a s' := by
  intro K Q h
  unfold Oper.wp
  rw [hrun]
  exact h E' y W' hR hv hA hx
def Env.newTok (E : Env) (lo hi d : Nat) (v : Value) : Env := { E with own := fun k => if lo ≤ k ∧ k < hi then .tok d else E.own k, rv := fun n => if n = d then v else E.rv n }
theorem newTok_move {d : Nat} {v : Value} (hb : Below W.heap.size W W') : Move (fun _ => False) E W (E.newTok W.heap.size W'.heap.size d v) W' :=
  ⟨fun k hk _ => ⟨if_neg (by omega), hb.block k hk⟩, ⟨[], by simp [Env.newTok]⟩, rfl⟩
theorem newTok_after {d : Nat} {v : Value} (hd : d < 500000) (hb : Below W.heap.size W W') : After E W (E.newTok W.heap.size W'.heap.size d v) W' where
  os := hb.os
  tape := hb.tape
  output := hb.output
  size := hb.size
  free := fun k hk h => ⟨if_neg (by omega), hb.block k hk⟩
  adr := ⟨[], by simp [Env.newTok]⟩
  par := fun n hn => by
    show (if n = d then v else E.rv n) = _
    rw [if_neg (by omega)]
  kv := rfl
theorem sim_fresh {d : Nat} {e : Nat} {ty : Ty} {xs : List ty.den} {v : Value} (hR : Rep E s act W) (hd : d < 500000) (hj : s.toks d = .junk) (hrun : (execOp act.eval o).run P W = .ok (.value v) W') (hb : Below W.heap.size W W')
    (hv : ty.kd.R e W' 0 (fun k => W.heap.size ≤ k) v xs) : SimE P o E s act W (.rt (.tok d)) { s with toks := tokSet s.toks d (.own e ty xs) } := by
  obtain ⟨h1, h2⟩ := fresh_rep hR (a := .own e ty xs) hj (by simp) (newTok_move (d := d) (v := v) hb) (fun h => h) (fun _ h => h) (fun _ h => h) (fun n hn => if_neg hn) rfl (by
    show ty.kd.R e W' 0 (fun k => (if W.heap.size ≤ k ∧ k < W'.heap.size then Owner.tok d else E.own k) = .tok d) (if d = d then v else E.rv d) xs
    rw [if_pos rfl]
    exact R_mono (R_bound hv) fun k hk => if_pos ⟨hk.1, hk.2.2.1⟩) (fun k hk => (if_neg (by omega)).trans (hR.new k (Nat.le_trans hb.size hk)))
  refine SimE.step hrun h1 ?_ (newTok_after hd hb) hb.block
  have e0 : (E.newTok W.heap.size W'.heap.size d v).rv d = v := if_pos rfl
  rw [e0] at h2
  exact h2
theorem lit_R {α : Type} {d : Kd α} {e : Nat} {xs : List α} {inner : List Value} {okp : Nat → Prop} (hrep : Reps (d.M W 0 okp) d.sz xs inner) (hok : ∀ k, ¬ okp k) (hm : xs.length ≤ 9223372036854775807) :
    d.R e (W.alloc (.cells inner.toArray e)) 0 (fun k => W.heap.size ≤ k) (.slice (some ⟨W.heap.size, 0, none⟩) xs.length xs.length) xs := by
  refine ⟨fun k hk => ?_, OwnRow.lit W 0 (hrep.imp_ fun p c hp => d.M_mono (fun k hk => absurd hk.1 (hok k)) (M_below (d.M_bound hp) (below_alloc (Below.refl _ _) _))) (Nat.zero_le _) hm⟩
  have : W.heap.size = k := by simpa [Value.ownBlock] using hk
  omega
theorem flat_M : ∀ (t : Ty), t.flat = true → ∀ {W W' : World} {ok : Nat → Prop} {x : t.den} {c : List Value}, t.kd.K W x c → t.kd.M W' 0 ok x c
  | .int k, _, _, _, _, x, c, h => h
  | .bool, _, _, _, _, x, c, h => h
  | .str, _, _, _, _, x, c, h => h
  | .sl _ _, h, _, _, _, _, _, _ => by cases h
  | .pr a b, h, _, _, _, x, c, hk => by
    have h' : (a.flat && b.flat) = true := h
    simp only [Bool.and_eq_true] at h'
    obtain ⟨c0, c1, rfl, h0, h1⟩ := hk
    exact ⟨c0, c1, rfl, flat_M a h'.1 h0, flat_M b h'.2 h1⟩
theorem info_of (W : World) (hT : TabOK P C.D) {e : Nat} {u : Ty} (h : C.ty e = some u) : ∃ z : Value, (P.info? e).map (fun i => (i.zero, i.size, i.bytes)) = some (some z, u.kd.sz, C.bytes e) ∧ z.cells.size = u.kd.sz ∧ z.cells.toList = u.zeroV ∧ 0 < C.bytes e ∧ C.size e = u.size := by
  obtain ⟨i, d, z, hi, h1, h2⟩ := ty_some hT h
  have hz : z.cells.toList.length = u.kd.sz := by rw [h2]; exact u.kd.K_len (u.kd.K_of_M (M_zero W 0 (fun _ => True) u))
  refine ⟨z, ?_, by simpa using hz, h2, hi.bpos, h1.symm⟩
  rw [hi.info, Option.map_some, hi.zero, hi.size, hi.bytes, kd_sz, h1]
  rfl
theorem reps_take {α : Type} {R : α → List Value → Prop} {size n : Nat} {ps : List α} {cs : List Value} (h : Reps R size ps cs) (hn : n ≤ ps.length) : Reps R size (ps.take n) (cs.take (n * size)) := by
  refine ⟨?_, fun j p hj => ?_⟩
  · rw [List.length_take, List.length_take, h.1, Nat.min_eq_left hn, Nat.min_eq_left (Nat.mul_le_mul_right _ hn)]
  · have hjn : j < n := by
      have := (List.getElem?_eq_some_iff.mp hj).1
      rw [List.length_take] at this
      omega
    rw [List.getElem?_take_of_lt hjn] at hj
    have h2 := h.2 j p hj
    have h3 : j * size + size ≤ n * size := by rw [← Nat.succ_mul]; exact Nat.mul_le_mul_right _ hjn
    rw [List.drop_take, List.take_take, Nat.min_eq_left (by omega)]
    exact h2
theorem sim_make (hT : TabOK P C.D) (hR : Rep E s act W) {t : Nat} {l c : Operand} {d : Nat} {κ : AV → St → Option ρ} (ho : o.op = .makeSlice t l c) (h : evMake C s t (s.ev l) (s.ev c) d κ = some r) : ∃ a' s', κ a' s' = some r ∧ SimE P o E s act W a' s' := by
  unfold evMake at h
  split at h
  · rename_i e n n' he hl hl'
    split at h
    · rename_i ty hty
      split at h
      · rename_i h0
        split at h
        · rename_i hnm
          split at h
          · rename_i hle
            obtain ⟨hd, hj, h2⟩ := fresh_some h
            obtain ⟨m, rfl⟩ := Int.eq_ofNat_of_zero_le h0
            obtain ⟨k, rfl⟩ := Int.eq_ofNat_of_zero_le (Int.le_trans h0 hnm)
            simp only [Int.toNat_natCast] at hle h2
            obtain ⟨z, hinfo, hz, hzl, hb0, hsz⟩ := info_of W hT hty
            obtain ⟨i0, hi, hzz⟩ := Option.map_eq_some_iff.1 hinfo
            simp only [Prod.mk.injEq] at hzz
            obtain ⟨hz0, hz1, hz2⟩ := hzz
            have hm : k ≤ 281474976710656 := Nat.le_trans (Nat.le_mul_of_pos_right _ hb0) hle
            have hmk : m ≤ k := by omega
            have hy := ev_v hR hl
            have hy' := ev_v hR hl'
            have hr := run_make (P := P) W t e i0 z (elem_some hT he) hi hz0 .i64 .i64 (m : Int) (k : Int) (by omega) hnm
              (by
                have h3 : ((i0.bytes * k : Nat) : Int) ≤ 281474976710656 := by rw [hz2, Nat.mul_comm]; omega
                rwa [Int.natCast_mul] at h3) (by omega)
            simp only [Int.toNat_natCast] at hr
            rw [hz1] at hr
            refine ⟨_, _, h2, sim_fresh (v := .slice (some ⟨W.heap.size, 0, none⟩) m k) hR hd hj (W' := W.alloc (.cells (madeCells z.cells (k * ty.kd.sz)) e)) ?_ (below_alloc (Below.refl _ _) _) ?_⟩
            · simp [execOp, ho, hy, hy', hr]
            · have h5 := reps_made (R := ty.kd.M (W.alloc (.cells (madeCells z.cells (k * ty.kd.sz)) e)) 0 fun _ => False) hz (by rw [kd_sz]; exact size_pos ty) (by rw [hzl]; exact M_zero _ 0 _ ty) k
              have h6 := reps_take h5 (n := m) (by simpa using hmk)
              have e0 : (List.replicate k ty.zero).take m = List.replicate m ty.zero := by rw [List.take_replicate, Nat.min_eq_left hmk]
              rw [e0] at h6
              refine ⟨fun q hq => ?_, _, ?_, h6.imp_ fun p c hp => ty.kd.M_mono (fun q hq => hq.elim) hp⟩
              · have : W.heap.size = q := by simpa [Value.ownBlock] using hq
                omega
              · refine ⟨by rw [h6.1], .inr ⟨W.heap.size, k, _, by simp, Nat.zero_le _, heap_alloc_new W _, by simpa using hmk, by simp only [maxLen]; omega, size_madeCells _ _, by simp⟩⟩
          · cases h
        · cases h
      · cases h
    · cases h
  · cases h
theorem zeros_form (D : List TI) : ∀ n, (∀ t a, a ∈ zeroOf D n t → (∃ x, a = .v x) ∨ ∃ e u, a = .own e u []) ∧ (∀ fs a, a ∈ zeroOfs D n fs → (∃ x, a = .v x) ∨ ∃ e u, a = .own e u [])
  | 0 => ⟨fun t a h => by simp [zeroOf] at h, fun fs a h => by simp [zeroOfs] at h⟩
  | n + 1 => by
    obtain ⟨ih1, ih2⟩ := zeros_form D n
    refine ⟨fun t a h => ?_, fun fs a h => ?_⟩
    · simp only [zeroOf] at h
      split at h
      · exact .inl ⟨_, List.mem_singleton.mp h⟩
      · exact .inl ⟨_, List.mem_singleton.mp h⟩
      · exact .inl ⟨_, List.mem_singleton.mp h⟩
      · split at h
        · exact .inr ⟨_, _, List.mem_singleton.mp h⟩
        · exact .inl ⟨_, List.mem_singleton.mp h⟩
      · exact ih2 _ _ h
      · exact .inl ⟨_, List.mem_singleton.mp h⟩
      · exact .inl ⟨_, List.mem_singleton.mp h⟩
      · exact .inl ⟨_, List.mem_singleton.mp h⟩
      · exact .inl ⟨_, List.mem_singleton.mp h⟩
      · simp at h
    · cases fs with
      | nil => simp [zeroOfs] at h
      | cons f fs =>
        simp only [zeroOfs] at h
        rcases List.mem_append.mp h with h | h
        · exact ih1 _ _ h
        · exact ih2 _ _ h
def Env.newBox (E : Env) (g : Nat) (f : Owner → Owner) (j : Nat) : Env := ⟨fun k => if k = g then .box j else f (E.own k), E.adr ++ [g], E.rv, E.kv⟩
theorem box_rep {f : Owner → Owner} (hO : OnlyHands f) (hR : Rep E s act W) {cs : List AV} {vs : Array Value} {t : Nat} (hl : vs.size = cs.length)
    (hc : ∀ (c : Nat) (a : AV) (y : Value), cs[c]? = some a → vs[c]? = some y → RepC (E.ren f) W (.cell s.boxes.length c) a y) :
    Rep (E.newBox W.heap.size f s.boxes.length) { s with boxes := s.boxes ++ [cs] } act (W.alloc (.cells vs t)) ∧ RepV (E.newBox W.heap.size f s.boxes.length) { s with boxes := s.boxes ++ [cs] } (W.alloc (.cells vs t)) (.ptr s.boxes.length 0) (.pointer (some ⟨W.heap.size, 0, none⟩)) := by
  have hbelow : Below W.heap.size W (W.alloc (.cells vs t)) := below_alloc (Below.refl _ _) _
  have hnb : (W.alloc (.cells vs t)).heap[W.heap.size]? = some (.cells vs t (0, 0)) := heap_alloc_new W _
  have hm : Move (fun x => ∃ p b, x = .hand p b) E W (E.newBox W.heap.size f s.boxes.length) (W.alloc (.cells vs t)) :=
    ⟨fun k hk hn => ⟨by
      show (if k = W.heap.size then _ else f (E.own k)) = _
      rw [if_neg (by omega)]
      exact hO _ fun p b h => hn ⟨p, b, h⟩, hbelow.block k hk⟩, ⟨[W.heap.size], rfl⟩, rfl⟩
  have hm2 : Move (fun _ => False) (E.ren f) W (E.newBox W.heap.size f s.boxes.length) (W.alloc (.cells vs t)) :=
    ⟨fun k hk _ => ⟨if_neg (by omega), hbelow.block k hk⟩, ⟨[W.heap.size], rfl⟩, rfl⟩
  have hadr : (E.newBox W.heap.size f s.boxes.length).adr[s.boxes.length]? = some W.heap.size := by
    show (E.adr ++ [W.heap.size])[s.boxes.length]? = _
    rw [hR.ln]
    simp
  have hb : ∀ q : Root, ¬ ∃ p b, q.owner = .hand p b := fun q ⟨p, b, h⟩ => hand_ne p b q h.symm
  refine ⟨hR.go (φ := id) hm (by simp) (fun b y h => hm.rep1 (by simp) (fun q _ => ⟨hb q, fun y hy => ?_⟩) h) (map_none (fun _ => rfl) _).symm (fun n => .inl ⟨?_, by simp, rfl⟩) (fun j bs h => ?_) ?_ (fun k hk => ?_), _, hadr, rfl⟩
  · cases q with
    | tok n => exact ⟨hy, fun _ _ _ h => h⟩
    | cell j c =>
      obtain ⟨b, ty', cl, h1, h2, h3, e1, t1, xs1, h4⟩ := hy
      have hr0 : ∀ {e t xs}, s.root (.cell j c) = .own e t xs → (⟨s.tmps, s.toks, s.boxes ++ [cs]⟩ : St).root (.cell j c) = .own e t xs := fun {e t xs} h => by
        obtain ⟨bs', h5, h6⟩ := box_of_cell (s := s) (j := j) (c := c) h (by simp)
        show getT (getB (s.boxes ++ [cs]) j) c = _
        rw [getB_eq, List.getElem?_append_left (List.getElem?_eq_some_iff.mp h5).1, h5, Option.getD_some, getT_of h6]
      exact ⟨⟨b, ty', cl, hm.getAdr h1, (hbelow.block b (Array.getElem?_eq_some_iff.mp h2).1).trans h2, h3, e1, t1, xs1, hr0 h4⟩, fun _ _ _ h => hr0 h⟩
  · show s.toks n = _
    cases s.toks n with
    | lit e t rows => show AV.lit e t rows = AV.lit e t (mapR id rows); rw [mapR_id (f := id) fun _ => rfl]
    | _ => rfl
  · have h' : (s.boxes ++ [cs])[j]? = some bs := h
    by_cases hj : j < s.boxes.length
    · rw [List.getElem?_append_left hj] at h'
      exact .inl ⟨h', by simp, by simp⟩
    · rw [List.getElem?_append_right (by omega)] at h'
      have hje : j = s.boxes.length := by
        have h1 := (List.getElem?_eq_some_iff.mp h').1
        rw [List.length_singleton] at h1
        omega
      subst hje
      rw [Nat.sub_self] at h'
      obtain rfl : cs = bs := Option.some.inj h'
      refine .inr ⟨_, t, vs, hadr, if_pos rfl, hnb, hl, fun c a y ha hy => ?_⟩
      exact hm2.repC (fun h => h) (fun h => h) (hc c a y ha hy)
  · show (s.boxes ++ [cs]).length = (E.adr ++ [W.heap.size]).length
    rw [List.length_append, List.length_append, hR.ln]
    rfl
  · have hk' : W.heap.size + 1 ≤ k := by
      have e0 : (W.alloc (.cells vs t)).heap.size = W.heap.size + 1 := Array.size_push _
      rw [e0] at hk
      exact hk
    show (if k = W.heap.size then Owner.box _ else f (E.own k)) = .free
    rw [if_neg (by omega), hR.new k (by omega)]
    exact hO _ (by simp)
theorem box_after {Pp : Nat → Bool → Prop} {E1 : Env} (h : Pass Pp E E1) {f : Owner → Owner} (hO : OnlyHands f) (j : Nat) (ob : Obj) : After E W (E1.newBox W.heap.size f j) (W.alloc ob) where
  os := rfl
  tape := rfl
  output := rfl
  size := (below_alloc (Below.refl _ W) ob).size
  free := fun k hk hfr => ⟨by
    show (if k = W.heap.size then _ else f (E1.own k)) = E.own k
    rw [if_neg (by omega), h.keep (o := E.own k) rfl (still_ne hfr)]
    exact hO _ (still_hand hfr), (below_alloc (Below.refl _ W) ob).block k hk⟩
  adr := ⟨[W.heap.size], by show E1.adr ++ _ = _; rw [h.adr]⟩
  par := fun n _ => by show E1.rv n = _; rw [h.rv]
  kv := h.kv
theorem sim_alloc (hT : TabOK P C.D) (hR : Rep E s act W) {t : Nat} (ho : o.op = .alloc t) (ht : 0 < C.size t) : SimE P o E s act W (.ptr s.boxes.length 0) { s with boxes := s.boxes ++ [C.zero t] } := by
  obtain ⟨i, d, z, hi⟩ := hT.get (look_size ht hT)
  have hrun : (execOp act.eval o).run P W = .ok (.value (.pointer (some ⟨W.heap.size, 0, none⟩))) (W.alloc (.cells z.cells t)) := by
    simp [execOp, ho, Instr.alloc, zeroValue, typeInfo, hi.info, hi.zero, newVar, newRow, newObj, Sem.run_bind, Sem.run_pure]
    rfl
  obtain ⟨h1, h2⟩ := box_rep (f := id) (fun _ _ => rfl) hR (cs := C.zero t) (vs := z.cells) (t := t) (by rw [← Array.length_toList, hi.zeros, List.length_map]; rfl) (fun c a y ha hy => by
    have hy' : z.cells.toList[c]? = some y := by simpa using hy
    have ha' : (zeroOf C.D 16 t)[c]? = some a := ha
    rw [hi.zeros, List.getElem?_map, ha', Option.map_some] at hy'
    obtain rfl := Option.some.inj hy'
    rcases (zeros_form C.D 16).1 t a (List.mem_of_getElem? ha') with ⟨x, rfl⟩ | ⟨e, u, rfl⟩
    · exact rfl
    · exact R_nil _ _ _ _ _)
  exact SimE.step hrun h1 h2 (box_after (Pass.refl (fun _ _ => True) E) (fun _ _ => rfl) _ _) (below_alloc (Below.refl _ W) _).block
theorem sim_box (hT : TabOK P C.D) (hR : Rep E s act W) {t : Nat} {x : Operand} {κ : AV → St → Option ρ} (ho : o.op = .box t x) (h : evBox C s t (s.ev x) κ = some r) : ∃ a' s', κ a' s' = some r ∧ Sim P o E s act W a' s' := by
  unfold evBox at h
  split at h
  · rename_i cs s1 ht
    split at h
    · rename_i hh
      simp only [Bool.and_eq_true] at hh
      obtain ⟨hn, hk, hb, _⟩ := hh
      refine ⟨_, _, h, ?_⟩
      have hcells := cells_rep hR (rep_ev hR x) hk
      obtain ⟨E1, R1, P1, A1⟩ := takes_rep (s.ev x).cs 0 E s hR (Later.refl _) hcells ht
      have hrun : (execOp act.eval o).run P W = .ok (.value (.pointer (some ⟨W.heap.size, 0, none⟩))) (W.alloc (.cells (act.eval x).cells t)) := by
        simp [execOp, ho, Instr.box, newVar, newRow, newObj, Sem.run_bind, Sem.run_pure]
        rfl
      obtain ⟨f1, f2⟩ := fitNil_get (C.zero t) cs
      have hO := toCells_only s1.boxes.length 0
      obtain ⟨h1, h2⟩ := box_rep hO R1 (cs := fitNil (C.zero t) cs) (vs := (act.eval x).cells) (t := t) (by rw [f1, A1.len, Array.length_toList]) (fun c a y ha hy => by
        obtain ⟨b, hb1, hb2⟩ := f2 _ _ ha
        have hT1 := A1.get c b y hb1 (by simpa using hy)
        rw [Nat.zero_add] at hT1
        have hT2 : RepT (E1.ren (toCells s1.boxes.length 0)) W (fun x => x = .cell s1.boxes.length c) b y := ren_repT hO (fun x ⟨bb, hx⟩ => by
          rw [hx]
          show Owner.cell s1.boxes.length (0 + c) = _
          rw [Nat.zero_add]) hT1
        have hC : RepC (E1.ren (toCells s1.boxes.length 0)) W (.cell s1.boxes.length c) b y := repC_of_T (fun x hx => hx) hb hb1 hT2
        rcases hb2 with rfl | ⟨rfl, e, t', rfl⟩
        · exact hC
        · have : y = .slice none 0 0 := hC
          subst this
          exact R_nil _ _ _ _ _)
      exact Sim.step hrun h1 h2 (box_after P1 hO _ _)
    · cases h
  · cases h
theorem foldl_list (off : Nat) (xs : List Value) (m : Array Value) (h : off + xs.length ≤ m.size) : ((xs.zipIdx 0).foldl (fun cs (p : Value × Nat) => cs.setIfInBounds (off + p.2) p.1) m).toList = m.toList.take off ++ xs ++ m.toList.drop (off + xs.length) := by
  obtain ⟨h1, h2⟩ := foldl_get off xs 0 m (by omega)
  apply List.ext_getElem?
  intro i
  rw [Array.getElem?_toList, h2, List.append_assoc]
  simp only [Nat.add_zero]
  by_cases h3 : i < off
  · rw [if_neg (by omega), List.getElem?_append_left (by simp; omega), List.getElem?_take_of_lt h3]
    simp
  · by_cases h4 : i < off + xs.length
    · rw [if_pos (by omega), List.getElem?_append_right (by simp; omega), List.getElem?_append_left (by simp; omega)]
      congr 1
      simp
      omega
    · rw [if_neg (by omega), List.getElem?_append_right (by simp; omega), List.getElem?_append_right (by simp; omega), List.getElem?_drop]
      simp only [List.length_take, Array.length_toList]
      rw [Nat.min_eq_left (by omega), ← Array.getElem?_toList]
      congr 1
      omega
theorem litRows_rep (hR : Rep E s act W) (size : Nat) : ∀ (parts : List (Nat × Operand)) (i : Nat) {rows : List (List AV)}, litRows s size parts i = some rows → ∀ m : Array Value, m.size = (i + parts.length) * size →
    ∃ vs, Instr.fill (fun i => some (i * size, size)) m (parts.map fun x => (x.1, act.eval x.2)) = some vs ∧ (∃ l, vs.toList = m.toList.take (i * size) ++ l ∧ All2 (Rep1 E s W) rows.flatten l) ∧ (∀ row, row ∈ rows → row.length = size) ∧ rows.length = parts.length
  | [], i, rows, h, m, hm => by
    obtain rfl : [] = rows := Option.some.inj h
    refine ⟨m, rfl, ⟨[], ?_, trivial⟩, fun row h => by simp at h, rfl⟩
    rw [List.append_nil, List.take_of_length_le]
    rw [Array.length_toList, hm]
    simp
  | p :: parts, i, rows, h, m, hm => by
    simp only [litRows] at h
    split at h
    · rename_i hi
      have hi := Nat.eq_of_beq_eq_true hi
      split at h
      · rename_i hk
        simp only [Bool.and_eq_true] at hk
        split at h
        · rename_i l hl
          obtain rfl := Option.some.inj h
          have hlen := (lenEq_iff _ _).mp hk.1
          have hcs := cells_rep hR (rep_ev hR p.2) hk.2
          have hcl : (act.eval p.2).cells.toList.length = size := by rw [← hcs.len, hlen]
          have hcz : (act.eval p.2).cells.size = size := by rw [← hcl, Array.length_toList]
          have hfit : i * size + size ≤ m.size := by
            rw [hm, ← Nat.succ_mul]
            exact Nat.mul_le_mul_right _ (by rw [List.length_cons]; omega)
          have hfl := foldl_list (i * size) (act.eval p.2).cells.toList m (by rw [hcl]; exact hfit)
          have hfs : (((act.eval p.2).cells.toList.zipIdx 0).foldl (fun cs (x : Value × Nat) => cs.setIfInBounds (i * size + x.2) x.1) m).size = m.size := (foldl_get (i * size) (act.eval p.2).cells.toList 0 m (by rw [hcl]; omega)).1
          obtain ⟨vs, g1, ⟨l', g2, g3⟩, g4, g5⟩ := litRows_rep hR size parts (i + 1) hl _ (hfs.trans (by rw [hm, List.length_cons]; congr 1; omega))
          have hml : m.toList.length = m.size := Array.length_toList
          refine ⟨vs, ?_, ⟨(act.eval p.2).cells.toList ++ l', ?_, ?_⟩, fun row hrow => ?_, by rw [List.length_cons, List.length_cons, g5]⟩
          · rw [List.map_cons, Instr.fill]
            simp only
            rw [if_neg (by rw [hi, hcz]; simp; omega)]
            rw [← g1]
            congr 1
            rw [← Array.foldl_toList, hi]
            simp
          · rw [g2, hfl, ← List.append_assoc, Nat.succ_mul]
            congr 1
            rw [List.take_append_of_le_length (by rw [List.length_append, List.length_take, hcl, Array.length_toList]; omega), List.take_of_length_le (by rw [List.length_append, List.length_take, hcl, Array.length_toList]; omega)]
          · rw [List.flatten_cons]
            exact hcs.append g3
          · rcases List.mem_cons.mp hrow with rfl | hrow
            · exact hlen
            · exact g4 row hrow
        · cases h
      · cases h
    · cases h
theorem lit_run (hT : TabOK P C.D) (hR : Rep E s act W) {t len e : Nat} {ty : Ty} {parts : Array (Nat × Operand)} {rows : List (List AV)} (ho : o.op = .buildSlice t len parts) (he : C.elem t = some e) (hty : C.ty e = some ty) (hrows : litRows s (C.size e) parts.toList 0 = some rows)
    (hlen : parts.size = len) (hl1 : len ≤ 1000000) (hl2 : len * C.size e ≤ 16777216) (V : World) : ∃ vs, (execOp act.eval o).run P V = .ok (.value (.slice (some ⟨V.heap.size, 0, none⟩) len len)) (V.alloc (.cells vs e)) ∧ All2 (Rep1 E s W) rows.flatten vs.toList ∧ (∀ row, row ∈ rows → row.length = C.size e) ∧ rows.length = len := by
  obtain ⟨z, hinfo, hz, hzl, hb0, hsz⟩ := info_of W hT hty
  obtain ⟨i0, hi, hzz⟩ := Option.map_eq_some_iff.1 hinfo
  simp only [Prod.mk.injEq] at hzz
  obtain ⟨hz0, hz1, hz2⟩ := hzz
  have his : i0.size = C.size e := by rw [hz1, kd_sz, hsz]
  have hu := elem_some hT he
  have hsr : (sizeOf e).run P V = .ok (C.size e) V := by simp [sizeOf, typeInfo, hi, his, Sem.run_bind, Sem.run_pure]
  have hzr : (zeroValue e).run P V = .ok z V := by simp [zeroValue, typeInfo, hi, hz0, Sem.run_bind, Sem.run_pure]
  have hsize : ∀ zc : Array Value, ((Array.range (len * C.size e)).map (zc[· % zc.size]!)).size = (0 + parts.toList.length) * C.size e := fun zc => by
    rw [Array.size_map, Array.size_range, Nat.zero_add, Array.length_toList, hlen]
  by_cases h0 : len * C.size e = 0
  · obtain ⟨vs, g1, ⟨l, g2, g3⟩, g4, g5⟩ := litRows_rep hR (C.size e) parts.toList 0 hrows _ (hsize #[])
    refine ⟨vs, ?_, by rw [g2]; simpa using g3, g4, by rw [g5, Array.length_toList, hlen]⟩
    rw [Nat.zero_mul] at g2
    have hbs : (Instr.buildSlice t len (parts.map fun x => (x.1, act.eval x.2))).run P V = .ok (.slice (some ⟨V.heap.size, 0, none⟩) len len) (V.alloc (.cells vs e)) := by
      unfold Instr.buildSlice
      rw [Sem.run_bind, run_underlying hu, Result.andThen_ok]
      dsimp only
      rw [Sem.run_bind, hsr, Result.andThen_ok, if_neg (by omega), if_pos h0, Sem.run_bind, Sem.run_pure, Result.andThen_ok, Array.toList_map, g1]
      rfl
    simp only [execOp, ho, Sem.run_bind, hbs, Result.andThen_ok, Sem.run_pure]
  · obtain ⟨vs, g1, ⟨l, g2, g3⟩, g4, g5⟩ := litRows_rep hR (C.size e) parts.toList 0 hrows _ (hsize z.cells)
    refine ⟨vs, ?_, by rw [g2]; simpa using g3, g4, by rw [g5, Array.length_toList, hlen]⟩
    have hbs : (Instr.buildSlice t len (parts.map fun x => (x.1, act.eval x.2))).run P V = .ok (.slice (some ⟨V.heap.size, 0, none⟩) len len) (V.alloc (.cells vs e)) := by
      unfold Instr.buildSlice
      rw [Sem.run_bind, run_underlying hu, Result.andThen_ok]
      dsimp only
      rw [Sem.run_bind, hsr, Result.andThen_ok, if_neg (by omega), if_neg h0, Sem.run_bind, hzr, Result.andThen_ok, Sem.run_bind, Sem.run_pure, Result.andThen_ok, Array.toList_map, g1]
      rfl
    simp only [execOp, ho, Sem.run_bind, hbs, Result.andThen_ok, Sem.run_pure]
theorem sim_lit (hT : TabOK P C.D) (hR : Rep E s act W) {t len : Nat} {parts : Array (Nat × Operand)} {d : Nat} {κ : AV → St → Option ρ} (ho : o.op = .buildSlice t len parts) (h : evLit C s t len parts d κ = some r) : ∃ a' s', κ a' s' = some r ∧ SimE P o E s act W a' s' := by
  unfold evLit at h
  split at h
  · rename_i e he
    split at h
    · rename_i ty hty
      split at h
      · rename_i rows hrows
        split at h
        · rename_i hh
          simp only [Bool.and_eq_true] at hh
          obtain ⟨hlen, hl1, hl2⟩ := hh
          have hlen := Nat.eq_of_beq_eq_true hlen
          have hl1 := Nat.le_of_ble_eq_true hl1
          have hl2 := Nat.le_of_ble_eq_true hl2
          obtain ⟨z, hinfo, hz, hzl, hb0, hsz⟩ := info_of W hT hty
          obtain ⟨vs, hrun, hvs, hrl, hrn⟩ := lit_run (o := o) hT hR ho he hty hrows hlen hl1 hl2 W
          split at h
          · rename_i hfl
            split at h
            · rename_i xs s2 hsol
              obtain ⟨hd, hj, h2⟩ := fresh_some h
              obtain ⟨E', _, _, k3, k4⟩ := solid_rep 0 false ty rows E s hR (Later.refl _) hvs hsol
              refine ⟨_, _, h2, sim_fresh hR hd hj hrun (below_alloc (Below.refl _ _) _) ?_⟩
              have k5 : Reps (ty.kd.M W 0 fun _ => False) ty.kd.sz xs vs.toList := by
                rw [kd_sz]
                rcases (Bool.or_eq_true _ _).mp hfl with hfl | hfl
                · exact k4.imp_ fun p c hp => flat_M ty hfl (ty.kd.K_of_M hp)
                · have hfl := Nat.eq_of_beq_eq_true hfl
                  obtain rfl : xs = [] := List.eq_nil_of_length_eq_zero (by omega)
                  exact ⟨k4.1, fun j p h => by simp at h⟩
              have h5 := lit_R (e := e) k5 (fun _ h => h) (by rw [k3, hrn]; omega)
              rw [k3, hrn] at h5
              exact h5
            · cases h
          · obtain ⟨hd, hj, h2⟩ := fresh_some h
            refine ⟨_, _, h2, ?_⟩
            have hb : Below W.heap.size W (W.alloc (.cells vs e)) := below_alloc (Below.refl _ _) _
            have hm := newTok_move (E := E) (d := d) (v := .slice (some ⟨W.heap.size, 0, none⟩) len len) hb
            have hnew : (E.newTok W.heap.size (W.alloc (.cells vs e)).heap.size d (.slice (some ⟨W.heap.size, 0, none⟩) len len)).rv d = .slice (some ⟨W.heap.size, 0, none⟩) len len := if_pos rfl
            have hsz1 : (W.alloc (.cells vs e)).heap.size = W.heap.size + 1 := Array.size_push _
            have hlit : All2 (Rep1 (E.newTok W.heap.size (W.alloc (.cells vs e)).heap.size d (.slice (some ⟨W.heap.size, 0, none⟩) len len)) { s with toks := tokSet s.toks d (.lit e ty rows) } (W.alloc (.cells vs e))) rows.flatten vs.toList := by
              refine hvs.imp fun a y _ hy => hm.rep1 (fun h => h) (fun q _ => ⟨fun h => h, fun y hy => ?_⟩) hy
              cases q with
              | tok n =>
                have hn : n ≠ d := fun h => hy.2 (by rw [h]; exact hj)
                have e0 : (⟨s.tmps, tokSet s.toks d (.lit e ty rows), s.boxes⟩ : St).toks n = s.toks n := tokSet_ne _ _ hn
                refine ⟨⟨?_, by rw [e0]; exact hy.2⟩, fun _ _ _ h => e0.trans h⟩
                show _ = (if n = d then _ else E.rv n)
                rw [if_neg hn]
                exact hy.1
              | cell j c =>
                obtain ⟨b, ty', cl, h1, h2, h3, e1, t1, xs1, h4⟩ := hy
                exact ⟨⟨b, ty', cl, h1, (hb.block b (Array.getElem?_eq_some_iff.mp h2).1).trans h2, h3, e1, t1, xs1, h4⟩, fun _ _ _ h => h⟩
            obtain ⟨h3, h4⟩ := fresh_rep hR (a := .lit e ty rows) hj (by simp) hm (fun h => h) (fun _ h => h) (fun _ h => h) (fun n hn => if_neg hn) rfl ⟨W.heap.size, vs, by rw [hnew, hrn], if_pos ⟨Nat.le_refl _, by omega⟩, heap_alloc_new W _, hlit, fun row hrow => by rw [hrl row hrow, hsz], by omega⟩ (fun k hk => (if_neg (by omega)).trans (hR.new k (Nat.le_trans hb.size hk)))
            rw [hnew] at h4
            exact SimE.step hrun h3 h4 (newTok_after hd hb) hb.block
        · cases h
      · cases h
    · cases h
  · cases h
theorem hdr_later {Pp : Nat → Bool → Prop} (h : Pass Pp E E') {q : Root} {y : Value} (hy : Hdr E s W q y) {e : Nat} {t : Ty} {xs : List t.den} (hq : s'.root q = .own e t xs) : Hdr E' s' W q y := by
  cases q with
  | tok n => exact ⟨by rw [h.rv]; exact hy.1, by have : s'.toks n = .own e t xs := hq; rw [this]; simp⟩
  | cell j c =>
    obtain ⟨b, ty, cells, h1, h2, h3, _⟩ := hy
    exact ⟨b, ty, cells, by rw [h.adr]; exact h1, h2, h3, _, _, _, hq⟩
theorem rows_rep (hR : Rep E s act W) {ty : Ty} {x : AV} {y : Value} {ys : List ty.den} {s1 : St} (hv : RepV E s W x y) (h : s.rows ty x = some (ys, s1)) :
    ∃ E1 A m c, ∃ okp : Nat → Prop, Rep E1 s1 act W ∧ Pass (At 0) E E1 ∧ y = .slice A m c ∧ ReadsRow (ty.kd.M W 0 okp) ty.kd.sz W A m ys ∧ ∀ k, okp k → Hand 0 (E1.own k) := by
  unfold St.rows at h
  split at h
  · rename_i q
    split at h
    · rename_i e t xs hq
      have hown := hdr_own hR (q := q) hv hq
      split at h
      · rename_i hfl
        split at h
        · rename_i ht
          subst ht
          obtain ⟨rfl, rfl⟩ : xs = ys ∧ s = s1 := by simpa using h
          obtain ⟨A, c, hy, hl, hC⟩ := R_reads hown
          exact ⟨E, A, xs.length, c, fun _ => False, hR, Pass.refl _ _, hy, ReadsRow.imp_ hC (Below.refl _ _) (fun p c hp => flat_M _ hfl hp), fun _ h => h.elim⟩
        · cases h
      · split at h
        · rename_i ht
          subst ht
          obtain ⟨rfl, rfl⟩ : xs = ys ∧ s.gone q = s1 := by simpa using h
          obtain ⟨A, c, hy, hl, hC⟩ := hown.2.reads
          refine ⟨_, A, xs.length, c, fun k => E.own k = q.owner, gone_rep hR q (.hand 0 true), give_pass E q 0 true rfl, hy, ReadsRow.imp_ hC (Below.refl _ _) (fun p c hp => t.kd.M_mono (fun k hk => hk.1) hp), fun k hk => ⟨true, if_pos hk⟩⟩
        · cases h
    · rename_i e t rows hq
      split at h
      · rename_i ht
        subst ht
        cases q with
        | cell j c =>
          obtain ⟨b, ty, cells, _, _, _, e', t', xs', h4⟩ := hv
          rw [hq] at h4
          cases h4
        | tok n =>
          have hq' : s.toks n = .lit e t rows := hq
          have h' : St.solid t rows (s.drop n) = some (ys, s1) := h
          obtain ⟨E1, h1, h2, h3⟩ := take1_rep hR 0 (a := .rt (.tok n)) (a' := .own e t ys) (s' := s1) (y := y) hv (by simp only [St.take1, hq', h'])
          have h3' : t.kd.R e W 0 (fun k => Hand 0 (E1.own k)) y ys := h3
          obtain ⟨A, c, hy, hl, hC⟩ := h3'.2.reads
          exact ⟨E1, A, ys.length, c, fun k => Hand 0 (E1.own k), h1, h2, hy, ReadsRow.imp_ hC (Below.refl _ _) (fun p c hp => t.kd.M_mono (fun k hk => hk.1) hp), fun _ h => h⟩
      · cases h
    · cases h
  · rename_i m e t xs
    split at h
    · rename_i hfl
      split at h
      · rename_i ht
        subst ht
        obtain ⟨rfl, rfl⟩ : xs = ys ∧ s = s1 := by simpa using h
        obtain ⟨A, c, hy, hl, hF⟩ := hv
        exact ⟨E, A, xs.length, c, fun _ => False, hR, Pass.refl _ _, hy, ReadsRow.imp_ (F_now hF) (Below.refl _ _) (fun p c hp => flat_M _ hfl hp), fun _ h => h.elim⟩
      · cases h
    · cases h
  · obtain ⟨rfl, rfl⟩ : [] = ys ∧ s = s1 := by simpa using h
    exact ⟨E, none, 0, 0, fun _ => False, hR, Pass.refl _ _, hv, ⟨rfl, by omega, fun h => absurd h (by omega)⟩, fun _ h => h.elim⟩
  · cases h
def SimA (P : Program) (o : Oper) (E : Env) (s : St) (act : Act) (W : World) (a' : AV) (s' : St) : Prop :=
  ∀ (K : Act → World → Prop) (Q : Exit → Act → World → Prop), (∀ E' y' W', Rep E' s' act W' → RepV E' s' W' a' y' → After E W E' W' → (∀ k j, k < W.heap.size → E.own k = .box j → W'.heap[k]? = W.heap[k]?) → K (act.put o.dst y') W') → Oper.wp P o act W K Q
end
end Go.Proofs.YtbakkcdanoopgaaGreatDoor.Ev
