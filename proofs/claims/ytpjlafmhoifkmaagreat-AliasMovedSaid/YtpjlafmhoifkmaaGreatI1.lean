/- Instructions, plainly: which there are. No program in sight. -/
import Derived.Test.YtpjlafmhoifkmaaGreatI0
set_option linter.unusedVariables false
set_option linter.unusedSimpArgs false
namespace Go.Proofs.YtpjlafmhoifkmaaGreat

structure Ins where
  op : Int
  x : Bool
  s : Bool
  rd : Int
  rn : Int
  rm : Int
  ra : Int
  a : Int
  b : Int
  c : Int
  deriving DecidableEq

def ins0 (op : Int) : Ins := ⟨op, false, false, 0, 0, 0, 0, 0, 0, 0⟩
def flagN (q : Bool) : Int := if q then 1 else 0

/-- a limit: field, least, most -/
abbrev Lim := Int × Int × Int
def flagsF (l : List Int) : List Lim := l.map fun f => (f, 0, if f = 1 ∨ f = 2 then 1 else 31)
def limTab : Nat → List Lim
  | 1 => flagsF [1, 3] ++ [(7, -1048576, 1048575)]
  | 2 => flagsF [1, 2, 3, 4] ++ [(7, 0, 4095), (8, 0, 1), (9, 0, 1)]
  | 3 => flagsF [1, 3, 4] ++ [(7, -9223372036854775808, 9223372036854775807), (8, 0, 3)]
  | 4 => flagsF [1, 3] ++ [(7, 0, 65535), (8, 0, 3), (9, 0, 3)]
  | 5 => flagsF [1, 3, 4] ++ [(7, 0, 63), (8, 0, 2), (9, 0, 63)]
  | 6 => flagsF [1, 3, 4, 5] ++ [(7, 0, 63)]
  | 7 => [(7, -262144, 262143), (8, 0, 15)]
  | 8 => flagsF [2] ++ [(7, -33554432, 33554431)]
  | 9 => flagsF [1, 3] ++ [(7, -262144, 262143), (8, 0, 1)]
  | 10 => flagsF [3] ++ [(7, -8192, 8191), (8, 0, 1), (9, 0, 63)]
  | 11 => flagsF [4] ++ [(8, 0, 4)]
  | 12 => [(7, 0, 65535), (8, 0, 7)]
  | 13 => [(7, 0, 127)]
  | 14 => [(7, 0, 15), (8, 2, 6)]
  | 15 => flagsF [3] ++ [(7, 0, 32767), (8, 0, 1)]
  | 16 => [(7, 0, 15), (8, 0, 5)]
  | 17 => flagsF [3] ++ [(7, 0, 16383), (8, 0, 1)]
  | 18 => flagsF [3] ++ [(7, -262144, 262143), (8, 0, 3)]
  | 19 => flagsF [2, 3, 4, 6] ++ [(7, -64, 63), (8, 0, 2), (9, 0, 3)]
  | 20 => flagsF [3, 4] ++ [(7, 0, 4095), (8, 0, 3), (9, 0, 3)]
  | 21 => flagsF [3, 4] ++ [(6, 0, 3), (7, -256, 255), (8, 0, 3), (9, 0, 3)]
  | 22 => flagsF [2, 3, 4, 5] ++ [(7, 2, 7), (8, 0, 3), (9, 0, 3)]
  | 23 => flagsF [1, 2, 3, 4, 5] ++ [(6, 0, 31), (7, 0, 2), (8, 0, 3)]
  | 24 => flagsF [1, 2, 3, 4, 5] ++ [(7, 0, 63), (8, 0, 3), (9, 0, 3)]
  | 25 => flagsF [1, 2, 3, 4, 5] ++ [(7, 0, 63), (8, 0, 1), (9, 0, 2)]
  | 26 => flagsF [1, 2, 3, 4, 5] ++ [(7, 0, 4), (8, 0, 1), (9, 0, 7)]
  | 27 => flagsF [1, 2, 3, 4, 5] ++ [(8, 0, 1)]
  | 28 => flagsF [1, 2, 4, 5] ++ [(7, 0, 15), (8, 0, 1), (9, 0, 15)]
  | 29 => flagsF [1, 3, 4, 5] ++ [(7, 0, 15), (8, 0, 3)]
  | 30 => flagsF [1, 3, 4] ++ [(8, 0, 5)]
  | 31 => flagsF [1, 3, 4, 5] ++ [(8, 2, 23)]
  | 32 => flagsF [1, 3, 4, 5] ++ [(6, 0, 31), (8, 0, 7)]
  | _ => []
def limitsF (op : Int) : List Lim := if 1 ≤ op then limTab op.toNat else []

def getF (x : Ins) (f : Int) : Int :=
  if f = 1 then flagN x.x else if f = 2 then flagN x.s else if f = 3 then x.rd else if f = 4 then x.rn else if f = 5 then x.rm else if f = 6 then x.ra else if f = 7 then x.a else if f = 8 then x.b else x.c
def setF (x : Ins) (f v : Int) : Ins :=
  if f = 1 then { x with x := decide (v = 1) } else if f = 2 then { x with s := decide (v = 1) } else if f = 3 then { x with rd := v } else if f = 4 then { x with rn := v } else if f = 5 then { x with rm := v }
  else if f = 6 then { x with ra := v } else if f = 7 then { x with a := v } else if f = 8 then { x with b := v } else { x with c := v }
def cleanL (x : Ins) (l : List Lim) (o : Ins) : Ins := l.foldl (fun o f => setF o f.1 (getF x f.1)) o
def cleanF (x : Ins) : Ins := cleanL x (limitsF x.op) (ins0 x.op)
def inLim (x : Ins) (f : Lim) : Bool := decide (f.2.1 ≤ getF x f.1) && decide (getF x f.1 ≤ f.2.2)
def withinF (x : Ins) : Bool := (limitsF x.op).all (inLim x) && !(limitsF x.op).isEmpty && decide (cleanF x = x)

/-- a number as one of 64 bits without a sign -/
def u64F (v : Int) : Nat := (v % 18446744073709551616).toNat
def logicalF (x : Ins) : Bool := (lFind (u64F x.a) (if x.x then 64 else 32)).isSome && (x.x || decide (0 ≤ x.a))
def sizedF (x : Ins) : Bool := !decide (x.c = 3) || decide (x.b < 2)
def pairF (x : Ins) : Bool :=
  if x.b = 1 ∧ (x.s = false ∨ x.c = 0) then false
  else if x.s = true ∧ x.rd = x.ra then false
  else if (x.c = 1 ∨ x.c = 3) ∧ ¬ x.rn = 31 ∧ (x.rn = x.rd ∨ x.rn = x.ra) then false else true
def exclF (x : Ins) : Bool :=
  if (x.a = 1 ∧ x.b < 2) ∨ (x.a = 2 ∧ x.x = false) ∨ ((x.s = true ∨ x.a = 2) ∧ ¬ x.rm = 0) ∨ (¬ x.a = 1 ∧ ¬ x.ra = 0) then false
  else if x.a = 1 ∧ x.s = true ∧ x.rd = x.ra then false
  else if x.s = true ∨ x.a = 2 then true
  else decide (¬ x.rm = x.rd) && decide (¬ x.rm = x.rn ∨ x.rm = 31) && !decide (x.a = 1 ∧ x.rm = x.ra)
def idxF (x : Ins) : Bool := sizedF x && decide (¬ x.c = 2 ∨ ¬ x.b = 3 ∨ x.ra = 0) && !decide ((x.ra = 1 ∨ x.ra = 3) ∧ ¬ x.rn = 31 ∧ x.rn = x.rd)
def sourcesF (x : Ins) : Bool :=
  if x.b = 2 ∨ x.b = 3 ∨ x.b = 8 ∨ x.b = 9 ∨ x.b = 10 ∨ x.b = 11 then true
  else if x.b = 19 ∨ x.b = 23 then x.x
  else if x.b = 16 ∨ x.b = 17 ∨ x.b = 18 ∨ x.b = 20 ∨ x.b = 21 ∨ x.b = 22 then !x.x else false
def thereF (x : Ins) : Bool :=
  if x.op = 3 then logicalF x
  else if x.op = 4 then decide (¬ x.b = 1) && (x.x || decide (x.c ≤ 1))
  else if x.op = 5 then (x.x || decide (x.a ≤ 31)) && (x.x || decide (x.c ≤ 31))
  else if x.op = 6 ∨ x.op = 24 ∨ x.op = 25 then x.x || decide (x.a ≤ 31)
  else if x.op = 11 then decide (¬ x.b = 3) && decide (¬ x.b = 4 ∨ x.rn = 0)
  else if x.op = 14 then decide (¬ x.b = 3)
  else if x.op = 19 then pairF x
  else if x.op = 20 then sizedF x
  else if x.op = 21 then idxF x
  else if x.op = 22 then sizedF x && decide (¬ x.a = 4) && decide (¬ x.a = 5)
  else if x.op = 23 then exclF x
  else if x.op = 30 then decide (¬ x.b = 3) || x.x
  else if x.op = 31 then sourcesF x
  else if x.op = 32 then (x.x || decide (x.b ≤ 1)) && decide ((¬ x.b = 4 ∧ ¬ x.b = 7) ∨ x.ra = 0)
  else true
def icheckF (x : Ins) : Int := if withinF x && thereF x then 0 else 40

end Go.Proofs.YtpjlafmhoifkmaaGreat
