/- Instructions, plainly: which there are. No program in sight. Lines of instructions, plainly (the program's way). No program in sight. Lines of instructions, plainly: sums, others, twos, loads. No program in sight. What the check of an instruction tells of its fields. No program in sight. -/
import Derived.Test.YtpjlafmhoifkmaaGreatI0
import Derived.Test.YtpjlafmhoifkmaaGreatBb
set_option linter.unusedVariables false
set_option linter.unusedSimpArgs false
namespace Go.Proofs.YtpjlafmhoifkmaaGreat

structure Ins where
  op : Int
  x : Bool
  s : Bool
  rd : Int
  rn : Int
  rm : Int
  ra : Int
  a : Int
  b : Int
  c : Int
  deriving DecidableEq

def ins0 (op : Int) : Ins := ⟨op, false, false, 0, 0, 0, 0, 0, 0, 0⟩
def flagN (q : Bool) : Int := if q then 1 else 0

/-- a limit: field, least, most -/
abbrev Lim := Int × Int × Int
def flagsF (l : List Int) : List Lim := l.map fun f => (f, 0, if f = 1 ∨ f = 2 then 1 else 31)
def limTab : Nat → List Lim
  | 1 => flagsF [1, 3] ++ [(7, -1048576, 1048575)]
  | 2 => flagsF [1, 2, 3, 4] ++ [(7, 0, 4095), (8, 0, 1), (9, 0, 1)]
  | 3 => flagsF [1, 3, 4] ++ [(7, -9223372036854775808, 9223372036854775807), (8, 0, 3)]
  | 4 => flagsF [1, 3] ++ [(7, 0, 65535), (8, 0, 3), (9, 0, 3)]
  | 5 => flagsF [1, 3, 4] ++ [(7, 0, 63), (8, 0, 2), (9, 0, 63)]
  | 6 => flagsF [1, 3, 4, 5] ++ [(7, 0, 63)]
  | 7 => [(7, -262144, 262143), (8, 0, 15)]
  | 8 => flagsF [2] ++ [(7, -33554432, 33554431)]
  | 9 => flagsF [1, 3] ++ [(7, -262144, 262143), (8, 0, 1)]
  | 10 => flagsF [3] ++ [(7, -8192, 8191), (8, 0, 1), (9, 0, 63)]
  | 11 => flagsF [4] ++ [(8, 0, 4)]
  | 12 => [(7, 0, 65535), (8, 0, 7)]
  | 13 => [(7, 0, 127)]
  | 14 => [(7, 0, 15), (8, 2, 6)]
  | 15 => flagsF [3] ++ [(7, 0, 32767), (8, 0, 1)]
  | 16 => [(7, 0, 15), (8, 0, 5)]
  | 17 => flagsF [3] ++ [(7, 0, 16383), (8, 0, 1)]
  | 18 => flagsF [3] ++ [(7, -262144, 262143), (8, 0, 3)]
  | 19 => flagsF [2, 3, 4, 6] ++ [(7, -64, 63), (8, 0, 2), (9, 0, 3)]
  | 20 => flagsF [3, 4] ++ [(7, 0, 4095), (8, 0, 3), (9, 0, 3)]
  | 21 => flagsF [3, 4] ++ [(6, 0, 3), (7, -256, 255), (8, 0, 3), (9, 0, 3)]
  | 22 => flagsF [2, 3, 4, 5] ++ [(7, 2, 7), (8, 0, 3), (9, 0, 3)]
  | 23 => flagsF [1, 2, 3, 4, 5] ++ [(6, 0, 31), (7, 0, 2), (8, 0, 3)]
  | 24 => flagsF [1, 2, 3, 4, 5] ++ [(7, 0, 63), (8, 0, 3), (9, 0, 3)]
  | 25 => flagsF [1, 2, 3, 4, 5] ++ [(7, 0, 63), (8, 0, 1), (9, 0, 2)]
  | 26 => flagsF [1, 2, 3, 4, 5] ++ [(7, 0, 4), (8, 0, 1), (9, 0, 7)]
  | 27 => flagsF [1, 2, 3, 4, 5] ++ [(8, 0, 1)]
  | 28 => flagsF [1, 2, 4, 5] ++ [(7, 0, 15), (8, 0, 1), (9, 0, 15)]
  | 29 => flagsF [1, 3, 4, 5] ++ [(7, 0, 15), (8, 0, 3)]
  | 30 => flagsF [1, 3, 4] ++ [(8, 0, 5)]
  | 31 => flagsF [1, 3, 4, 5] ++ [(8, 2, 23)]
  | 32 => flagsF [1, 3, 4, 5] ++ [(6, 0, 31), (8, 0, 7)]
  | _ => []
def limitsF (op : Int) : List Lim := if 1 ≤ op then limTab op.toNat else []

def getF (x : Ins) (f : Int) : Int :=
  if f = 1 then flagN x.x else if f = 2 then flagN x.s else if f = 3 then x.rd else if f = 4 then x.rn else if f = 5 then x.rm else if f = 6 then x.ra else if f = 7 then x.a else if f = 8 then x.b else x.c
def setF (x : Ins) (f v : Int) : Ins :=
  if f = 1 then { x with x := decide (v = 1) } else if f = 2 then { x with s := decide (v = 1) } else if f = 3 then { x with rd := v } else if f = 4 then { x with rn := v } else if f = 5 then { x with rm := v }
  else if f = 6 then { x with ra := v } else if f = 7 then { x with a := v } else if f = 8 then { x with b := v } else { x with c := v }
def cleanL (x : Ins) (l : List Lim) (o : Ins) : Ins := l.foldl (fun o f => setF o f.1 (getF x f.1)) o
def cleanF (x : Ins) : Ins := cleanL x (limitsF x.op) (ins0 x.op)
def inLim (x : Ins) (f : Lim) : Bool := decide (f.2.1 ≤ getF x f.1) && decide (getF x f.1 ≤ f.2.2)
def withinF (x : Ins) : Bool := (limitsF x.op).all (inLim x) && !(limitsF x.op).isEmpty && decide (cleanF x = x)

/-- a number as one of 64 bits without a sign -/
def u64F (v : Int) : Nat := (v % 18446744073709551616).toNat
def logicalF (x : Ins) : Bool := (lFind (u64F x.a) (if x.x then 64 else 32)).isSome && (x.x || decide (0 ≤ x.a))
def sizedF (x : Ins) : Bool := !decide (x.c = 3) || decide (x.b < 2)
def pairF (x : Ins) : Bool :=
  if x.b = 1 ∧ (x.s = false ∨ x.c = 0) then false
  else if x.s = true ∧ x.rd = x.ra then false
  else if (x.c = 1 ∨ x.c = 3) ∧ ¬ x.rn = 31 ∧ (x.rn = x.rd ∨ x.rn = x.ra) then false else true
def exclF (x : Ins) : Bool :=
  if (x.a = 1 ∧ x.b < 2) ∨ (x.a = 2 ∧ x.x = false) ∨ ((x.s = true ∨ x.a = 2) ∧ ¬ x.rm = 0) ∨ (¬ x.a = 1 ∧ ¬ x.ra = 0) then false
  else if x.a = 1 ∧ x.s = true ∧ x.rd = x.ra then false
  else if x.s = true ∨ x.a = 2 then true
  else decide (¬ x.rm = x.rd) && decide (¬ x.rm = x.rn ∨ x.rm = 31) && !decide (x.a = 1 ∧ x.rm = x.ra)
def idxF (x : Ins) : Bool := sizedF x && decide (¬ x.c = 2 ∨ ¬ x.b = 3 ∨ x.ra = 0) && !decide ((x.ra = 1 ∨ x.ra = 3) ∧ ¬ x.rn = 31 ∧ x.rn = x.rd)
def sourcesF (x : Ins) : Bool :=
  if x.b = 2 ∨ x.b = 3 ∨ x.b = 8 ∨ x.b = 9 ∨ x.b = 10 ∨ x.b = 11 then true
  else if x.b = 19 ∨ x.b = 23 then x.x
  else if x.b = 16 ∨ x.b = 17 ∨ x.b = 18 ∨ x.b = 20 ∨ x.b = 21 ∨ x.b = 22 then !x.x else false
def thereF (x : Ins) : Bool :=
  if x.op = 3 then logicalF x
  else if x.op = 4 then decide (¬ x.b = 1) && (x.x || decide (x.c ≤ 1))
  else if x.op = 5 then (x.x || decide (x.a ≤ 31)) && (x.x || decide (x.c ≤ 31))
  else if x.op = 6 ∨ x.op = 24 ∨ x.op = 25 then x.x || decide (x.a ≤ 31)
  else if x.op = 11 then decide (¬ x.b = 3) && decide (¬ x.b = 4 ∨ x.rn = 0)
  else if x.op = 14 then decide (¬ x.b = 3)
  else if x.op = 19 then pairF x
  else if x.op = 20 then sizedF x
  else if x.op = 21 then idxF x
  else if x.op = 22 then sizedF x && decide (¬ x.a = 4) && decide (¬ x.a = 5)
  else if x.op = 23 then exclF x
  else if x.op = 30 then decide (¬ x.b = 3) || x.x
  else if x.op = 31 then sourcesF x
  else if x.op = 32 then (x.x || decide (x.b ≤ 1)) && decide ((¬ x.b = 4 ∧ ¬ x.b = 7) ∨ x.ra = 0)
  else true
def icheckF (x : Ins) : Int := if withinF x && thereF x then 0 else 40

end Go.Proofs.YtpjlafmhoifkmaaGreat

namespace Go.Proofs.YtpjlafmhoifkmaaGreat

structure OpV where
  kind : Int
  r : RegV
  m : RegV
  md : Int
  amt : Int
  n : Int
  add : Int
  plus : ByteArray
  minus : ByteArray
  lo : Bool
  mode : Int

def r0 : RegV := ⟨0, false, false⟩
def op0 (kind : Int) : OpV := ⟨kind, r0, r0, 0, 0, 0, 0, emp, emp, false, 0⟩
def oReg (n : Int) (x : Bool) : OpV := { op0 1 with r := ⟨n, x, false⟩ }
def oSP (n : Int) (x : Bool) : OpV := { op0 1 with r := ⟨n, x, n == 31⟩ }
def oNum (v : Int) : OpV := { op0 2 with add := v }
def oTo (v : Int) : OpV := { op0 3 with add := v }
def oOf (kind n : Int) : OpV := { op0 kind with n := n }
def oWith (o : OpV) (md amt : Int) : OpV := { o with md := md, amt := amt }
def oMem (base mode off : Int) : OpV := { op0 5 with r := ⟨base, true, base == 31⟩, mode := mode, add := off }

abbrev LineV := ByteArray × List OpV

def pickF (n : Int) (l : List ByteArray) : ByteArray := if n < 0 ∨ (l.length : Int) ≤ n then emp else l.getD n.toNat emp

/-- The registers that an instruction names. -/
def dO (x : Ins) : OpV := oReg x.rd x.x
def nO (x : Ins) : OpV := oReg x.rn x.x
def mO (x : Ins) : OpV := oReg x.rm x.x
def aO (x : Ins) : OpV := oReg x.ra x.x
def dsO (x : Ins) : OpV := oSP x.rd x.x
def nsO (x : Ins) : OpV := oSP x.rn x.x
def xdO (x : Ins) : OpV := oReg x.rd true
def numO' (x : Ins) : OpV := oNum x.a
def farO (x : Ins) : OpV := oTo (4 * x.a)
def condO (x : Ins) : OpV := oOf 4 x.a

/-- the last register shifted, if it is -/
def movedL (x : Ins) (l : List OpV) : List OpV :=
  if x.a = 0 ∧ x.c = 0 then l else l.set (l.length - 1) (oWith (l.getD (l.length - 1) (op0 0)) (1 + x.c) x.a)

def shiftedF (x : Ins) : OpV := if x.c = 1 then oWith (oNum x.a) 1 12 else oNum x.a
def immF (x : Ins) : LineV :=
  if x.op = 1 then ((⟨#[97, 100, 114]⟩ : ByteArray) ++ pickF (flagN x.x) [emp, (⟨#[112]⟩ : ByteArray)], [xdO x, oTo (if x.x then x.a * 4096 else x.a)])
  else if x.op = 2 then (pickF x.b [(⟨#[97, 100, 100]⟩ : ByteArray), (⟨#[115, 117, 98]⟩ : ByteArray)] ++ pickF (flagN x.s) [emp, (⟨#[115]⟩ : ByteArray)], [if x.s then dO x else dsO x, nsO x, shiftedF x])
  else if x.op = 3 then (pickF x.b [(⟨#[97, 110, 100]⟩ : ByteArray), (⟨#[111, 114, 114]⟩ : ByteArray), (⟨#[101, 111, 114]⟩ : ByteArray), (⟨#[97, 110, 100, 115]⟩ : ByteArray)], [if x.b = 3 then dO x else dsO x, nO x, numO' x])
  else if x.op = 4 then (pickF x.b [(⟨#[109, 111, 118, 110]⟩ : ByteArray), emp, (⟨#[109, 111, 118, 122]⟩ : ByteArray), (⟨#[109, 111, 118, 107]⟩ : ByteArray)], [dO x, if x.c = 0 then oNum x.a else oWith (oNum x.a) 1 (16 * x.c)])
  else if x.op = 5 then (pickF x.b [(⟨#[115, 98, 102, 109]⟩ : ByteArray), (⟨#[98, 102, 109]⟩ : ByteArray), (⟨#[117, 98, 102, 109]⟩ : ByteArray)], [dO x, nO x, numO' x, oNum x.c])
  else ((⟨#[101, 120, 116, 114]⟩ : ByteArray), [dO x, nO x, mO x, numO' x])

def brF (x : Ins) : LineV :=
  if x.op = 7 then ((⟨#[98, 46]⟩ : ByteArray) ++ (nameF 2 x.b).1, [farO x])
  else if x.op = 8 then (pickF (flagN x.s) [(⟨#[98]⟩ : ByteArray), (⟨#[98, 108]⟩ : ByteArray)], [farO x])
  else if x.op = 9 then (pickF x.b [(⟨#[99, 98, 122]⟩ : ByteArray), (⟨#[99, 98, 110, 122]⟩ : ByteArray)], [dO x, farO x])
  else if x.op = 10 then (pickF x.b [(⟨#[116, 98, 122]⟩ : ByteArray), (⟨#[116, 98, 110, 122]⟩ : ByteArray)], [oReg x.rd (decide (31 < x.c)), oNum x.c, farO x])
  else if x.op = 11 then (pickF x.b [(⟨#[98, 114]⟩ : ByteArray), (⟨#[98, 108, 114]⟩ : ByteArray), (⟨#[114, 101, 116]⟩ : ByteArray), emp, (⟨#[101, 114, 101, 116]⟩ : ByteArray)], if x.b = 4 then [] else [oReg x.rn true])
  else (pickF x.b [(⟨#[115, 118, 99]⟩ : ByteArray), (⟨#[104, 118, 99]⟩ : ByteArray), (⟨#[115, 109, 99]⟩ : ByteArray), (⟨#[98, 114, 107]⟩ : ByteArray), (⟨#[104, 108, 116]⟩ : ByteArray), (⟨#[100, 99, 112, 115, 49]⟩ : ByteArray), (⟨#[100, 99, 112, 115, 50]⟩ : ByteArray), (⟨#[100, 99, 112, 115, 51]⟩ : ByteArray)], [numO' x])

def sysO (x : Ins) : List OpV := [oNum (x.a / 2048 % 8), oNum (x.a / 128 % 16), oNum (x.a / 8 % 16), oNum (x.a % 8)]
def sysLF (x : Ins) : LineV :=
  if x.op = 13 then ((⟨#[104, 105, 110, 116]⟩ : ByteArray), [numO' x])
  else if x.op = 14 then
    if x.b = 4 ∨ x.b = 5 then (pickF (x.b - 4) [(⟨#[100, 115, 98]⟩ : ByteArray), (⟨#[100, 109, 98]⟩ : ByteArray)], [oOf 7 x.a])
    else (pickF x.b [emp, emp, (⟨#[99, 108, 114, 101, 120]⟩ : ByteArray), emp, emp, emp, (⟨#[105, 115, 98]⟩ : ByteArray)], [numO' x])
  else if x.op = 15 then if x.b = 0 then ((⟨#[109, 115, 114]⟩ : ByteArray), [oOf 6 x.a, xdO x]) else ((⟨#[109, 114, 115]⟩ : ByteArray), [xdO x, oOf 6 x.a])
  else if x.op = 16 then ((⟨#[109, 115, 114]⟩ : ByteArray), [oOf 9 x.b, numO' x])
  else if x.b = 0 then ((⟨#[115, 121, 115]⟩ : ByteArray), sysO x ++ [xdO x]) else ((⟨#[115, 121, 115, 108]⟩ : ByteArray), xdO x :: sysO x)

def modeF (n : Int) : Int := if n = 1 then 2 else if n = 3 then 1 else 0
def pairL (x : Ins) : LineV :=
  (if x.b = 1 then (⟨#[108, 100, 112, 115, 119]⟩ : ByteArray) else pickF (flagN x.s) [(⟨#[115, 116]⟩ : ByteArray), (⟨#[108, 100]⟩ : ByteArray)] ++ pickF (flagN (decide (x.c = 0))) [(⟨#[112]⟩ : ByteArray), (⟨#[110, 112]⟩ : ByteArray)],
   [oReg x.rd (decide (¬ x.b = 0)), oReg x.ra (decide (¬ x.b = 0)), oMem x.rn (modeF x.c) ((if x.b = 2 then 8 else 4) * x.a)])

def transF (size opc : Int) : ByteArray × Bool × Bool :=
  if size < 0 ∨ 3 < size then (emp, false, false)
  else if opc = 0 then ((⟨#[115, 116, 114]⟩ : ByteArray) ++ pickF size [(⟨#[98]⟩ : ByteArray), (⟨#[104]⟩ : ByteArray), emp, emp], false, decide (size = 3))
  else if opc = 1 then ((⟨#[108, 100, 114]⟩ : ByteArray) ++ pickF size [(⟨#[98]⟩ : ByteArray), (⟨#[104]⟩ : ByteArray), emp, emp], true, decide (size = 3))
  else if opc = 2 ∧ size = 3 then ((⟨#[112, 114, 102, 109]⟩ : ByteArray), true, true)
  else if opc = 2 then ((⟨#[108, 100, 114, 115]⟩ : ByteArray) ++ pickF size [(⟨#[98]⟩ : ByteArray), (⟨#[104]⟩ : ByteArray), (⟨#[119]⟩ : ByteArray)], true, true)
  else if opc = 3 ∧ size < 2 then ((⟨#[108, 100, 114, 115]⟩ : ByteArray) ++ pickF size [(⟨#[98]⟩ : ByteArray), (⟨#[104]⟩ : ByteArray)], true, false)
  else (emp, false, false)

def extF (n : Int) : Int := if n = 2 then 7 else if n = 3 then 1 else if n = 6 then 11 else 12

end Go.Proofs.YtpjlafmhoifkmaaGreat

namespace Go.Proofs.YtpjlafmhoifkmaaGreat

theorem pickF_le {n : Int} {l : List ByteArray} {k : Nat} (h : ∀ s ∈ l, s.size ≤ k) : (pickF n l).size ≤ k := by
  unfold pickF
  split
  · exact Nat.zero_le _
  · rw [List.getD_eq_getElem?_getD]
    cases hg : l[n.toNat]? with
    | none => exact Nat.zero_le _
    | some s => exact h s (List.mem_of_getElem? hg)

def extO (x : Ins) : OpV := oWith (oReg x.rm (decide (x.c % 4 = 3))) (5 + x.c) x.a
def sS (x : Ins) : ByteArray := pickF (flagN x.s) [emp, (⟨#[115]⟩ : ByteArray)]
def sumsF (x : Ins) : LineV :=
  if x.op = 24 then (pickF (2 * x.b + flagN x.s) [(⟨#[97, 110, 100]⟩ : ByteArray), (⟨#[98, 105, 99]⟩ : ByteArray), (⟨#[111, 114, 114]⟩ : ByteArray), (⟨#[111, 114, 110]⟩ : ByteArray), (⟨#[101, 111, 114]⟩ : ByteArray), (⟨#[101, 111, 110]⟩ : ByteArray), (⟨#[97, 110, 100, 115]⟩ : ByteArray), (⟨#[98, 105, 99, 115]⟩ : ByteArray)], movedL x [dO x, nO x, mO x])
  else if x.op = 25 then (pickF x.b [(⟨#[97, 100, 100]⟩ : ByteArray), (⟨#[115, 117, 98]⟩ : ByteArray)] ++ sS x, movedL x [dO x, nO x, mO x])
  else if x.op = 26 then (pickF x.b [(⟨#[97, 100, 100]⟩ : ByteArray), (⟨#[115, 117, 98]⟩ : ByteArray)] ++ sS x, [if x.s then dO x else dsO x, nsO x, extO x])
  else if x.op = 27 then (pickF x.b [(⟨#[97, 100, 99]⟩ : ByteArray), (⟨#[115, 98, 99]⟩ : ByteArray)] ++ sS x, [dO x, nO x, mO x])
  else (pickF x.b [(⟨#[99, 99, 109, 110]⟩ : ByteArray), (⟨#[99, 99, 109, 112]⟩ : ByteArray)], [nO x, if x.s then oNum x.rm else mO x, oNum x.a, oOf 4 x.c])
def twosF (x : Ins) : LineV :=
  if x.b ≤ 3 then (pickF (x.b - 2) [(⟨#[117, 100, 105, 118]⟩ : ByteArray), (⟨#[115, 100, 105, 118]⟩ : ByteArray)], [dO x, nO x, mO x])
  else if x.b ≤ 11 then (pickF (x.b - 8) [(⟨#[108, 115, 108, 118]⟩ : ByteArray), (⟨#[108, 115, 114, 118]⟩ : ByteArray), (⟨#[97, 115, 114, 118]⟩ : ByteArray), (⟨#[114, 111, 114, 118]⟩ : ByteArray)], [dO x, nO x, mO x])
  else ((⟨#[99, 114, 99, 51, 50]⟩ : ByteArray) ++ pickF ((x.b - 16).fdiv 4) [emp, (⟨#[99]⟩ : ByteArray)] ++ pickF (x.b % 4) [(⟨#[98]⟩ : ByteArray), (⟨#[104]⟩ : ByteArray), (⟨#[119]⟩ : ByteArray), (⟨#[120]⟩ : ByteArray)], [oReg x.rd false, oReg x.rn false, oReg x.rm (decide (x.b % 4 = 3))])
def dp3N (x : Ins) : ByteArray := pickF x.b [(⟨#[109, 97, 100, 100]⟩ : ByteArray), (⟨#[109, 115, 117, 98]⟩ : ByteArray), (⟨#[115, 109, 97, 100, 100, 108]⟩ : ByteArray), (⟨#[115, 109, 115, 117, 98, 108]⟩ : ByteArray), (⟨#[115, 109, 117, 108, 104]⟩ : ByteArray), (⟨#[117, 109, 97, 100, 100, 108]⟩ : ByteArray), (⟨#[117, 109, 115, 117, 98, 108]⟩ : ByteArray), (⟨#[117, 109, 117, 108, 104]⟩ : ByteArray)]
def othersF (x : Ins) : LineV :=
  if x.op = 29 then (pickF x.b [(⟨#[99, 115, 101, 108]⟩ : ByteArray), (⟨#[99, 115, 105, 110, 99]⟩ : ByteArray), (⟨#[99, 115, 105, 110, 118]⟩ : ByteArray), (⟨#[99, 115, 110, 101, 103]⟩ : ByteArray)], [dO x, nO x, mO x, condO x])
  else if x.op = 30 then (if x.b = 2 ∧ x.x = false then (⟨#[114, 101, 118]⟩ : ByteArray) else pickF x.b [(⟨#[114, 98, 105, 116]⟩ : ByteArray), (⟨#[114, 101, 118, 49, 54]⟩ : ByteArray), (⟨#[114, 101, 118, 51, 50]⟩ : ByteArray), (⟨#[114, 101, 118]⟩ : ByteArray), (⟨#[99, 108, 122]⟩ : ByteArray), (⟨#[99, 108, 115]⟩ : ByteArray)], [dO x, nO x])
  else if x.op = 31 then twosF x
  else if x.b < 2 then (dp3N x, [dO x, nO x, mO x, aO x])
  else if x.b = 4 ∨ x.b = 7 then (dp3N x, [dO x, nO x, mO x])
  else (dp3N x, [oReg x.rd true, oReg x.rn false, oReg x.rm false, oReg x.ra true])

end Go.Proofs.YtpjlafmhoifkmaaGreat

namespace Go.Proofs.YtpjlafmhoifkmaaGreat

theorem icheck_split {x : Ins} (h : icheckF x = 0) : withinF x = true ∧ thereF x = true := by
  unfold icheckF at h
  split at h
  · rename_i h1
    simpa using h1
  · exact absurd h (by decide)
theorem within_op {x : Ins} (h : withinF x = true) : 1 ≤ x.op ∧ x.op ≤ 32 := by
  unfold withinF at h
  simp only [Bool.and_eq_true] at h
  obtain ⟨⟨-, h⟩, -⟩ := h
  unfold limitsF at h
  split at h
  · rename_i h1
    refine ⟨h1, ?_⟩
    rcases Classical.em (32 < x.op) with h2 | h2
    · exfalso
      have : 32 < x.op.toNat := by omega
      have e : limTab x.op.toNat = [] := by
        unfold limTab
        split <;> first | (exfalso; omega) | rfl
      rw [e] at h
      cases h
    · omega
  · cases h
theorem within_all {x : Ins} (h : withinF x = true) : (limitsF x.op).all (inLim x) = true := by
  unfold withinF at h
  simp only [Bool.and_eq_true] at h
  exact h.1.1
theorem transF_len {s o : Int} (hs : 0 ≤ s ∧ s ≤ 3) (ho : 0 ≤ o ∧ o ≤ 3) (h : ¬ o = 3 ∨ s < 2) : 3 ≤ (transF s o).1.size := by
  have h1 : s = 0 ∨ s = 1 ∨ s = 2 ∨ s = 3 := by omega
  have h2 : o = 0 ∨ o = 1 ∨ o = 2 ∨ o = 3 := by omega
  rcases h1 with rfl | rfl | rfl | rfl <;> rcases h2 with rfl | rfl | rfl | rfl <;> first | (exfalso; omega) | decide

/-- what the lines ask of an instruction -/
structure PlB (x : Ins) : Prop where
  op : 1 ≤ x.op ∧ x.op ≤ 32
  adr : x.op = 1 → -1048576 ≤ x.a ∧ x.a ≤ 1048575
  wide : x.op = 4 → 0 ≤ x.c ∧ x.c ≤ 3
  far : 7 ≤ x.op → x.op ≤ 10 → -33554432 ≤ x.a ∧ x.a ≤ 33554431
  cond : x.op = 7 → 0 ≤ x.b ∧ x.b ≤ 15
  sys : x.op = 17 → 0 ≤ x.a ∧ x.a ≤ 16383
  lit : x.op = 18 ∨ x.op = 19 → -262144 ≤ x.a ∧ x.a ≤ 262143
  ld : x.op = 20 → (0 ≤ x.b ∧ x.b ≤ 3) ∧ (0 ≤ x.a ∧ x.a ≤ 4095)
  idx : x.op = 21 → 3 ≤ (transF x.b x.c).1.size
  reg : x.op = 22 → 0 ≤ x.a ∧ x.a ≤ 7
  logR : x.op = 24 → 0 ≤ x.b ∧ x.b ≤ 3
  mods : 24 ≤ x.op → x.op ≤ 26 → 0 ≤ x.c ∧ x.c ≤ 7
  two : x.op = 31 → 2 ≤ x.b ∧ x.b ≤ 23
  tr : 20 ≤ x.op → x.op ≤ 22 → (0 ≤ x.b ∧ x.b ≤ 3) ∧ (0 ≤ x.c ∧ x.c ≤ 3) ∧ (¬ x.c = 3 ∨ x.b < 2)
  br : x.op = 11 → (0 ≤ x.b ∧ x.b ≤ 4) ∧ ¬ x.b = 3
  bar : x.op = 14 → (2 ≤ x.b ∧ x.b ≤ 6) ∧ ¬ x.b = 3
  bit : 15 = x.op ∨ 17 = x.op → 0 ≤ x.b ∧ x.b ≤ 1
  addImm : x.op = 2 → (0 ≤ x.b ∧ x.b ≤ 1) ∧ (0 ≤ x.c ∧ x.c ≤ 1)
  pairB : x.op = 19 → (0 ≤ x.b ∧ x.b ≤ 2) ∧ (0 ≤ x.c ∧ x.c ≤ 3) ∧ (x.b = 1 → x.s = true ∧ ¬ x.c = 0)
  ex : x.op = 23 → (0 ≤ x.a ∧ x.a ≤ 2) ∧ (0 ≤ x.b ∧ x.b ≤ 3)
  logI : x.op = 3 → 0 ≤ x.b ∧ x.b ≤ 3
theorem plB_of {x : Ins} (h : icheckF x = 0) : PlB x := by
  obtain ⟨h1, h2⟩ := icheck_split h
  have ho := within_op h1
  have ha := within_all h1
  obtain ⟨op, xx, ss, rd, rn, rm, ra, a, b, c⟩ := x
  simp only at ho ha
  have hop : op = 1 ∨ op = 2 ∨ op = 3 ∨ op = 4 ∨ op = 5 ∨ op = 6 ∨ op = 7 ∨ op = 8 ∨ op = 9 ∨ op = 10 ∨ op = 11 ∨ op = 12 ∨ op = 13 ∨ op = 14 ∨ op = 15 ∨ op = 16 ∨ op = 17 ∨ op = 18 ∨ op = 19 ∨ op = 20 ∨ op = 21 ∨ op = 22 ∨ op = 23 ∨ op = 24 ∨ op = 25 ∨ op = 26 ∨ op = 27 ∨ op = 28 ∨ op = 29 ∨ op = 30 ∨ op = 31 ∨ op = 32 := by omega
  rcases hop with rfl | rfl | rfl | rfl | rfl | rfl | rfl | rfl | rfl | rfl | rfl | rfl | rfl | rfl | rfl | rfl | rfl | rfl | rfl | rfl | rfl | rfl | rfl | rfl | rfl | rfl | rfl | rfl | rfl | rfl | rfl | rfl
  all_goals
    simp [limitsF, limTab, flagsF] at ha
    simp [inLim, getF] at ha
    first
    | (refine ⟨by simp, ?_, ?_, ?_, ?_, ?_, ?_, ?_, ?_, ?_, ?_, ?_, ?_, ?_, ?_, ?_, ?_, ?_, ?_, ?_, ?_⟩ <;> simp only [] <;> omega)
    | (simp [thereF, idxF, sizedF, pairF] at h2
       refine ⟨by simp, ?_, ?_, ?_, ?_, ?_, ?_, ?_, ?_, ?_, ?_, ?_, ?_, ?_, ?_, ?_, ?_, ?_, ?_, ?_, ?_⟩
       all_goals first | (simp only []; omega) | (intro _; refine transF_len ?_ ?_ ?_ <;> simp only [] <;> omega) | (cases ss <;> simp_all; done) | (cases ss <;> simp_all <;> omega))

end Go.Proofs.YtpjlafmhoifkmaaGreat
