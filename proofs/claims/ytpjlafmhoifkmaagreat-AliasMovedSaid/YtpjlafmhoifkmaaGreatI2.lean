/- Lines of instructions, plainly (the program's way). No program in sight. -/
import Derived.Test.YtpjlafmhoifkmaaGreatI1
import Derived.Test.YtpjlafmhoifkmaaGreatA1
set_option linter.unusedVariables false
set_option linter.unusedSimpArgs false
namespace Go.Proofs.YtpjlafmhoifkmaaGreat

structure OpV where
  kind : Int
  r : RegV
  m : RegV
  md : Int
  amt : Int
  n : Int
  add : Int
  plus : ByteArray
  minus : ByteArray
  lo : Bool
  mode : Int

def r0 : RegV := ⟨0, false, false⟩
def op0 (kind : Int) : OpV := ⟨kind, r0, r0, 0, 0, 0, 0, emp, emp, false, 0⟩
def oReg (n : Int) (x : Bool) : OpV := { op0 1 with r := ⟨n, x, false⟩ }
def oSP (n : Int) (x : Bool) : OpV := { op0 1 with r := ⟨n, x, n == 31⟩ }
def oNum (v : Int) : OpV := { op0 2 with add := v }
def oTo (v : Int) : OpV := { op0 3 with add := v }
def oOf (kind n : Int) : OpV := { op0 kind with n := n }
def oWith (o : OpV) (md amt : Int) : OpV := { o with md := md, amt := amt }
def oMem (base mode off : Int) : OpV := { op0 5 with r := ⟨base, true, base == 31⟩, mode := mode, add := off }

abbrev LineV := ByteArray × List OpV

def pickF (n : Int) (l : List ByteArray) : ByteArray := if n < 0 ∨ (l.length : Int) ≤ n then emp else l.getD n.toNat emp

/-- The registers that an instruction names. -/
def dO (x : Ins) : OpV := oReg x.rd x.x
def nO (x : Ins) : OpV := oReg x.rn x.x
def mO (x : Ins) : OpV := oReg x.rm x.x
def aO (x : Ins) : OpV := oReg x.ra x.x
def dsO (x : Ins) : OpV := oSP x.rd x.x
def nsO (x : Ins) : OpV := oSP x.rn x.x
def xdO (x : Ins) : OpV := oReg x.rd true
def numO' (x : Ins) : OpV := oNum x.a
def farO (x : Ins) : OpV := oTo (4 * x.a)
def condO (x : Ins) : OpV := oOf 4 x.a

/-- the last register shifted, if it is -/
def movedL (x : Ins) (l : List OpV) : List OpV :=
  if x.a = 0 ∧ x.c = 0 then l else l.set (l.length - 1) (oWith (l.getD (l.length - 1) (op0 0)) (1 + x.c) x.a)

def shiftedF (x : Ins) : OpV := if x.c = 1 then oWith (oNum x.a) 1 12 else oNum x.a
def immF (x : Ins) : LineV :=
  if x.op = 1 then ((⟨#[97, 100, 114]⟩ : ByteArray) ++ pickF (flagN x.x) [emp, (⟨#[112]⟩ : ByteArray)], [xdO x, oTo (if x.x then x.a * 4096 else x.a)])
  else if x.op = 2 then (pickF x.b [(⟨#[97, 100, 100]⟩ : ByteArray), (⟨#[115, 117, 98]⟩ : ByteArray)] ++ pickF (flagN x.s) [emp, (⟨#[115]⟩ : ByteArray)], [if x.s then dO x else dsO x, nsO x, shiftedF x])
  else if x.op = 3 then (pickF x.b [(⟨#[97, 110, 100]⟩ : ByteArray), (⟨#[111, 114, 114]⟩ : ByteArray), (⟨#[101, 111, 114]⟩ : ByteArray), (⟨#[97, 110, 100, 115]⟩ : ByteArray)], [if x.b = 3 then dO x else dsO x, nO x, numO' x])
  else if x.op = 4 then (pickF x.b [(⟨#[109, 111, 118, 110]⟩ : ByteArray), emp, (⟨#[109, 111, 118, 122]⟩ : ByteArray), (⟨#[109, 111, 118, 107]⟩ : ByteArray)], [dO x, if x.c = 0 then oNum x.a else oWith (oNum x.a) 1 (16 * x.c)])
  else if x.op = 5 then (pickF x.b [(⟨#[115, 98, 102, 109]⟩ : ByteArray), (⟨#[98, 102, 109]⟩ : ByteArray), (⟨#[117, 98, 102, 109]⟩ : ByteArray)], [dO x, nO x, numO' x, oNum x.c])
  else ((⟨#[101, 120, 116, 114]⟩ : ByteArray), [dO x, nO x, mO x, numO' x])

def brF (x : Ins) : LineV :=
  if x.op = 7 then ((⟨#[98, 46]⟩ : ByteArray) ++ (nameF 2 x.b).1, [farO x])
  else if x.op = 8 then (pickF (flagN x.s) [(⟨#[98]⟩ : ByteArray), (⟨#[98, 108]⟩ : ByteArray)], [farO x])
  else if x.op = 9 then (pickF x.b [(⟨#[99, 98, 122]⟩ : ByteArray), (⟨#[99, 98, 110, 122]⟩ : ByteArray)], [dO x, farO x])
  else if x.op = 10 then (pickF x.b [(⟨#[116, 98, 122]⟩ : ByteArray), (⟨#[116, 98, 110, 122]⟩ : ByteArray)], [oReg x.rd (decide (31 < x.c)), oNum x.c, farO x])
  else if x.op = 11 then (pickF x.b [(⟨#[98, 114]⟩ : ByteArray), (⟨#[98, 108, 114]⟩ : ByteArray), (⟨#[114, 101, 116]⟩ : ByteArray), emp, (⟨#[101, 114, 101, 116]⟩ : ByteArray)], if x.b = 4 then [] else [oReg x.rn true])
  else (pickF x.b [(⟨#[115, 118, 99]⟩ : ByteArray), (⟨#[104, 118, 99]⟩ : ByteArray), (⟨#[115, 109, 99]⟩ : ByteArray), (⟨#[98, 114, 107]⟩ : ByteArray), (⟨#[104, 108, 116]⟩ : ByteArray), (⟨#[100, 99, 112, 115, 49]⟩ : ByteArray), (⟨#[100, 99, 112, 115, 50]⟩ : ByteArray), (⟨#[100, 99, 112, 115, 51]⟩ : ByteArray)], [numO' x])

def sysO (x : Ins) : List OpV := [oNum (x.a / 2048 % 8), oNum (x.a / 128 % 16), oNum (x.a / 8 % 16), oNum (x.a % 8)]
def sysLF (x : Ins) : LineV :=
  if x.op = 13 then ((⟨#[104, 105, 110, 116]⟩ : ByteArray), [numO' x])
  else if x.op = 14 then
    if x.b = 4 ∨ x.b = 5 then (pickF (x.b - 4) [(⟨#[100, 115, 98]⟩ : ByteArray), (⟨#[100, 109, 98]⟩ : ByteArray)], [oOf 7 x.a])
    else (pickF x.b [emp, emp, (⟨#[99, 108, 114, 101, 120]⟩ : ByteArray), emp, emp, emp, (⟨#[105, 115, 98]⟩ : ByteArray)], [numO' x])
  else if x.op = 15 then if x.b = 0 then ((⟨#[109, 115, 114]⟩ : ByteArray), [oOf 6 x.a, xdO x]) else ((⟨#[109, 114, 115]⟩ : ByteArray), [xdO x, oOf 6 x.a])
  else if x.op = 16 then ((⟨#[109, 115, 114]⟩ : ByteArray), [oOf 9 x.b, numO' x])
  else if x.b = 0 then ((⟨#[115, 121, 115]⟩ : ByteArray), sysO x ++ [xdO x]) else ((⟨#[115, 121, 115, 108]⟩ : ByteArray), xdO x :: sysO x)

def modeF (n : Int) : Int := if n = 1 then 2 else if n = 3 then 1 else 0
def pairL (x : Ins) : LineV :=
  (if x.b = 1 then (⟨#[108, 100, 112, 115, 119]⟩ : ByteArray) else pickF (flagN x.s) [(⟨#[115, 116]⟩ : ByteArray), (⟨#[108, 100]⟩ : ByteArray)] ++ pickF (flagN (decide (x.c = 0))) [(⟨#[112]⟩ : ByteArray), (⟨#[110, 112]⟩ : ByteArray)],
   [oReg x.rd (decide (¬ x.b = 0)), oReg x.ra (decide (¬ x.b = 0)), oMem x.rn (modeF x.c) ((if x.b = 2 then 8 else 4) * x.a)])

def transF (size opc : Int) : ByteArray × Bool × Bool :=
  if size < 0 ∨ 3 < size then (emp, false, false)
  else if opc = 0 then ((⟨#[115, 116, 114]⟩ : ByteArray) ++ pickF size [(⟨#[98]⟩ : ByteArray), (⟨#[104]⟩ : ByteArray), emp, emp], false, decide (size = 3))
  else if opc = 1 then ((⟨#[108, 100, 114]⟩ : ByteArray) ++ pickF size [(⟨#[98]⟩ : ByteArray), (⟨#[104]⟩ : ByteArray), emp, emp], true, decide (size = 3))
  else if opc = 2 ∧ size = 3 then ((⟨#[112, 114, 102, 109]⟩ : ByteArray), true, true)
  else if opc = 2 then ((⟨#[108, 100, 114, 115]⟩ : ByteArray) ++ pickF size [(⟨#[98]⟩ : ByteArray), (⟨#[104]⟩ : ByteArray), (⟨#[119]⟩ : ByteArray)], true, true)
  else if opc = 3 ∧ size < 2 then ((⟨#[108, 100, 114, 115]⟩ : ByteArray) ++ pickF size [(⟨#[98]⟩ : ByteArray), (⟨#[104]⟩ : ByteArray)], true, false)
  else (emp, false, false)

def extF (n : Int) : Int := if n = 2 then 7 else if n = 3 then 1 else if n = 6 then 11 else 12

end Go.Proofs.YtpjlafmhoifkmaaGreat
