import Derived.Test.YtnhbidpdadkcjaaGreatDoorJ31
import Derived.Test.YtnhbidpdadkcjaaGreatDoorJ25
import Derived.Lib.IndexAny
import Derived.Test.YtnhbidpdadkcjaaGreatDoorJ28
set_option linter.unusedVariables false
set_option linter.unusedSimpArgs false
set_option maxRecDepth 100000
set_option maxHeartbeats 8000000
namespace Go.Proofs.YtnhbidpdadkcjaaGreatDoor
section
open Go.RowKit
theorem qL (a b:ByteArray):ab (a++b)=ab a++ab b:=nw a b
end
section
open Go.RowKit
def QV (o:OpV):Bool:=(o.kind==5)&&((o.mode==0)&&((decide (o.add=0)&&(decide (o.plus=emp)&&decide (o.minus=emp)))&&!o.lo))
set_option maxRecDepth 100000
end
section
open Go.RowKit
open Ex (qG nameT valT pf lY Di)
def MG:List (Bool×Tok)→List Int
 | []=>[]
 | (b,t)::r=>(if b=true then [32] else [])++(pf t++MG r)
def Qv:Option Tok→List (Bool×Tok)→Prop
 | _,[]=>True
 | p,(b,t)::r=>(b=true∨Di p t=false)∧Qv (some t) r
def T6 (l:List (Bool×Tok)):Prop:=∀ u∈l,qk u.2=0∧0≤u.2.n∧u.2.n<18446744073709551616
def sg (s:ByteArray):Bool×Tok:=(false,qG s)
def Uo (v:Val):List (Bool×Tok):=(valT v).map fun t=>(false,t)
def spB:List (Bool×Tok)→List (Bool×Tok)
 | []=>[]
 | (_,t)::r=>(true,t)::r
def tF (o:OpV):List (Bool×Tok):=if o.lo=true then sg gy::(false,nameT zC)::sg gy::Uo o.val else sg eQ::Uo o.val
theorem b_com:ab gQ=[44,32]:=rfl
theorem b_comma:ab fJ=[44]:=rfl
theorem b_hash:ab eQ=[35]:=rfl
theorem b_shash:ab Bn=[32,35]:=rfl
theorem b_colon:ab gy=[58]:=rfl
theorem b_br:ab brS=[91]:=rfl
theorem b_br1:ab Ot=[91]:=rfl
theorem b_ek:ab ekS=[93]:=rfl
theorem b_ek1:ab qp=[93]:=rfl
theorem b_ekb:ab OH=[93,33]:=rfl
theorem b_ekc:ab OI=[93,44,32]:=rfl
theorem b_bang:ab F4=[33]:=rfl
theorem b_lo:ab Gt=[58,108,111,49,50,58]:=rfl
theorem b_lo12:ab zC=[108,111,49,50]:=rfl
def QB (o:OpV):Prop:=o.md=0∨(cX 3 o.md).2=0
end
end Go.Proofs.YtnhbidpdadkcjaaGreatDoor
