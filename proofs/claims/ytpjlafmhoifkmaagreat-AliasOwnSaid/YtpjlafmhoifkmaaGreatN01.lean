import Derived.WalkKit
import Derived.Lib.Hide
set_option linter.unusedVariables false
set_option linter.unusedSimpArgs false
set_option maxRecDepth 100000
set_option maxHeartbeats 8000000
namespace Go.Proofs.YtpjlafmhoifkmaaGreat
section
def Gok (M:Nat→Nat→Option Value):Prop:=True
theorem Gok.mono {M M':Nat→Nat→Option Value} (h:Gok M) (hle:∀ b o y,M b o=some y→M' b o=some y):Gok M':=trivial
end
section
open Go.RowKit
@[simp,go_sem] theorem lt_up2 (n:Nat):n<n+1+1:=by omega
@[simp,go_sem] theorem lt_up3 (n:Nat):n<n+1+1+1:=by omega
@[simp,go_sem] theorem lt_up4 (n:Nat):n<n+1+1+1+1:=by omega
@[simp,go_sem] theorem lt_up5 (n:Nat):n<n+1+1+1+1+1:=by omega
@[simp,go_sem] theorem lt_up6 (n:Nat):n<n+1+1+1+1+1+1:=by omega
@[simp,go_sem] theorem lt_up7 (n:Nat):n<n+1+1+1+1+1+1+1:=by omega
@[simp,go_sem] theorem lt_up8 (n:Nat):n<n+1+1+1+1+1+1+1+1:=by omega
@[simp,go_sem] theorem lt_up9 (n:Nat):n<n+1+1+1+1+1+1+1+1+1:=by omega
@[simp,go_sem] theorem lt_up10 (n:Nat):n<n+1+1+1+1+1+1+1+1+1+1:=by omega
@[simp,go_sem] theorem lt_up11 (n:Nat):n<n+1+1+1+1+1+1+1+1+1+1+1:=by omega
@[simp,go_sem] theorem lt_up12 (n:Nat):n<n+1+1+1+1+1+1+1+1+1+1+1+1:=by omega
@[simp,go_sem] theorem lt_up13 (n:Nat):n<n+1+1+1+1+1+1+1+1+1+1+1+1+1:=by omega
@[simp,go_sem] theorem lt_up14 (n:Nat):n<n+1+1+1+1+1+1+1+1+1+1+1+1+1+1:=by omega
@[simp,go_sem] theorem lt_up15 (n:Nat):n<n+1+1+1+1+1+1+1+1+1+1+1+1+1+1+1:=by omega
@[simp,go_sem] theorem lt_up16 (n:Nat):n<n+1+1+1+1+1+1+1+1+1+1+1+1+1+1+1+1:=by omega
def SL (w:World) (B sz:Nat) (A:Option Addr) (n:Nat) (xs:List Value):Prop :=
 xs.length=n*sz∧(0<n→∃ b off,A=some ⟨b,off,none⟩∧b<B∧∀ j u,xs[j]? = some u→w.cell? ⟨b,off+j,none⟩=some u)
section
variable {w w':World} {B B' sz n:Nat} {A:Option Addr} {xs:List Value}
theorem SL.keep (h:SL w B sz A n xs) (hk:∀ b o,b<B→w'.cell? ⟨b,o,none⟩=w.cell? ⟨b,o,none⟩):SL w' B sz A n xs :=
 ⟨h.1,fun hn=>by
  obtain ⟨b,off,e,hb,hc⟩:=h.2 hn
  exact ⟨b,off,e,hb,fun j u hu=>(hk _ _ hb).trans (hc j u hu)⟩⟩
theorem SL.more (h:SL w B sz A n xs) (hB:B≤B'):SL w B' sz A n xs :=
 ⟨h.1,fun hn=>by
  obtain ⟨b,off,e,hb,hc⟩:=h.2 hn
  exact ⟨b,off,e,by omega,hc⟩⟩
theorem SL.below (h:SL w B sz A n xs) (hb:Below B w w'):SL w' B sz A n xs:=h.keep fun b o hp=>hb.cell (p:=⟨b,o,none⟩) hp
theorem SL.drew (h:SL w B sz A n xs):SL w.drew B sz A n xs:=h
theorem SL.at_ (h:SL w B sz A n xs) (hn:0<n):∃ b off,A=some ⟨b,off,none⟩∧b<B∧∀ j u,xs[j]? = some u→w.cell? ⟨b,off+j,none⟩=some u:=h.2 hn
end
end
section
open Go.RowKit
structure Val where
 add:Int
 plus:ByteArray
 minus:ByteArray
def Val.v (x:Val):Value:=.agg #[.int .i64 x.add,.string x.plus,.string x.minus]
def emp:ByteArray:=⟨#[]⟩
section
variable {a b r1 r2:Val} {p1 p2 m1 m2:ByteArray}
end
structure Term where
 kind:Int
 n:Int
 sym:ByteArray
def Term.cells (t:Term):List Value:=[.int .i64 t.kind,.int .i64 t.n,.string t.sym]
theorem nL:(⟨#[]⟩:ByteArray)=emp:=rfl
end
end Go.Proofs.YtpjlafmhoifkmaaGreat
