import Derived.Test.YthcoegkfpinlfaaGreatDoorO44
import Derived.Test.YthcoegkfpinlfaaGreatDoorO35
set_option linter.unusedVariables false
set_option linter.unusedSimpArgs false
set_option maxRecDepth 100000
set_option maxHeartbeats 8000000
namespace Go.Proofs.YthcoegkfpinlfaaGreatDoor
open Go.RowKit
def ixbF (s:ByteArray) (c:Int):Int:=Lib.indexByte s.data.toList c.toNat.toUInt8
def ixbS:cK Tryz.prog 134 :=
 mk2C _ (fun _ _=>by go_simp) bg (aR .u8) (fun _ _=>True) (fun s c=>iv (ixbF s c)) (fun _ _=>rfl) (fun s p hp M w u v _ hu hv=>by
  have hu':u=.string s:=hu
  have hv':v=.int .u8 p:=hv
  subst hu'
  subst hv'
  refine (Lg s p w).mono ?_
  rintro e w' ⟨rfl,rfl⟩
  exact ⟨⟨_,rfl,rfl⟩,.refl _ _⟩)
theorem ixb_run {id:Nat} {h:aF} {args:List AV}:ixbS.run id h args=be (bE bg (aR .u8) (fun _ _=>True)) (fun x=>.ret (iv (ixbF x.1 x.2))) h args:=rfl
theorem V1 {α:Type} {T:Ty α} {p:α→Prop} {pB:α→Bool} (hp:∀ x,pB x=true→p x) {zs:List AV} {q:Prop} {x:α} (h:aV T p zs=some (q,x)) (hb:pB x=true):q:=by
 unfold aV at h
 split at h
 ·split at h
  ·injection h with h
   injection h with h1 h2
   subst h1 h2
   exact hp _ hb
  ·cases h
 ·cases h
theorem NU {α β:Type} {T:Ty α} {U:Ty β} {p:α→β→Prop} {pB:α×β→Bool} (hp:∀ x y,pB (x,y)=true→p x y) {zs:List AV} {q:Prop} {x:α×β} (h:bE T U p zs=some (q,x)) (hb:pB x=true):q:=by
 unfold bE at h
 split at h
 ·split at h
  ·injection h with h
   injection h with h1 h2
   subst h1 h2
   exact hp _ _ hb
  ·cases h
 ·cases h
def okPB (v:Val):Bool:=Nat.ble v.plus.size maxLen&&(Nat.ble v.minus.size maxLen&&(decide (-9223372036854775808≤v.add)&&decide (v.add≤9223372036854775807)))
theorem okPB_ok (v:Val) (h:okPB v=true):lS v:=by
 unfold okPB at h
 simp only [Bool.and_eq_true,decide_eq_true_eq] at h
 exact ⟨Nat.le_of_ble_eq_true h.1,Nat.le_of_ble_eq_true h.2.1,h.2.2.1,h.2.2.2⟩
noncomputable def exL:List (Sp Tryz.prog):=[
 spP 33 O6 (aV (cB DB) lS) (fun v=>.ret (cv (Ex.printF v))) (fun _ _ _=>rfl) okPB (fun _ _ _ h hb=>V1 okPB_ok h hb),
 spP 64 CT (aV (cB fh) (fun _=>True)) (fun r=>.ret (cZ (cA r))) (fun _ _ _=>rfl) (fun _=>true) (fun _ _ _ h hb=>V1 (pB:=fun _=>true) (fun _ _=>trivial) h hb),
 spP 134 ixbS (bE bg (aR .u8) (fun _ _=>True)) (fun x=>.ret (iv (ixbF x.1 x.2))) (fun _ _ _=>rfl) (fun _=>true) (fun _ _ _ h hb=>NU (pB:=fun _=>true) (fun _ _ _=>trivial) h hb),
 spP 24 KU (bE bg bg (fun _ p=>p.size=1)) (fun x=>.ret (bv (decide (0≤Lib.indexByte x.1.data.toList (hdU x.2))))) (fun _ _ _=>rfl) (fun x:ByteArray×ByteArray=>Nat.beq x.2.size 1) (fun _ _ _ h hb=>NU (pB:=fun x:ByteArray×ByteArray=>Nat.beq x.2.size 1) (fun _ _ hb=>Nat.eq_of_beq_eq_true hb) h hb),
 spP 31 KS (bE (aR .i64) bg (fun _ s=>s.size≤1099511627776)) (fun x=>.ret (lW (cV 3 x.1 x.2))) (fun _ _ _=>rfl) (fun x:Int×ByteArray=>Nat.ble x.2.size 1099511627776) (fun _ _ _ h hb=>NU (pB:=fun x:Int×ByteArray=>Nat.ble x.2.size 1099511627776) (fun _ _ hb=>Nat.le_of_ble_eq_true hb) h hb),
 spP 25 VV (bE Wo bg (fun l p=>l.length≤1000000∧(JE l p).size≤140737488355328)) (fun x=>.ret (sv (JE x.1 x.2))) (fun _ _ _=>rfl) (fun x:List ByteArray×ByteArray=>Nat.ble x.1.length 1000000&&Nat.ble (JE x.1 x.2).size 140737488355328) (fun _ _ _ h hb=>NU (pB:=fun x:List ByteArray×ByteArray=>Nat.ble x.1.length 1000000&&Nat.ble (JE x.1 x.2).size 140737488355328) (fun _ _ hb=>by simp only [Bool.and_eq_true] at hb;exact ⟨Nat.le_of_ble_eq_true hb.1,Nat.le_of_ble_eq_true hb.2⟩) h hb)]
noncomputable def exprDf:Df Tryz.prog:=mkDf (f:=145) (g:=158) Tryz.func145 rfl Tryz.func158 rfl rfl rfl rfl rfl (by decide) (by kernel_rfl) (by kernel_rfl) rfl rfl rfl rfl rfl rfl (by decide) [2,3,4]
noncomputable def listDf:Df Tryz.prog:=mkDfP (f:=10) (g:=27) Tryz.func10 rfl Tryz.func27 rfl rfl rfl rfl rfl (by decide) (by kernel_rfl) (by kernel_rfl) rfl rfl rfl (fun _=>rfl) [2,3]
noncomputable def dsL:List (Df Tryz.prog):=[exprDf,listDf]
theorem WL (id:Nat) (h:aF):PZ Tryz.prog exL dsL noRgK 60 6 id h []=.val (bv true) []:=by kernel_rfl
noncomputable def Q3:cK Tryz.prog 6:=mkEvM mixed (YB _) 60 WL
theorem OF {id:Nat} {h:aF}:Q3.run id h []=some ⟨True,bv true,[]⟩:=rfl
theorem Oj {id:Nat} {h:aF}:Q3.pan id h []=none:=rfl
end Go.Proofs.YthcoegkfpinlfaaGreatDoor
