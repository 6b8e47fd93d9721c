import Derived.Test.YthcoegkfpinlfaaGreatDoorChecked
import Derived.Test.YthcoegkfpinlfaaGreatDoorJ04
import Derived.Test.YthcoegkfpinlfaaGreatDoorJ11
import Derived.Test.YthcoegkfpinlfaaGreatDoorJ10
import Derived.WalkKit
import Derived.WalkSpells
import Derived.WalkLawsBesides
import Derived.Lib.SlBytesRow
set_option linter.unusedVariables false
set_option linter.unusedSimpArgs false
set_option maxRecDepth 100000
set_option maxHeartbeats 8000000
namespace Go.Proofs.YthcoegkfpinlfaaGreatDoor
section
open Go.RowKit
theorem mixed:Tryz.prog.follows .mixedOrders=true:=by kernel_rfl
def gF (lim:Nat) (s:ByteArray) (most:Int):AV:=.tup [.l (.v (.int .i64 (gZ lim s most).1)),.l (.v (.bool (gZ lim s most).2))]
theorem G7 (s:ByteArray) (most:Int):SW Tryz.prog ⟨none,0⟩ Tryz.f126.ntmps (Tryz.f126.body.getD .skip) ⟨0,aw 0 [bh.enc s,(bA .i64).enc most],[]⟩ (eK Tryz.prog Tryz.f126.results.toList (.ret (gF 3 s most))):=by
 refine ab (ctx:=[]) 4000 ?_
 rw [Tryz.ntmps126,Tryz.results126]
 simp only [Tryz.f126,Option.getD_some,aw]
 by_cases h1:s=emp
 ·simp only [go_sem,h1,ax,gF,gZ]
 ·have hne:¬s=emp:=h1
  by_cases h2:3<s.size
  ·have h2':(3:Int)<s.size:=by omega
   simp only [go_sem,hne,ax,h2',h2,gF,gZ]
  ·have h2':¬(3:Int)<s.size:=by omega
   have hpos:0<s.size:=wN h1
   have hp':(0:Int)<s.size:=by omega
   by_cases h4:1<s.size∧ac s 0=48
   ·have h3':(1:Int)<s.size:=by omega
    simp only [go_sem,hne,ax,h2,h2',h3',h4.1,h4.2,hp',gF,gZ]
   ·have h3:=h4
    by_cases h5:1<s.size
    ·have h3':(1:Int)<s.size:=by omega
     have h6:¬ac s 0=48:=fun h=>h4 ⟨h5,h⟩
     simp only [go_sem,hne,ax,h2',h3',h6,hp']
     clear h6 h3'
     refine dG (ι:=Nat×Int) (fun p=>p.1≤s.size∧mN s p.1=some p.2) (fun p=>⟨0,[(0,sv s),(1,iv most),(26,iv s.size),(27,iv p.1),(6,iv p.2)],[]⟩) (fun p=>s.size-p.1) (0,0) ⟨Nat.zero_le _,rfl⟩ (Wk.renL [] (by simp) (by simp) (by simp) rfl rfl) ?_
     rintro ⟨i,n⟩ ⟨hi,hn⟩
     refine ab (ctx:=[]) 4000 ?_
     simp only at hi hn
     by_cases hlt:i<s.size
     ·have hltI:(i:Int)<s.size:=by omega
      have hb:=FF hn (k:=2) (by omega)
      have hr:=fG s i
      by_cases ha:ac s i<48
      ·have hd:=rI (lim:=3) (most:=most) hlt hn (.inl ha)
       simp only [go_sem,hltI,ha,gF,hd]
      ·by_cases hc:57<ac s i
       ·have hd:=rI (lim:=3) (most:=most) hlt hn (.inr hc)
        simp only [go_sem,hltI,ha,hc,gF,hd]
       ·have hn':mN s (i+1)=some (10*n+(ac s i-48)):=by rw [mN,hn];simp [ha,hc]
        have e1:IntKind.u8.wrap (ac s i-48)=ac s i-48:=by rw [IntKind.wrap_u8];omega
        have e2:IntKind.i64.wrap (10*n)=10*n:=by rw [IntKind.wrap_i64];omega
        have e3:IntKind.i64.wrap (10*n+(ac s i-48))=10*n+(ac s i-48):=by rw [IntKind.wrap_i64];omega
        have e4:IntKind.i64.wrap ((i:Int)+1)=((i+1:Nat):Int):=by rw [IntKind.wrap_i64];omega
        have e5:IntKind.i64.wrap (ac s i-48)=ac s i-48:=by rw [IntKind.wrap_i64];omega
        simp only [go_sem,hltI,ha,hc,e1,e2,e3,e4,e5]
        exact ⟨(i+1,_),⟨hlt,hn'⟩,by omega,Wk.renL [] (by simp) (by simp) (by simp) rfl rfl⟩
     ·obtain rfl:i=s.size:=by omega
      have hI:¬(s.size:Int)<s.size:=by omega
      simp only [go_sem,hI,gF,gZ,hne,h2,h3,hn]
    ·have h3':¬(1:Int)<s.size:=by omega
     simp only [go_sem,hne,ax,h2',h3',hp']
     refine dG (ι:=Nat×Int) (fun p=>p.1≤s.size∧mN s p.1=some p.2) (fun p=>⟨0,[(0,sv s),(1,iv most),(26,iv s.size),(27,iv p.1),(6,iv p.2)],[]⟩) (fun p=>s.size-p.1) (0,0) ⟨Nat.zero_le _,rfl⟩ (Wk.renL [] (by simp) (by simp) (by simp) rfl rfl) ?_
     rintro ⟨i,n⟩ ⟨hi,hn⟩
     refine ab (ctx:=[]) 4000 ?_
     simp only at hi hn
     by_cases hlt:i<s.size
     ·have hltI:(i:Int)<s.size:=by omega
      have hb:=FF hn (k:=2) (by omega)
      have hr:=fG s i
      by_cases ha:ac s i<48
      ·have hd:=rI (lim:=3) (most:=most) hlt hn (.inl ha)
       simp only [go_sem,hltI,ha,gF,hd]
      ·by_cases hc:57<ac s i
       ·have hd:=rI (lim:=3) (most:=most) hlt hn (.inr hc)
        simp only [go_sem,hltI,ha,hc,gF,hd]
       ·have hn':mN s (i+1)=some (10*n+(ac s i-48)):=by rw [mN,hn];simp [ha,hc]
        have e1:IntKind.u8.wrap (ac s i-48)=ac s i-48:=by rw [IntKind.wrap_u8];omega
        have e2:IntKind.i64.wrap (10*n)=10*n:=by rw [IntKind.wrap_i64];omega
        have e3:IntKind.i64.wrap (10*n+(ac s i-48))=10*n+(ac s i-48):=by rw [IntKind.wrap_i64];omega
        have e4:IntKind.i64.wrap ((i:Int)+1)=((i+1:Nat):Int):=by rw [IntKind.wrap_i64];omega
        have e5:IntKind.i64.wrap (ac s i-48)=ac s i-48:=by rw [IntKind.wrap_i64];omega
        simp only [go_sem,hltI,ha,hc,e1,e2,e3,e4,e5]
        exact ⟨(i+1,_),⟨hlt,hn'⟩,by omega,Wk.renL [] (by simp) (by simp) (by simp) rfl rfl⟩
     ·obtain rfl:i=s.size:=by omega
      have hI:¬(s.size:Int)<s.size:=by omega
      simp only [go_sem,hI,gF,gZ,hne,h2,h3,hn]
end
section
open Go.RowKit
theorem Dy {P:Program} {src dst e:TypeId} (h1:P.underlying src=some (.slice e)) (h2:P.underlying e=some (.int .u8)) (h3:P.underlying dst=some .string) {w:World} {b off:Nat} (zs:List Int) (hr:∀ z∈zs,0≤z∧z≤255) (hc:∀ (i:Nat) (z:Int),zs[i]? = some z→w.cell? ⟨b,off+i,none⟩=some (.int .u8 z)) {m:Nat} (hm:m=zs.length) (cap:Nat) :
  (convert src dst (.slice (some ⟨b,off,none⟩) m cap)).run P w=.ok (.string (aQ zs)) w:=by
 have hs:(aQ zs).size=zs.length:=iJ zs
 rw [hm,← hs]
 refine Lib.run_convert_whole _ _ e _ h1 h2 h3 _ _ _ (fun i hi=>?_) cap
 have hi':i<zs.length:=by rw [hs] at hi;exact hi
 have:=hr _ (List.getElem_mem hi')
 rw [hc i zs[i] (List.getElem?_eq_getElem hi')]
 have e1:(aQ zs)[i]=UInt8.ofNat zs[i].toNat:=by
  change (aQ zs).data[i]'(by simpa [aQ] using hi')=_
  simp [aQ]
 rw [e1]
 simp
 omega
theorem Mg (n:Int) (w:World) (h:0≤n∧n<1000) :
  Calls Tryz.prog 116 #[.int .i64 n] w fun e w'=>e=.returned (.string (dK n))∧Below w.heap.size w w':=by
 obtain ⟨h0,h1⟩:=h
 have d1:n.tdiv 100=n / 100:=Int.tdiv_eq_ediv_of_nonneg h0
 have d2:n.tdiv 10=n / 10:=Int.tdiv_eq_ediv_of_nonneg h0
 have d3:n.tmod 10=n % 10:=Int.tmod_eq_emod_of_nonneg h0
 have d4:(n / 10).tmod 10=n / 10 % 10:=Int.tmod_eq_emod_of_nonneg (by omega)
 have HC:=Lib.hid fun (zs:List Int) (o:Obj) (off m cap:Nat) (hr:∀ z∈zs,0≤z∧z≤255) (hc:∀ (i:Nat) (z:Int),zs[i]? = some z→(w.alloc o).cell? ⟨w.heap.size,off+i,none⟩=some (.int .u8 z)) (hm:m=zs.length)=>Dy (P:=Tryz.prog) Tryz.underlying82 Tryz.underlying5 Tryz.underlying9 (w:=w.alloc o) (b:=w.heap.size) (off:=off) zs hr hc hm cap
 have hcell:∀ (a b c:Value) (t:TypeId) (i:Nat) (v:Value),[a,b,c][i]? = some v→(w.alloc (.cells #[a,b,c] t)).cell? ⟨w.heap.size,i,none⟩=some v:=by
  intro a b c t i v hv
  have hb:(w.alloc (.cells #[a,b,c] t)).heap[w.heap.size]? = some (.cells #[a,b,c] t):=heap_alloc_new w _
  rw [cell_of_row _ _ _ _ _ _ hb]
  simpa using hv
 have HCC:=Lib.hid hcell
 clear hcell
 go_enter Tryz.func116,Tryz.ntmps116
 go_wp2_with fail
 ·have h2:n<10:=by assumption
  have ht:dK n=aQ [48+n]:=by rw [dK,if_pos h2]
  rw [HC.out [48+n] _ 2 1 1 (by simp;omega) (fun i z hz=>HCC.out _ _ _ _ _ _ (by
   cases i with
   | zero=>simp at hz;subst hz;simp;omega
   | succ i=>simp at hz)) rfl]
  go_wp2_with fail
  go_ret
  rw [ht]
  exact ⟨rfl,(by ((repeat (first | with_reducible refine Below.drew ?_ | (with_reducible refine Below.alloc ?_ ?_ _;rotate_left;(focus (first | (simp;done) | (simp;omega) | omega))) | (with_reducible refine Below.setCell ?_ ?_ _;rotate_left;(focus (first | (simp;done) | (simp;omega) | omega)))));(first | with_reducible exact Below.refl _ _ | with_reducible assumption)))⟩
 ·have h2:10≤n:=by assumption
  have h3:n<100:=by assumption
  have ht:dK n=aQ [48+n / 10,48+n % 10]:=by rw [dK,if_neg (by omega),if_pos h3]
  rw [HC.out [48+n / 10,48+n % 10] _ 1 2 2 (by simp;omega) (fun i z hz=>HCC.out _ _ _ _ _ _ (by
   match i with
   | 0=>simp at hz;subst hz;simp;omega
   | 1=>simp at hz;subst hz;simp
   | i+2=>simp at hz)) rfl]
  go_wp2_with fail
  go_ret
  rw [ht]
  exact ⟨rfl,(by ((repeat (first | with_reducible refine Below.drew ?_ | (with_reducible refine Below.alloc ?_ ?_ _;rotate_left;(focus (first | (simp;done) | (simp;omega) | omega))) | (with_reducible refine Below.setCell ?_ ?_ _;rotate_left;(focus (first | (simp;done) | (simp;omega) | omega)))));(first | with_reducible exact Below.refl _ _ | with_reducible assumption)))⟩
 ·have h2:100≤n:=by assumption
  have ht:dK n=aQ [48+n / 100,48+n / 10 % 10,48+n % 10]:=by rw [dK,if_neg (by omega),if_neg (by omega)]
  rw [HC.out [48+n / 100,48+n / 10 % 10,48+n % 10] _ 0 3 3 (by simp;omega) (fun i z hz=>HCC.out _ _ _ _ _ _ (by
   match i with
   | 0=>simp at hz;subst hz;simp
   | 1=>simp at hz;subst hz;simp
   | 2=>simp at hz;subst hz;simp
   | i+3=>simp at hz)) rfl]
  go_wp2_with fail
  go_ret
  rw [ht]
  exact ⟨rfl,(by ((repeat (first | with_reducible refine Below.drew ?_ | (with_reducible refine Below.alloc ?_ ?_ _;rotate_left;(focus (first | (simp;done) | (simp;omega) | omega))) | (with_reducible refine Below.setCell ?_ ?_ _;rotate_left;(focus (first | (simp;done) | (simp;omega) | omega)))));(first | with_reducible exact Below.refl _ _ | with_reducible assumption)))⟩
end
end Go.Proofs.YthcoegkfpinlfaaGreatDoor
