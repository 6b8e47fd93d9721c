import Derived.Test.YtnhbidpdadkcjaaGreatDoorChecked
import Derived.Test.YtnhbidpdadkcjaaGreatDoorG07
open Go.RowKit
set_option linter.unusedVariables false
set_option linter.unusedSimpArgs false
set_option maxRecDepth 100000
set_option maxHeartbeats 8000000
namespace Go.Proofs.YtnhbidpdadkcjaaGreatDoor
open Tryz
section
universe u
@[go_sem] theorem mk0_rn {P:Program} {f fn c hf hb hen q out body id h args}:(mk0 (P:=P) f fn c hf hb hen q out body).run id h args=fT (tw q) (fun _=>out) h args:=rfl
@[go_sem] theorem mk0_pn {P:Program} {f fn c hf hb hen q out body id h args}:(mk0 (P:=P) f fn c hf hb hen q out body).pan id h args=gh (tw q) (fun _=>out) h args:=rfl
@[go_sem] theorem mk1_rn {P:Program} {α:Type} {T:Ty α} {f fn c hf hb hen q out hn body id h args}:(mk1 (P:=P) f fn c hf hb hen T q out hn body).run id h args=fT (cE T q) out h args:=rfl
@[go_sem] theorem mk1_pn {P:Program} {α:Type} {T:Ty α} {f fn c hf hb hen q out hn body id h args}:(mk1 (P:=P) f fn c hf hb hen T q out hn body).pan id h args=gh (cE T q) out h args:=rfl
@[go_sem] theorem mk2_rn {P:Program} {α β:Type} {T:Ty α} {U:Ty β} {f fn c hf hb hen q out hn body id h args}:(mk2 (P:=P) f fn c hf hb hen T U q out hn body).run id h args=fT (e9 T U q) (fun x=>out x.1 x.2) h args:=rfl
@[go_sem] theorem mk2_pn {P:Program} {α β:Type} {T:Ty α} {U:Ty β} {f fn c hf hb hen q out hn body id h args}:(mk2 (P:=P) f fn c hf hb hen T U q out hn body).pan id h args=gh (e9 T U q) (fun x=>out x.1 x.2) h args:=rfl
@[go_sem] theorem mk3_rn {P:Program} {α β γ:Type} {T:Ty α} {U:Ty β} {V:Ty γ} {f fn c hf hb hen q out hn body id h args}:(mk3 (P:=P) f fn c hf hb hen T U V q out hn body).run id h args=fT (pW T U V q) (fun x=>out x.1 x.2.1 x.2.2) h args:=rfl
@[go_sem] theorem mk3_pn {P:Program} {α β γ:Type} {T:Ty α} {U:Ty β} {V:Ty γ} {f fn c hf hb hen q out hn body id h args}:(mk3 (P:=P) f fn c hf hb hen T U V q out hn body).pan id h args=gh (pW T U V q) (fun x=>out x.1 x.2.1 x.2.2) h args:=rfl
@[go_sem] theorem mk4_rn {P:Program} {α β γ δ:Type} {T:Ty α} {U:Ty β} {V:Ty γ} {W:Ty δ} {f fn c hf hb hen q out hn body id h args}:(mk4 (P:=P) f fn c hf hb hen T U V W q out hn body).run id h args=fT (tx T U V W q) (fun x=>out x.1 x.2.1 x.2.2.1 x.2.2.2) h args:=rfl
@[go_sem] theorem mk4_pn {P:Program} {α β γ δ:Type} {T:Ty α} {U:Ty β} {V:Ty γ} {W:Ty δ} {f fn c hf hb hen q out hn body id h args}:(mk4 (P:=P) f fn c hf hb hen T U V W q out hn body).pan id h args=gh (tx T U V W q) (fun x=>out x.1 x.2.1 x.2.2.1 x.2.2.2) h args:=rfl
theorem asP {p:Prop}(h:p):p:=h
theorem Ay {fn:Func}(h:fn.body.isSome=true):fn.body=some (fn.body.getD .skip):=by
 cases e:fn.body with
 |none=>rw[e]at h;cases h
 |some c=>rfl
def mz0 {P:Program}{f:FuncId}{fn:Func}(hf:P.funcs[f]? = some fn)(q:Prop)(out:PO)(body:∀_:q,SW P ⟨none,0⟩ fn.ntmps (fn.body.getD .skip) ⟨0,[],[]⟩ (pT P fn.results.toList out))(hb:fn.body.isSome=true:=by exact asP rfl)(hen:∀(args:Array Value) (w:World),(callFunc f args).run P w=.ok (.enter f args) w:=by exact asP (fun _ _=>by go_simp)):am P f :=
 mk0 f fn (fn.body.getD .skip) hf (Ay hb) hen q out body
@[go_sem] theorem mz0_rn {P:Program} {f fn hf q out body hb hen id h args}:(mz0 (P:=P) (f:=f) (fn:=fn) hf q out body hb hen).run id h args=fT (tw q) (fun _=>out) h args:=rfl
@[go_sem] theorem mz0_pn {P:Program} {f fn hf q out body hb hen id h args}:(mz0 (P:=P) (f:=f) (fn:=fn) hf q out body hb hen).pan id h args=gh (tw q) (fun _=>out) h args:=rfl
def mz1 {P:Program}{α:Type}{f:FuncId}{fn:Func}(hf:P.funcs[f]? = some fn)(T:Ty α)(q:α→Prop)(out:α→PO)(body:∀x,q x→SW P ⟨none,0⟩ fn.ntmps (fn.body.getD .skip) ⟨0,ax 0 [T.enc x],[]⟩ (pT P fn.results.toList (out x)))(hb:fn.body.isSome=true:=by exact asP rfl)(hen:∀(args:Array Value) (w:World),(callFunc f args).run P w=.ok (.enter f args) w:=by exact asP (fun _ _=>by go_simp))(hn:Nat.ble 1 fn.ntmps=true:=by exact asP rfl):am P f :=
 mk1 f fn (fn.body.getD .skip) hf (Ay hb) hen T q out (Nat.le_of_ble_eq_true hn) body
@[go_sem] theorem mz1_rn {P:Program} {α:Type} {T:Ty α} {f fn hf q out body hb hen hn id h args}:(mz1 (P:=P) (f:=f) (fn:=fn) hf T q out body hb hen hn).run id h args=fT (cE T q) out h args:=rfl
@[go_sem] theorem mz1_pn {P:Program} {α:Type} {T:Ty α} {f fn hf q out body hb hen hn id h args}:(mz1 (P:=P) (f:=f) (fn:=fn) hf T q out body hb hen hn).pan id h args=gh (cE T q) out h args:=rfl
def mz2 {P:Program}{α β:Type}{f:FuncId}{fn:Func}(hf:P.funcs[f]? = some fn)(T:Ty α)(U:Ty β)(q:α→β→Prop)(out:α→β→PO)(body:∀x y,q x y→SW P ⟨none,0⟩ fn.ntmps (fn.body.getD .skip) ⟨0,ax 0 [T.enc x,U.enc y],[]⟩ (pT P fn.results.toList (out x y)))(hb:fn.body.isSome=true:=by exact asP rfl)(hen:∀(args:Array Value) (w:World),(callFunc f args).run P w=.ok (.enter f args) w:=by exact asP (fun _ _=>by go_simp))(hn:Nat.ble 2 fn.ntmps=true:=by exact asP rfl):am P f :=
 mk2 f fn (fn.body.getD .skip) hf (Ay hb) hen T U q out (Nat.le_of_ble_eq_true hn) body
@[go_sem] theorem mz2_rn {P:Program} {α β:Type} {T:Ty α} {U:Ty β} {f fn hf q out body hb hen hn id h args}:(mz2 (P:=P) (f:=f) (fn:=fn) hf T U q out body hb hen hn).run id h args=fT (e9 T U q) (fun x=>out x.1 x.2) h args:=rfl
@[go_sem] theorem mz2_pn {P:Program} {α β:Type} {T:Ty α} {U:Ty β} {f fn hf q out body hb hen hn id h args}:(mz2 (P:=P) (f:=f) (fn:=fn) hf T U q out body hb hen hn).pan id h args=gh (e9 T U q) (fun x=>out x.1 x.2) h args:=rfl
def mz3 {P:Program}{α β γ:Type}{f:FuncId}{fn:Func}(hf:P.funcs[f]? = some fn)(T:Ty α)(U:Ty β)(V:Ty γ)(q:α→β→γ→Prop)(out:α→β→γ→PO)(body:∀x y z,q x y z→SW P ⟨none,0⟩ fn.ntmps (fn.body.getD .skip) ⟨0,ax 0 [T.enc x,U.enc y,V.enc z],[]⟩ (pT P fn.results.toList (out x y z)))(hb:fn.body.isSome=true:=by exact asP rfl)(hen:∀(args:Array Value) (w:World),(callFunc f args).run P w=.ok (.enter f args) w:=by exact asP (fun _ _=>by go_simp))(hn:Nat.ble 3 fn.ntmps=true:=by exact asP rfl):am P f :=
 mk3 f fn (fn.body.getD .skip) hf (Ay hb) hen T U V q out (Nat.le_of_ble_eq_true hn) body
@[go_sem] theorem mz3_rn {P:Program} {α β γ:Type} {T:Ty α} {U:Ty β} {V:Ty γ} {f fn hf q out body hb hen hn id h args}:(mz3 (P:=P) (f:=f) (fn:=fn) hf T U V q out body hb hen hn).run id h args=fT (pW T U V q) (fun x=>out x.1 x.2.1 x.2.2) h args:=rfl
@[go_sem] theorem mz3_pn {P:Program} {α β γ:Type} {T:Ty α} {U:Ty β} {V:Ty γ} {f fn hf q out body hb hen hn id h args}:(mz3 (P:=P) (f:=f) (fn:=fn) hf T U V q out body hb hen hn).pan id h args=gh (pW T U V q) (fun x=>out x.1 x.2.1 x.2.2) h args:=rfl
def mz4 {P:Program}{α β γ δ:Type}{f:FuncId}{fn:Func}(hf:P.funcs[f]? = some fn)(T:Ty α)(U:Ty β)(V:Ty γ)(W:Ty δ)(q:α→β→γ→δ→Prop)(out:α→β→γ→δ→PO)(body:∀x y z u,q x y z u→SW P ⟨none,0⟩ fn.ntmps (fn.body.getD .skip) ⟨0,ax 0 [T.enc x,U.enc y,V.enc z,W.enc u],[]⟩ (pT P fn.results.toList (out x y z u)))(hb:fn.body.isSome=true:=by exact asP rfl)(hen:∀(args:Array Value) (w:World),(callFunc f args).run P w=.ok (.enter f args) w:=by exact asP (fun _ _=>by go_simp))(hn:Nat.ble 4 fn.ntmps=true:=by exact asP rfl):am P f :=
 mk4 f fn (fn.body.getD .skip) hf (Ay hb) hen T U V W q out (Nat.le_of_ble_eq_true hn) body
@[go_sem] theorem mz4_rn {P:Program} {α β γ δ:Type} {T:Ty α} {U:Ty β} {V:Ty γ} {W:Ty δ} {f fn hf q out body hb hen hn id h args}:(mz4 (P:=P) (f:=f) (fn:=fn) hf T U V W q out body hb hen hn).run id h args=fT (tx T U V W q) (fun x=>out x.1 x.2.1 x.2.2.1 x.2.2.2) h args:=rfl
@[go_sem] theorem mz4_pn {P:Program} {α β γ δ:Type} {T:Ty α} {U:Ty β} {V:Ty γ} {W:Ty δ} {f fn hf q out body hb hen hn id h args}:(mz4 (P:=P) (f:=f) (fn:=fn) hf T U V W q out body hb hen hn).pan id h args=gh (tx T U V W q) (fun x=>out x.1 x.2.1 x.2.2.1 x.2.2.2) h args:=rfl
theorem aq {P:Program}{F:Func}{ro:Cf}{b:Code}{s:St}{Q:Exit→St→Prop}(ctx:Ctx P)(hb:F.body=some b)(h:aQ P ctx ro F.ntmps 4000 [.c b] s Q):SW P ro F.ntmps (F.body.getD .skip) s Q:=by
 rw[hb];exact jh (ctx:=ctx) 4000 h
theorem aw {P:Program}{ro:Cf}{n:Nat}{b:Code}{s:St}{Q:Exit→St→Prop}(ctx:Ctx P)(h:aQ P ctx ro n 4000 [.c b] s Q):SW P ro n b s Q:=jh (ctx:=ctx) 4000 h
theorem sD {P:Program}{ro:Cf}{n:Nat}(hm:P.follows .mixedOrders=true){id:Nat}{l:List Oper}(ctx:Ctx P)(ms:List Nat){s:St}{Q:Exit→St→Prop}(h:aDr P ctx n ⟨ms,[],[]⟩ s.nx s.h Q l l 0 [] [] s.t)(hok:vo l ⟨ms,[],[]⟩=true:=by kernel_rfl):SW P ro n (.region id l.toArray true) s Q:=OU hm ms hok h
theorem wR {ro:Cf}{s s':St}(L:List Nat)(hK:∀j,j<ro.K→L[j]? = some j:=by simp)(hn:L.length≤s'.nx:=by simp)(hd:L.Nodup:=by simp)(ht:s'.t.map (fun p=>bI s.t p.1)=s'.t.map fun p=>p.2.ren fun b=>L.getD b s.nx:=by exact rfl)
  (hh:s'.h.map (fun p=>ac s.h (L.getD p.1 s.nx))=s'.h.map fun p=>p.2.map fun k=>k.ren fun b=>L.getD b s.nx:=by exact rfl):Wk ro s s':=Wk.renL L hK hn hd ht hh
theorem wI (i:Nat)(h:i<9223372036854775807:=by omega):IntKind.i64.wrap ((i:Int)+1)=((i+1:Nat):Int):=by rw[IntKind.wrap_i64];omega
abbrev Sw (F:Func)(k:Nat)(s:St)(Q:Exit→St→Prop):=SW prog ⟨none,k⟩ F.ntmps (F.body.getD .skip) s Q
abbrev oQ (F:Func)(o:PO):=pT prog F.results.toList o
abbrev oR (F:Func)(k:Nat)(o:RO):=um prog F.results.toList k o
attribute [go_sem] ax
theorem nG {c:Prop}{α:Sort u}[Decidable c]{a b:α}(h:¬c:=by omega):ite c a b=b:=if_neg h
theorem pS {c:Prop}{α:Sort u}[Decidable c]{a b:α}(h:c:=by omega):ite c a b=a:=if_pos h
theorem blw {n:Nat}{w w':World}(h:Below n w w':=by((repeat (first | with_reducible refine Below.drew ?_ | (with_reducible refine Below.alloc ?_ ?_ _;rotate_left;(focus (first | (simp;done) | (simp;omega) | omega))) | (with_reducible refine Below.setCell ?_ ?_ _;rotate_left;(focus (first | (simp;done) | (simp;omega) | omega)))));(first | with_reducible exact Below.refl _ _ | with_reducible assumption))):Below n w w':=h
@[go_sem] theorem mk1C_rn {P:Program} {α:Type} {T:Ty α} {f hen q out hpl calls id h args}:(xj (P:=P) f hen T q out hpl calls).run id h args=fT (cE T q) (fun x=>.ret (out x)) h args:=rfl
@[go_sem] theorem mk1C_pn {P:Program} {α:Type} {T:Ty α} {f hen q out hpl calls id h args}:(xj (P:=P) f hen T q out hpl calls).pan id h args=gh (cE T q) (fun x=>.ret (out x)) h args:=rfl
attribute [go_sem] ntmps3 results3 ntmps10 results10 ntmps11 results11 ntmps12 results12 ntmps13 results13 ntmps14 results14 ntmps15 results15 ntmps20 results20 ntmps38 results38 ntmps39 results39 ntmps43 results43 ntmps44 results44 ntmps45 results45 ntmps46 results46 ntmps47 results47 ntmps48 results48 ntmps50 results50 ntmps51 results51 ntmps60 results60 ntmps91 results91 ntmps95 results95 ntmps96 results96 ntmps97 results97 ntmps98 results98 ntmps99 results99 ntmps100 results100 ntmps101 results101 ntmps102 results102 ntmps103 results103 ntmps104 results104 ntmps105 results105 ntmps106 results106 ntmps107 results107 ntmps108 results108 ntmps109 results109 ntmps111 results111 ntmps117 results117 ntmps120 results120 ntmps121 results121 ntmps126 results126 ntmps127 results127 ntmps128 results128 ntmps139 results139 ntmps140 results140 ntmps141 results141 ntmps143 results143 ntmps144 results144 ntmps148 results148 ntmps149 results149 ntmps150 results150 ntmps151 results151 ntmps152 results152 ntmps166 results166 ntmps167 results167 ntmps168 results168 ntmps169 results169 ntmps170 results170 ntmps171 results171 ntmps172 results172 ntmps173 results173 ntmps174 results174 ntmps175 results175 ntmps182 results182 ntmps183 results183 ntmps184 results184 ntmps185 results185 ntmps186 results186 ntmps187 results187 ntmps188 results188 ntmps189 results189 ntmps192 results192 ntmps193 results193 ntmps194 results194 ntmps195 results195 ntmps198 results198 ntmps199 results199 ntmps200 results200 ntmps201 results201 ntmps202 results202 ntmps203 results203 ntmps204 results204 ntmps205 results205 ntmps209 results209 ntmps210 results210 ntmps211 results211 ntmps212 results212 ntmps213 results213 ntmps214 results214 ntmps215 results215 ntmps217 results217 ntmps218 results218 ntmps219 results219 ntmps220 results220 ntmps221 results221 ntmps222 results222 ntmps223 results223 ntmps224 results224 ntmps225 results225 ntmps226 results226 ntmps228 results228 ntmps232 results232 ntmps233 results233 ntmps234 results234 ntmps236 results236 ntmps240 results240 ntmps241 results241 ntmps242 results242 ntmps243 results243 ntmps244 results244 ntmps245 results245 ntmps246 results246 ntmps248 results248 ntmps249 results249 ntmps250 results250 ntmps251 results251 ntmps252 results252 ntmps253 results253 ntmps259 results259 ntmps265 results265 ntmps267 results267 ntmps268 results268 ntmps269 results269 ntmps270 results270 ntmps283 results283 ntmps289 results289 ntmps290 results290 ntmps296 results296 ntmps297 results297 ntmps298 results298 ntmps299 results299
end
end Go.Proofs.YtnhbidpdadkcjaaGreatDoor
