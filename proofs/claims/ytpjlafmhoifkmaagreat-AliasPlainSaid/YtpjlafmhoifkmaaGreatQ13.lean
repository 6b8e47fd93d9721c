/- The document's lines: operands, words, a line. The document's lines: names of conditions, transfers, shifted registers, lines held against each other. -/
import Derived.Test.YtpjlafmhoifkmaaGreatJ7
import Derived.Test.YtpjlafmhoifkmaaGreatBb
import Derived.Test.YtpjlafmhoifkmaaGreatR9
import Derived.Test.YtpjlafmhoifkmaaGreatR0
import Derived.Test.YtpjlafmhoifkmaaGreatP4
set_option linter.unusedVariables false
set_option linter.unusedSimpArgs false
namespace Go.Proofs.YtpjlafmhoifkmaaGreat
open Go.RowKit
set_option maxRecDepth 100000

theorem en_rreg (args : Array Value) (w : World) : (callFunc 84 args).run Tryz.prog w = .ok (.enter 84 args) w := by go_simp
def rregS : Spec Tryz.prog 84 :=
  mk2 _ _ _ Tryz.func84 rfl en_rreg (tInt .i64) (tBool) ((fun _ _ => True)) ((fun n x => .ret (opV (oReg n x)))) (by rw [Tryz.ntmps84]; decide) (fun n x _ => by
  refine aRun_sound (ctx := []) 4000 ?_
  rw [Tryz.ntmps84, Tryz.results84]
  simp only [Tryz.f84, Option.getD_some, zipT]
  simp only [go_sem, opV, oReg, op0, r0, opR, opE, emp])
theorem rreg_run {id : Nat} {h : Heap} {args : List AV} : (rregS).run id h args = runP (args2 (tInt .i64) (tBool) ((fun _ _ => True))) (fun x => ((fun n x => .ret (opV (oReg n x)))) x.1 x.2) h args := rfl
theorem rreg_pan {id : Nat} {h : Heap} {args : List AV} : (rregS).pan id h args = panP (args2 (tInt .i64) (tBool) ((fun _ _ => True))) (fun x => ((fun n x => .ret (opV (oReg n x)))) x.1 x.2) h args := rfl
theorem en_rregSP (args : Array Value) (w : World) : (callFunc 83 args).run Tryz.prog w = .ok (.enter 83 args) w := by go_simp
def rregSPS : Spec Tryz.prog 83 :=
  mk2 _ _ _ Tryz.func83 rfl en_rregSP (tInt .i64) (tBool) ((fun _ _ => True)) ((fun n x => .ret (opV (oSP n x)))) (by rw [Tryz.ntmps83]; decide) (fun n x _ => by
  refine aRun_sound (ctx := []) 4000 ?_
  rw [Tryz.ntmps83, Tryz.results83]
  simp only [Tryz.f83, Option.getD_some, zipT]
  simp only [go_sem, opV, oSP, op0, r0, opR, opE, emp])
theorem rregSP_run {id : Nat} {h : Heap} {args : List AV} : (rregSPS).run id h args = runP (args2 (tInt .i64) (tBool) ((fun _ _ => True))) (fun x => ((fun n x => .ret (opV (oSP n x)))) x.1 x.2) h args := rfl
theorem rregSP_pan {id : Nat} {h : Heap} {args : List AV} : (rregSPS).pan id h args = panP (args2 (tInt .i64) (tBool) ((fun _ _ => True))) (fun x => ((fun n x => .ret (opV (oSP n x)))) x.1 x.2) h args := rfl
def spF (is : Bool) (n : Int) (x : Bool) : OpV := if is then oSP n x else oReg n x
theorem en_rspIf (args : Array Value) (w : World) : (callFunc 91 args).run Tryz.prog w = .ok (.enter 91 args) w := by go_simp
def rspIfS : Spec Tryz.prog 91 :=
  mk3 _ _ _ Tryz.func91 rfl en_rspIf (tBool) (tInt .i64) (tBool) ((fun _ _ _ => True)) ((fun b n x => .ret (opV (spF b n x)))) (by rw [Tryz.ntmps91]; decide) (fun b n x _ => by
  refine aRun_sound (ctx := [⟨_, rregS⟩, ⟨_, rregSPS⟩]) 4000 ?_
  rw [Tryz.ntmps91, Tryz.results91]
  simp only [Tryz.f91, Option.getD_some, zipT]
  cases b <;> simp only [go_sem, rreg_run, rreg_pan, rregSP_run, rregSP_pan, spF, opV, oReg, oSP, op0, r0, opR, opE, emp])
theorem rspIf_run {id : Nat} {h : Heap} {args : List AV} : (rspIfS).run id h args = runP (args3 (tBool) (tInt .i64) (tBool) ((fun _ _ _ => True))) (fun x => ((fun b n x => .ret (opV (spF b n x)))) x.1 x.2.1 x.2.2) h args := rfl
theorem rspIf_pan {id : Nat} {h : Heap} {args : List AV} : (rspIfS).pan id h args = panP (args3 (tBool) (tInt .i64) (tBool) ((fun _ _ _ => True))) (fun x => ((fun b n x => .ret (opV (spF b n x)))) x.1 x.2.1 x.2.2) h args := rfl
theorem en_rnum (args : Array Value) (w : World) : (callFunc 80 args).run Tryz.prog w = .ok (.enter 80 args) w := by go_simp
def rnumS : Spec Tryz.prog 80 :=
  mk1 _ _ _ Tryz.func80 rfl en_rnum (tInt .i64) ((fun _ => True)) ((fun v => .ret (opV (oNum v)))) (by rw [Tryz.ntmps80]; decide) (fun v _ => by
  refine aRun_sound (ctx := []) 4000 ?_
  rw [Tryz.ntmps80, Tryz.results80]
  simp only [Tryz.f80, Option.getD_some, zipT]
  simp only [go_sem, opV, oNum, op0, r0, opR, opE, emp])
theorem rnum_run {id : Nat} {h : Heap} {args : List AV} : (rnumS).run id h args = runP (args1 (tInt .i64) ((fun _ => True))) ((fun v => .ret (opV (oNum v)))) h args := rfl
theorem rnum_pan {id : Nat} {h : Heap} {args : List AV} : (rnumS).pan id h args = panP (args1 (tInt .i64) ((fun _ => True))) ((fun v => .ret (opV (oNum v)))) h args := rfl
theorem en_rto (args : Array Value) (w : World) : (callFunc 141 args).run Tryz.prog w = .ok (.enter 141 args) w := by go_simp
def rtoS : Spec Tryz.prog 141 :=
  mk1 _ _ _ Tryz.func141 rfl en_rto (tInt .i64) ((fun _ => True)) ((fun v => .ret (opV (oTo v)))) (by rw [Tryz.ntmps141]; decide) (fun v _ => by
  refine aRun_sound (ctx := []) 4000 ?_
  rw [Tryz.ntmps141, Tryz.results141]
  simp only [Tryz.f141, Option.getD_some, zipT]
  simp only [go_sem, opV, oTo, op0, r0, opR, opE, emp])
theorem rto_run {id : Nat} {h : Heap} {args : List AV} : (rtoS).run id h args = runP (args1 (tInt .i64) ((fun _ => True))) ((fun v => .ret (opV (oTo v)))) h args := rfl
theorem rto_pan {id : Nat} {h : Heap} {args : List AV} : (rtoS).pan id h args = panP (args1 (tInt .i64) ((fun _ => True))) ((fun v => .ret (opV (oTo v)))) h args := rfl
theorem en_rof (args : Array Value) (w : World) : (callFunc 92 args).run Tryz.prog w = .ok (.enter 92 args) w := by go_simp
def rofS : Spec Tryz.prog 92 :=
  mk2 _ _ _ Tryz.func92 rfl en_rof (tInt .i64) (tInt .i64) ((fun _ _ => True)) ((fun k n => .ret (opV (oOf k n)))) (by rw [Tryz.ntmps92]; decide) (fun k n _ => by
  refine aRun_sound (ctx := []) 4000 ?_
  rw [Tryz.ntmps92, Tryz.results92]
  simp only [Tryz.f92, Option.getD_some, zipT]
  simp only [go_sem, opV, oOf, op0, r0, opR, opE, emp])
theorem rof_run {id : Nat} {h : Heap} {args : List AV} : (rofS).run id h args = runP (args2 (tInt .i64) (tInt .i64) ((fun _ _ => True))) (fun x => ((fun k n => .ret (opV (oOf k n)))) x.1 x.2) h args := rfl
theorem rof_pan {id : Nat} {h : Heap} {args : List AV} : (rofS).pan id h args = panP (args2 (tInt .i64) (tInt .i64) ((fun _ _ => True))) (fun x => ((fun k n => .ret (opV (oOf k n)))) x.1 x.2) h args := rfl
theorem en_rmod (args : Array Value) (w : World) : (callFunc 81 args).run Tryz.prog w = .ok (.enter 81 args) w := by go_simp
def rmodS : Spec Tryz.prog 81 :=
  mk3 _ _ _ Tryz.func81 rfl en_rmod (tAgg opR) (tInt .i64) (tInt .i64) ((fun _ _ _ => True)) ((fun o m a => .ret (opV (oWith o m a)))) (by rw [Tryz.ntmps81]; decide) (fun o m a _ => by
  refine aRun_sound (ctx := []) 4000 ?_
  rw [Tryz.ntmps81, Tryz.results81]
  simp only [Tryz.f81, Option.getD_some, zipT]
  simp only [go_sem, opV, oWith, opR, opE])
theorem rmod_run {id : Nat} {h : Heap} {args : List AV} : (rmodS).run id h args = runP (args3 (tAgg opR) (tInt .i64) (tInt .i64) ((fun _ _ _ => True))) (fun x => ((fun o m a => .ret (opV (oWith o m a)))) x.1 x.2.1 x.2.2) h args := rfl
theorem rmod_pan {id : Nat} {h : Heap} {args : List AV} : (rmodS).pan id h args = panP (args3 (tAgg opR) (tInt .i64) (tInt .i64) ((fun _ _ _ => True))) (fun x => ((fun o m a => .ret (opV (oWith o m a)))) x.1 x.2.1 x.2.2) h args := rfl
theorem en_rmem (args : Array Value) (w : World) : (callFunc 142 args).run Tryz.prog w = .ok (.enter 142 args) w := by go_simp
def rmemS : Spec Tryz.prog 142 :=
  mk3 _ _ _ Tryz.func142 rfl en_rmem (tInt .i64) (tInt .i64) (tInt .i64) ((fun _ _ _ => True)) ((fun n m v => .ret (opV (oMem n m v)))) (by rw [Tryz.ntmps142]; decide) (fun n m v _ => by
  refine aRun_sound (ctx := []) 4000 ?_
  rw [Tryz.ntmps142, Tryz.results142]
  simp only [Tryz.f142, Option.getD_some, zipT]
  simp only [go_sem, opV, oMem, op0, r0, opR, opE, emp])
theorem rmem_run {id : Nat} {h : Heap} {args : List AV} : (rmemS).run id h args = runP (args3 (tInt .i64) (tInt .i64) (tInt .i64) ((fun _ _ _ => True))) (fun x => ((fun n m v => .ret (opV (oMem n m v)))) x.1 x.2.1 x.2.2) h args := rfl
theorem rmem_pan {id : Nat} {h : Heap} {args : List AV} : (rmemS).pan id h args = panP (args3 (tInt .i64) (tInt .i64) (tInt .i64) ((fun _ _ _ => True))) (fun x => ((fun n m v => .ret (opV (oMem n m v)))) x.1 x.2.1 x.2.2) h args := rfl
def flagF (s : ByteArray) (q : Bool) (t : ByteArray) : ByteArray := if q then s ++ t else s
theorem en_rflagn (args : Array Value) (w : World) : (callFunc 89 args).run Tryz.prog w = .ok (.enter 89 args) w := by go_simp
def rflagnS : Spec Tryz.prog 89 :=
  mk3 _ _ _ Tryz.func89 rfl en_rflagn (tStr) (tBool) (tStr) ((fun s _ t => s.size ≤ 1000 ∧ t.size ≤ 1000)) ((fun s q t => .ret (sv (flagF s q t)))) (by rw [Tryz.ntmps89]; decide) (fun s q t h => by
  refine aRun_sound (ctx := []) 4000 ?_
  rw [Tryz.ntmps89, Tryz.results89]
  simp only [Tryz.f89, Option.getD_some, zipT]
  have hm : s.size + t.size ≤ maxLen := by unfold maxLen; omega
  cases q <;> simp only [go_sem, flagF, hm])
theorem rflagn_run {id : Nat} {h : Heap} {args : List AV} : (rflagnS).run id h args = runP (args3 (tStr) (tBool) (tStr) ((fun s _ t => s.size ≤ 1000 ∧ t.size ≤ 1000))) (fun x => ((fun s q t => .ret (sv (flagF s q t)))) x.1 x.2.1 x.2.2) h args := rfl
theorem rflagn_pan {id : Nat} {h : Heap} {args : List AV} : (rflagnS).pan id h args = panP (args3 (tStr) (tBool) (tStr) ((fun s _ t => s.size ≤ 1000 ∧ t.size ≤ 1000))) (fun x => ((fun s q t => .ret (sv (flagF s q t)))) x.1 x.2.1 x.2.2) h args := rfl
theorem en_rflagNum (args : Array Value) (w : World) : (callFunc 144 args).run Tryz.prog w = .ok (.enter 144 args) w := by go_simp
def rflagNumS : Spec Tryz.prog 144 :=
  mk1 _ _ _ Tryz.func144 rfl en_rflagNum (tBool) ((fun _ => True)) ((fun q => .ret (iv (flagN q)))) (by rw [Tryz.ntmps144]; decide) (fun q _ => by
  refine aRun_sound (ctx := []) 4000 ?_
  rw [Tryz.ntmps144, Tryz.results144]
  simp only [Tryz.f144, Option.getD_some, zipT]
  cases q <;> simp only [go_sem, flagN])
theorem rflagNum_run {id : Nat} {h : Heap} {args : List AV} : (rflagNumS).run id h args = runP (args1 (tBool) ((fun _ => True))) ((fun q => .ret (iv (flagN q)))) h args := rfl
theorem rflagNum_pan {id : Nat} {h : Heap} {args : List AV} : (rflagNumS).pan id h args = panP (args1 (tBool) ((fun _ => True))) ((fun q => .ret (iv (flagN q)))) h args := rfl

/-! ### A word of some -/
theorem en_rpick (args : Array Value) (w : World) : (callFunc 32 args).run Tryz.prog w = .ok (.enter 32 args) w := by go_simp
set_option maxHeartbeats 1000000 in
theorem rpick_sw (n : Int) (l : List ByteArray) : SW Tryz.prog ⟨none, 0⟩ Tryz.f32.ntmps (Tryz.f32.body.getD .skip) ⟨1, zipT 0 [.s (.l (.v (.int .i64 n))), .s (.l (.sl 0 0 l.length))], zipH 0 [wordsK l]⟩ (outR Tryz.prog Tryz.f32.results.toList 0 (outPk (n, l))) := by
  refine aRun_sound (ctx := []) 4000 ?_
  rw [Tryz.ntmps32, Tryz.results32]
  simp only [Tryz.f32, Option.getD_some, zipT]
  by_cases h0 : n < 0
  · have e : pickF n l = emp := by unfold pickF; rw [if_pos (.inl h0)]
    simp only [go_sem, wordsK, h0, outPk, e, emp]
    exact left0 rfl
  by_cases h1 : (l.length : Int) ≤ n
  · have e : pickF n l = emp := by unfold pickF; rw [if_pos (.inr h1)]
    simp only [go_sem, wordsK, h0, h1, outPk, e, emp]
    exact left0 rfl
  · obtain ⟨i, rfl⟩ := Int.eq_ofNat_of_zero_le (Int.not_lt.1 h0)
    have hi : i < l.length := by omega
    obtain ⟨s, hs⟩ : ∃ s, l[i]? = some s := ⟨_, List.getElem?_eq_getElem hi⟩
    have e : pickF (i : Int) l = s := by
      unfold pickF
      rw [if_neg (by omega)]
      show l.getD i emp = s
      rw [List.getD_eq_getElem?_getD, hs]
      rfl
    simp only [go_sem, wordsK, wordL, h0, h1, outPk, e, hi, hs]
    exact ⟨by omega, left0 rfl⟩
def rpickS : Spec Tryz.prog 32 :=
  mkR 0 1 (by decide) _ _ _ Tryz.func32 rfl en_rpick decPk (fun x => [.s (.l (.v (.int .i64 x.1))), .s (.l (.sl 0 0 x.2.length))]) (fun x => [wordsK x.2]) outPk (fun hs hd => decPk_mono hs hd)
    (by
      intro h zs q' bs x hd hq
      obtain ⟨n, l⟩ := x
      obtain ⟨b, rfl, rfl, hb, rfl⟩ := decPk_ok hd
      refine ⟨by rw [Tryz.ntmps32]; show 2 ≤ 17; decide, rfl, rfl, by simp, fun d => ⟨?_, ?_⟩⟩
      · intro j b' k hj hk
        match j, hj, hk with
        | 0, hj, hk =>
          simp at hj hk
          subst hj
          subst hk
          exact ⟨rfl, by rw [hb, wordsK_ren]⟩
      · intro ρ al vals hA
        match vals, hA with
        | [v, w], ⟨a, b, _⟩ => exact ⟨a, b, trivial⟩)
    (by
      intro h zs q' bs x hd hq
      exact rpick_sw x.1 x.2)
theorem rpick_run {id : Nat} {h : Heap} {args : List AV} : rpickS.run id h args = runR 0 decPk outPk id h args := rfl
theorem rpick_pan {id : Nat} {h : Heap} {args : List AV} : rpickS.pan id h args = panR decPk outPk h args := rfl


/-! ### A line -/
def decLn7 (h : Heap) : List AV → Option (Prop × List Nat × LineV)
  | [.s (.l (.v (.string s))), .s (.l (.sl b 0 m))] => match hget h b with
    | some ⟨true, T, 15, rows⟩ => match decAll decOpL rows with
      | some l => if T = 40 ∧ m = l.length then some (True, [b], (s, l)) else none
      | none => none
    | _ => none
  | _ => none
theorem decLn7_ok {h : Heap} {zs : List AV} {q : Prop} {bs : List Nat} {s : ByteArray} {l : List OpV} (hd : decLn7 h zs = some (q, bs, s, l)) :
    ∃ b, zs = [sv s, .s (.l (.sl b 0 l.length))] ∧ bs = [b] ∧ hget h b = some (opsK l) ∧ q = True := by
  unfold decLn7 at hd
  split at hd
  case h_2 => cases hd
  rename_i s' b m
  split at hd
  case h_2 => cases hd
  rename_i T rows hb
  split at hd
  case h_2 => cases hd
  rename_i l' hl
  split at hd
  case isFalse => cases hd
  rename_i hc
  obtain ⟨rfl, rfl⟩ := hc
  simp only [Option.some.injEq, Prod.mk.injEq] at hd
  obtain ⟨rfl, rfl, rfl, rfl⟩ := hd
  exact ⟨b, rfl, rfl, by rw [hb, opsK, decAll_inv (d := decOpL) (e := opL) (fun c x hc => decOpL_inv hc) hl], rfl⟩
theorem decLn7_mono {h h' : Heap} (hs : ∀ b k, hget h b = some k → hget h' b = some k) {zs : List AV} {r : Prop × List Nat × LineV} (hd : decLn7 h zs = some r) : decLn7 h' zs = some r := by
  unfold decLn7 at hd ⊢
  split at hd
  case h_2 => cases hd
  split at hd
  case h_2 => cases hd
  rename_i hb
  simp only [hs _ _ hb]
  exact hd
def outLn7 (x : LineV) : RO := .ret (.s (.agg [.v (.string x.1), .sl 0 0 x.2.length])) [] [opsK x.2]
theorem en_rline (args : Array Value) (w : World) : (callFunc 82 args).run Tryz.prog w = .ok (.enter 82 args) w := by go_simp
set_option maxHeartbeats 1000000 in
theorem rline_sw (s : ByteArray) (l : List OpV) : SW Tryz.prog ⟨none, 0⟩ Tryz.f82.ntmps (Tryz.f82.body.getD .skip) ⟨1, zipT 0 [sv s, .s (.l (.sl 0 0 l.length))], zipH 0 [opsK l]⟩ (outRQ Tryz.prog Tryz.f82.results.toList 0 (outLn7 (s, l))) := by
  refine aRun_sound (ctx := []) 4000 ?_
  rw [Tryz.ntmps82, Tryz.results82]
  simp only [Tryz.f82, Option.getD_some, zipT]
  simp only [go_sem, outRQ_ret, outRQ_normal, outLn7]
  exact ⟨_, _, _, rfl, rfl, by simp, by simp, by simp [opsK], Wk.renL [0] (by simp) (Nat.le_refl _) (by simp) rfl (by simp [zipO, zipH, hget, opsK_ren])⟩
def rlineS : Spec Tryz.prog 82 :=
  mkQ 0 1 (by decide) _ _ _ Tryz.func82 rfl en_rline decLn7 (fun x => [sv x.1, .s (.l (.sl 0 0 x.2.length))]) (fun x => [opsK x.2]) outLn7 (by rw [Tryz.ntmps82]; decide) (fun hs hd => decLn7_mono hs hd)
    (by
      intro h zs q' bs x hd hq
      obtain ⟨n, l⟩ := x
      obtain ⟨b, rfl, rfl, hb, rfl⟩ := decLn7_ok hd
      refine ⟨by rw [Tryz.ntmps82]; show 2 ≤ 8; decide, rfl, rfl, by simp, fun d => ⟨?_, ?_⟩⟩
      · intro j b' k hj hk
        match j, hj, hk with
        | 0, hj, hk =>
          simp at hj hk
          subst hj
          subst hk
          exact ⟨rfl, by rw [hb, opsK_ren]⟩
      · intro ρ al vals hA
        match vals, hA with
        | [v, w], ⟨a, b, _⟩ => exact ⟨a, b, trivial⟩)
    (by
      intro h zs q' bs x hd hq
      exact rline_sw x.1 x.2)
theorem rline_run {id : Nat} {h : Heap} {args : List AV} : rlineS.run id h args = runQ 0 decLn7 outLn7 id h args := rfl
theorem rline_pan {id : Nat} {h : Heap} {args : List AV} : rlineS.pan id h args = none := rfl


end Go.Proofs.YtpjlafmhoifkmaaGreat

namespace Go.Proofs.YtpjlafmhoifkmaaGreat
open Go.RowKit
set_option maxRecDepth 100000

set_option maxHeartbeats 4000000 in
theorem en_rtable (args : Array Value) (w : World) : (callFunc 148 args).run Tryz.prog w = .ok (.enter 148 args) w := by go_simp
def rtableS : Spec Tryz.prog 148 :=
  mk1 _ _ _ Tryz.func148 rfl en_rtable (tInt .i64) ((fun k => k = 2)) ((fun _ => .ret (tblV condsL))) (by rw [Tryz.ntmps148]; decide) (fun k h => by
  subst h
  refine aRun_sound (ctx := []) 4000 ?_
  rw [Tryz.ntmps148, Tryz.results148]
  simp only [Tryz.f148, Option.getD_some, zipT]
  simp only [go_sem, true_or, or_true, or_false, false_or, condsL, namedR]
  rfl)
theorem rtable_run {id : Nat} {h : Heap} {args : List AV} : (rtableS).run id h args = runP (args1 (tInt .i64) ((fun k => k = 2))) ((fun _ => .ret (tblV condsL))) h args := rfl
theorem rtable_pan {id : Nat} {h : Heap} {args : List AV} : (rtableS).pan id h args = panP (args1 (tInt .i64) ((fun k => k = 2))) ((fun _ => .ret (tblV condsL))) h args := rfl
def rnmI (n : Int) (i : Nat) : St := ⟨0, [(0, iv 2), (1, iv n), (6, tblV condsL), (7, iv i)], []⟩
set_option maxHeartbeats 4000000 in
theorem rname_sw (n : Int) : SW Tryz.prog ⟨none, 0⟩ Tryz.f87.ntmps (Tryz.f87.body.getD .skip) ⟨0, zipT 0 [(tInt .i64).enc 2, (tInt .i64).enc n], []⟩ (outQ Tryz.prog Tryz.f87.results.toList (.ret (nameO (nameF 2 n)))) := by
  refine aRun_sound (ctx := [⟨_, rtableS⟩]) 4000 ?_
  rw [Tryz.ntmps87, Tryz.results87]
  simp only [Tryz.f87, Option.getD_some, zipT]
  simp only [go_sem, rtable_run, rtable_pan, List.length_map, conds_len, condsL]
  refine sw_loop (ι := Nat) (fun i => i ≤ 16 ∧ ∀ (j : Nat) (r : ByteArray × Int), j < i → condsL[j]? = some r → ¬ r.2 = n) (rnmI n) (fun i => 16 - i) 0 ⟨Nat.zero_le _, fun j r hj => absurd hj (Nat.not_lt_zero j)⟩ (Wk.renL [] (by simp) (by simp) (by simp) rfl rfl) ?_
  rintro i ⟨hi, hn⟩
  refine aRun_sound (ctx := []) 4000 ?_
  obtain ⟨l, hl⟩ : ∃ l, condsL = l := ⟨_, rfl⟩
  have hlen : l.length = 16 := by rw [← hl]; rfl
  unfold rnmI
  rw [hl] at hn ⊢
  rcases Nat.lt_or_ge i 16 with hlt | hge
  · have hltI : (i : Int) < 16 := by omega
    obtain ⟨r, hr⟩ : ∃ r, l[i]? = some r := ⟨_, List.getElem?_eq_getElem (by omega)⟩
    have ei : IntKind.i64.wrap ((i : Int) + 1) = ((i + 1 : Nat) : Int) := by rw [IntKind.wrap_i64]; omega
    by_cases hrn : r.2 = n
    · have er : nameF 2 n = (r.1, 0) := by
        have := nameIn_at (by rw [← hl] at hn; exact hn) (by rw [← hl] at hr; exact hr) hrn
        unfold nameF tblF
        rw [if_neg (by decide), if_pos rfl, this]
      have hb : (r.2 == n) = true := by simpa using hrn
      simp only [go_sem, hltI, hr, namedR, hb, er, nameO, hlen, List.length_map, List.getElem?_map]
    · have hb : (r.2 == n) = false := by simpa using hrn
      simp only [go_sem, hltI, hr, namedR, hb, ei, hlen, List.length_map, List.getElem?_map]
      refine ⟨i + 1, ⟨hlt, fun j r' hj hr' => ?_⟩, by omega, Wk.renL [] (by simp) (by simp) (by simp) rfl rfl⟩
      by_cases e2 : j = i
      · subst e2
        rw [hr] at hr'
        injection hr' with hr'
        rw [← hr']
        exact hrn
      · exact hn j r' (by omega) hr'
  · obtain rfl : i = 16 := by omega
    have er : nameF 2 n = (emp, 30) := by
      have := nameIn_none (by rw [← hl, conds_len] at *; exact hn)
      unfold nameF tblF
      rw [if_neg (by decide), if_pos rfl, this]
      rfl
    simp only [go_sem, hlen, List.length_map, er, nameO, emp]
theorem en_rname (args : Array Value) (w : World) : (callFunc 87 args).run Tryz.prog w = .ok (.enter 87 args) w := by go_simp
def rnameS : Spec Tryz.prog 87 :=
  mk2 _ _ _ Tryz.func87 rfl en_rname (tInt .i64) (tInt .i64) ((fun k _ => k = 2)) ((fun k n => .ret (nameO (nameF 2 n)))) (by rw [Tryz.ntmps87]; decide) (fun k n h => by
  subst h
  exact rname_sw n)
theorem rname_run {id : Nat} {h : Heap} {args : List AV} : (rnameS).run id h args = runP (args2 (tInt .i64) (tInt .i64) ((fun k _ => k = 2))) (fun x => ((fun k n => .ret (nameO (nameF 2 n)))) x.1 x.2) h args := rfl
theorem rname_pan {id : Nat} {h : Heap} {args : List AV} : (rnameS).pan id h args = panP (args2 (tInt .i64) (tInt .i64) ((fun k _ => k = 2))) (fun x => ((fun k n => .ret (nameO (nameF 2 n)))) x.1 x.2) h args := rfl


/-! ### transfers' names -/
set_option maxHeartbeats 4000000 in
theorem rtransfer_sw (s o : Int) : SW Tryz.prog ⟨none, 0⟩ Tryz.f14.ntmps (Tryz.f14.body.getD .skip) ⟨0, zipT 0 [(tInt .i64).enc s, (tInt .i64).enc o], []⟩ (outQ Tryz.prog Tryz.f14.results.toList (.ret (transO (transF s o)))) := by
  refine aRun_sound (ctx := [⟨_, rpickS⟩]) 4000 ?_
  rw [Tryz.ntmps14, Tryz.results14]
  simp only [Tryz.f14, Option.getD_some, zipT]
  have m1 : ∀ n, 3 + (pickF n [(⟨#[98]⟩ : ByteArray), (⟨#[104]⟩ : ByteArray), (⟨#[]⟩ : ByteArray), (⟨#[]⟩ : ByteArray)]).size ≤ maxLen := fun n => by have : (pickF n [(⟨#[98]⟩ : ByteArray), (⟨#[104]⟩ : ByteArray), (⟨#[]⟩ : ByteArray), (⟨#[]⟩ : ByteArray)]).size ≤ 1 := pickF_le (by decide); unfold maxLen; omega
  have m2 : ∀ n, 4 + (pickF n [(⟨#[98]⟩ : ByteArray), (⟨#[104]⟩ : ByteArray), (⟨#[119]⟩ : ByteArray)]).size ≤ maxLen := fun n => by have : (pickF n [(⟨#[98]⟩ : ByteArray), (⟨#[104]⟩ : ByteArray), (⟨#[119]⟩ : ByteArray)]).size ≤ 1 := pickF_le (by decide); unfold maxLen; omega
  have m3 : ∀ n, 4 + (pickF n [(⟨#[98]⟩ : ByteArray), (⟨#[104]⟩ : ByteArray)]).size ≤ maxLen := fun n => by have : (pickF n [(⟨#[98]⟩ : ByteArray), (⟨#[104]⟩ : ByteArray)]).size ≤ 1 := pickF_le (by decide); unfold maxLen; omega
  have z1 : ((⟨#[115, 116, 114]⟩ : ByteArray)).size = 3 := rfl
  have z2 : ((⟨#[108, 100, 114]⟩ : ByteArray)).size = 3 := rfl
  have z3 : ((⟨#[108, 100, 114, 115]⟩ : ByteArray)).size = 4 := rfl
  by_cases h1 : s < 0
  · have e : transF s o = (emp, false, false) := by unfold transF; rw [if_pos (.inl h1)]
    simp only [go_sem, h1, e, transO, emp]
  by_cases h2 : 3 < s
  · have e : transF s o = (emp, false, false) := by unfold transF; rw [if_pos (.inr h2)]
    simp only [go_sem, h1, h2, e, transO, emp]
  have h12 : ¬ (s < 0 ∨ 3 < s) := by omega
  by_cases o0 : o = 0
  · subst o0
    have e : transF s 0 = ((⟨#[115, 116, 114]⟩ : ByteArray) ++ pickF s [(⟨#[98]⟩ : ByteArray), (⟨#[104]⟩ : ByteArray), emp, emp], false, decide (s = 3)) := by unfold transF; rw [if_neg h12, if_pos rfl]
    rw [e]
    by_cases s3 : s = 3 <;> simp only [go_sem, h1, h2, rpick_run, rpick_pan, runR, panR, decPk, decWordL, decAll, outPk, emp, z1, m1, transO, s3, beq_dec]
  by_cases o1 : o = 1
  · subst o1
    have e : transF s 1 = ((⟨#[108, 100, 114]⟩ : ByteArray) ++ pickF s [(⟨#[98]⟩ : ByteArray), (⟨#[104]⟩ : ByteArray), emp, emp], true, decide (s = 3)) := by unfold transF; rw [if_neg h12, if_neg (by decide), if_pos rfl]
    rw [e]
    by_cases s3 : s = 3 <;> simp only [go_sem, h1, h2, rpick_run, rpick_pan, runR, panR, decPk, decWordL, decAll, outPk, emp, z2, m1, transO, s3, beq_dec]
  by_cases o2 : o = 2
  · subst o2
    by_cases s3 : s = 3
    · have e : transF s 2 = ((⟨#[112, 114, 102, 109]⟩ : ByteArray), true, true) := by unfold transF; rw [if_neg h12, if_neg (by decide), if_neg (by decide), if_pos ⟨rfl, s3⟩]
      have b3 : (s == 3) = true := by simpa using s3
      simp only [go_sem, h1, h2, b3, e, transO]
    · have e : transF s 2 = ((⟨#[108, 100, 114, 115]⟩ : ByteArray) ++ pickF s [(⟨#[98]⟩ : ByteArray), (⟨#[104]⟩ : ByteArray), (⟨#[119]⟩ : ByteArray)], true, true) := by unfold transF; rw [if_neg h12, if_neg (by decide), if_neg (by decide), if_neg (fun h => s3 h.2), if_pos rfl]
      have b3 : (s == 3) = false := by simpa using s3
      simp only [go_sem, h1, h2, b3, rpick_run, rpick_pan, runR, panR, decPk, decWordL, decAll, outPk, z3, m2, e, transO]
  by_cases o3 : o = 3
  · subst o3
    by_cases s2 : s < 2
    · have e : transF s 3 = ((⟨#[108, 100, 114, 115]⟩ : ByteArray) ++ pickF s [(⟨#[98]⟩ : ByteArray), (⟨#[104]⟩ : ByteArray)], true, false) := by unfold transF; rw [if_neg h12, if_neg (by decide), if_neg (by decide), if_neg (fun h => absurd h.1 (by decide)), if_neg (by decide), if_pos ⟨rfl, s2⟩]
      simp only [go_sem, h1, h2, s2, rpick_run, rpick_pan, runR, panR, decPk, decWordL, decAll, outPk, z3, m3, e, transO]
    · have e : transF s 3 = (emp, false, false) := by unfold transF; rw [if_neg h12, if_neg (by decide), if_neg (by decide), if_neg (fun h => absurd h.1 (by decide)), if_neg (by decide), if_neg (fun h => s2 h.2)]
      simp only [go_sem, h1, h2, s2, e, transO, emp]
  · have e : transF s o = (emp, false, false) := by unfold transF; rw [if_neg h12, if_neg o0, if_neg o1, if_neg (fun h => o2 h.1), if_neg o2, if_neg (fun h => o3 h.1)]
    have c0 : (o == 0) = false := by simpa using o0
    have c1 : (o == 1) = false := by simpa using o1
    have c2 : (o == 2) = false := by simpa using o2
    have c3 : (o == 3) = false := by simpa using o3
    simp only [go_sem, h1, h2, c0, c1, c2, c3, e, transO, emp]
theorem en_rtransfer (args : Array Value) (w : World) : (callFunc 14 args).run Tryz.prog w = .ok (.enter 14 args) w := by go_simp
def rtransferS : Spec Tryz.prog 14 :=
  mk2 _ _ _ Tryz.func14 rfl en_rtransfer (tInt .i64) (tInt .i64) ((fun _ _ => True)) ((fun s o => .ret (transO (transF s o)))) (by rw [Tryz.ntmps14]; decide) (fun s o _ => rtransfer_sw s o)
theorem rtransfer_run {id : Nat} {h : Heap} {args : List AV} : (rtransferS).run id h args = runP (args2 (tInt .i64) (tInt .i64) ((fun _ _ => True))) (fun x => ((fun s o => .ret (transO (transF s o)))) x.1 x.2) h args := rfl
theorem rtransfer_pan {id : Nat} {h : Heap} {args : List AV} : (rtransferS).pan id h args = panP (args2 (tInt .i64) (tInt .i64) ((fun _ _ => True))) (fun x => ((fun s o => .ret (transO (transF s o)))) x.1 x.2) h args := rfl
def putF (n r : ByteArray) : ByteArray := if n = (⟨#[112, 114, 102, 109]⟩ : ByteArray) then (⟨#[112, 114, 102]⟩ : ByteArray) ++ r.extract 0 (r.size - 1) ++ (⟨#[109]⟩ : ByteArray) else n.extract 0 2 ++ r ++ n.extract 3 n.size
set_option maxHeartbeats 4000000 in
theorem en_rput (args : Array Value) (w : World) : (callFunc 143 args).run Tryz.prog w = .ok (.enter 143 args) w := by go_simp
def rputS : Spec Tryz.prog 143 :=
  mk2 _ _ _ Tryz.func143 rfl en_rput (tStr) (tStr) ((fun n r => (3 ≤ n.size ∧ n.size ≤ 5) ∧ r.size = 2)) ((fun n r => .ret (sv (putF n r)))) (by rw [Tryz.ntmps143]; decide) (fun n r h => by
  refine aRun_sound (ctx := []) 4000 ?_
  rw [Tryz.ntmps143, Tryz.results143]
  simp only [Tryz.f143, Option.getD_some, zipT]
  obtain ⟨⟨h3, h5⟩, hr⟩ := h
  by_cases hp : n = (⟨#[112, 114, 102, 109]⟩ : ByteArray)
  · have e : putF n r = (⟨#[112, 114, 102]⟩ : ByteArray) ++ r.extract 0 1 ++ (⟨#[109]⟩ : ByteArray) := by unfold putF; rw [if_pos hp, hr]
    have z0 : (r.extract 0 1).size = 1 := by rw [ByteArray.size_extract]; omega
    have z1 : ((⟨#[112, 114, 102]⟩ : ByteArray)).size = 3 := rfl
    have z2 : ((⟨#[109]⟩ : ByteArray)).size = 1 := rfl
    have m1 : 3 + 1 ≤ maxLen := by unfold maxLen; omega
    have m2 : 3 + 1 + 1 ≤ maxLen := by unfold maxLen; omega
    have w1 : IntKind.i64.wrap ((2 : Int) - 1) = 1 := by decide
    have w2 : IntKind.i64.wrap 1 = 1 := by decide
    have i1 : ((2 : Nat) : Int) = 2 := rfl
    simp only [go_sem, eq_true hp, e, hr, i1, w1, w2, ByteArray.size_append, z0, z1, z2, m1, m2]
  · have e : putF n r = n.extract 0 2 ++ r ++ n.extract 3 n.size := by unfold putF; rw [if_neg hp]
    have i2 : (2 : Int) ≤ (n.size : Int) := by omega
    have i3 : (3 : Int) ≤ (n.size : Int) := by omega
    have n2 : 2 ≤ n.size := by omega
    have z2 : (n.extract 0 2).size = 2 := by rw [ByteArray.size_extract]; omega
    have z4 : (n.extract 3 n.size).size = n.size - 3 := by rw [ByteArray.size_extract]; omega
    have m3 : 2 + 2 ≤ maxLen := by unfold maxLen; omega
    have m4 : 2 + 2 + (n.size - 3) ≤ maxLen := by unfold maxLen; omega
    simp only [go_sem, hp]
    refine sw_draw (ctx := []) mixed [] (by kernel_rfl) ?_
    simp only [go_sem, e, i2, i3, n2, h3, hr, ByteArray.size_append, z2, z4, m3, m4])
theorem rput_run {id : Nat} {h : Heap} {args : List AV} : (rputS).run id h args = runP (args2 (tStr) (tStr) ((fun n r => (3 ≤ n.size ∧ n.size ≤ 5) ∧ r.size = 2))) (fun x => ((fun n r => .ret (sv (putF n r)))) x.1 x.2) h args := rfl
theorem rput_pan {id : Nat} {h : Heap} {args : List AV} : (rputS).pan id h args = panP (args2 (tStr) (tStr) ((fun n r => (3 ≤ n.size ∧ n.size ≤ 5) ∧ r.size = 2))) (fun x => ((fun n r => .ret (sv (putF n r)))) x.1 x.2) h args := rfl

/-! ### registers, shifted or extended -/
def shF (x : Ins) : OpV := if ¬ x.a = 0 ∨ ¬ x.c = 0 then oWith (oReg x.rm x.x) (1 + x.c) x.a else oReg x.rm x.x
theorem en_rshifted (args : Array Value) (w : World) : (callFunc 88 args).run Tryz.prog w = .ok (.enter 88 args) w := by go_simp
def rshiftedS : Spec Tryz.prog 88 :=
  mk1 _ _ _ Tryz.func88 rfl en_rshifted (tAgg insR) ((fun x => 0 ≤ x.c ∧ x.c ≤ 7)) ((fun x => .ret (opV (shF x)))) (by rw [Tryz.ntmps88]; decide) (fun x h => by
  refine aRun_sound (ctx := [⟨_, rregS⟩, ⟨_, rmodS⟩]) 4000 ?_
  rw [Tryz.ntmps88, Tryz.results88]
  simp only [Tryz.f88, Option.getD_some, zipT]
  have w : IntKind.i64.wrap (1 + x.c) = 1 + x.c := by rw [IntKind.wrap_i64]; omega
  by_cases ha : x.a = 0
  · have b1 : (x.a != 0) = false := by simpa using ha
    by_cases hc : x.c = 0
    · have b2 : (x.c != 0) = false := by simpa using hc
      have e : shF x = oReg x.rm x.x := by unfold shF; rw [if_neg (by omega)]
      simp only [go_sem, insR, b1, b2, e, rreg_run, rreg_pan, opV, opR, opE, oReg, op0, r0, emp]
    · have b2 : (x.c != 0) = true := by simpa using hc
      have e : shF x = oWith (oReg x.rm x.x) (1 + x.c) x.a := by unfold shF; rw [if_pos (by omega)]
      simp only [go_sem, insR, b1, b2, e, w, rreg_run, rreg_pan, rmod_run, rmod_pan, opV, opR, opE, oReg, oWith, op0, r0, emp]
  · have b1 : (x.a != 0) = true := by simpa using ha
    have e : shF x = oWith (oReg x.rm x.x) (1 + x.c) x.a := by unfold shF; rw [if_pos (by omega)]
    simp only [go_sem, insR, b1, e, w, rreg_run, rreg_pan, rmod_run, rmod_pan, opV, opR, opE, oReg, oWith, op0, r0, emp])
theorem rshifted_run {id : Nat} {h : Heap} {args : List AV} : (rshiftedS).run id h args = runP (args1 (tAgg insR) ((fun x => 0 ≤ x.c ∧ x.c ≤ 7))) ((fun x => .ret (opV (shF x)))) h args := rfl
theorem rshifted_pan {id : Nat} {h : Heap} {args : List AV} : (rshiftedS).pan id h args = panP (args1 (tAgg insR) ((fun x => 0 ≤ x.c ∧ x.c ≤ 7))) ((fun x => .ret (opV (shF x)))) h args := rfl
set_option maxHeartbeats 2000000 in
theorem en_rextended (args : Array Value) (w : World) : (callFunc 90 args).run Tryz.prog w = .ok (.enter 90 args) w := by go_simp
def rextendedS : Spec Tryz.prog 90 :=
  mk1 _ _ _ Tryz.func90 rfl en_rextended (tAgg insR) ((fun x => 0 ≤ x.c ∧ x.c ≤ 7)) ((fun x => .ret (opV (extO x)))) (by rw [Tryz.ntmps90]; decide) (fun x h => by
  refine aRun_sound (ctx := [⟨_, rregS⟩, ⟨_, rmodS⟩]) 4000 ?_
  rw [Tryz.ntmps90, Tryz.results90]
  simp only [Tryz.f90, Option.getD_some, zipT]
  have w : IntKind.i64.wrap (5 + x.c) = 5 + x.c := by rw [IntKind.wrap_i64]; omega
  have t4 : x.c.tmod 4 = x.c % 4 := Int.tmod_eq_emod_of_nonneg h.1
  have e2 := beq_dec (x.c % 4) 3
  simp only [go_sem, insR]
  refine sw_draw (ctx := [⟨_, rregS⟩, ⟨_, rmodS⟩]) mixed [13] (by kernel_rfl) ?_
  simp only [go_sem, insR, w, t4, e2, rreg_run, rreg_pan, rmod_run, rmod_pan, opV, extO, opR, opE, oReg, oWith, op0, r0, emp])
theorem rextended_run {id : Nat} {h : Heap} {args : List AV} : (rextendedS).run id h args = runP (args1 (tAgg insR) ((fun x => 0 ≤ x.c ∧ x.c ≤ 7))) ((fun x => .ret (opV (extO x)))) h args := rfl
theorem rextended_pan {id : Nat} {h : Heap} {args : List AV} : (rextendedS).pan id h args = panP (args1 (tAgg insR) ((fun x => 0 ≤ x.c ∧ x.c ≤ 7))) ((fun x => .ret (opV (extO x)))) h args := rfl

/-! ### a line of nothing -/
def tNil : Ty Unit where
  dec := fun | .s (.l (.v (.slice none 0 0))) => some () | _ => none
  enc := fun _ => .s (.l (.v (.slice none 0 0)))
  ok := by
    intro A x h ρ al v hr
    split at h
    · exact hr
    · cases h
theorem en_rline0 (args : Array Value) (w : World) : (callFunc 82 args).run Tryz.prog w = .ok (.enter 82 args) w := by go_simp
def rline0S : Spec Tryz.prog 82 :=
  mk2 _ _ _ Tryz.func82 rfl en_rline0 (tStr) (tNil) ((fun _ _ => True)) ((fun s _ => .ret (lineV (s, [])))) (by rw [Tryz.ntmps82]; decide) (fun s _ _ => by
  refine SW.wk ?_ (Wk.nilD (s := ⟨_, _, _⟩) 1 15 rfl)
  refine aRun_sound (ctx := []) 4000 ?_
  rw [Tryz.ntmps82, Tryz.results82]
  simp only [Tryz.f82, Option.getD_some, zipT]
  simp only [go_sem, lineV])
theorem rline0_run {id : Nat} {h : Heap} {args : List AV} : (rline0S).run id h args = runP (args2 (tStr) (tNil) ((fun _ _ => True))) (fun x => ((fun s _ => .ret (lineV (s, [])))) x.1 x.2) h args := rfl
theorem rline0_pan {id : Nat} {h : Heap} {args : List AV} : (rline0S).pan id h args = panP (args2 (tStr) (tNil) ((fun _ _ => True))) (fun x => ((fun s _ => .ret (lineV (s, [])))) x.1 x.2) h args := rfl

/-! ### lines held against each other -/
end Go.Proofs.YtpjlafmhoifkmaaGreat
