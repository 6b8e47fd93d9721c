/- Instructions as lines: a word of some. -/
import Derived.Test.YtpjlafmhoifkmaaGreatJ2
set_option linter.unusedVariables false
set_option linter.unusedSimpArgs false
namespace Go.Proofs.YtpjlafmhoifkmaaGreat
open Go.RowKit
set_option maxRecDepth 100000

def wordL (s : ByteArray) : List LV := [.v (.string s)]
def wordsK (l : List ByteArray) : Blk := ⟨true, 9, 1, l.map wordL⟩
def decWordL : List LV → Option ByteArray
  | [.v (.string s)] => some s
  | _ => none
theorem decWordL_inv {c : List LV} {s : ByteArray} (h : decWordL c = some s) : c = wordL s := by
  unfold decWordL at h
  split at h
  · injection h with h; subst h; rfl
  · cases h
theorem wordsK_ren (l : List ByteArray) (g : Nat → Nat) : (wordsK l).ren g = wordsK l := by
  unfold wordsK Blk.ren
  simp [Function.comp_def, wordL, LV.ren]
def decPk (h : Heap) : List AV → Option (Prop × List Nat × (Int × List ByteArray))
  | [.s (.l (.v (.int .i64 n))), .s (.l (.sl b 0 m))] => match hget h b with
    | some ⟨true, T, 1, rows⟩ => match decAll decWordL rows with
      | some l => if T = 9 ∧ m = l.length then some (True, [b], (n, l)) else none
      | none => none
    | _ => none
  | _ => none
theorem decPk_ok {h : Heap} {zs : List AV} {q : Prop} {bs : List Nat} {n : Int} {l : List ByteArray} (hd : decPk h zs = some (q, bs, n, l)) :
    ∃ b, zs = [.s (.l (.v (.int .i64 n))), .s (.l (.sl b 0 l.length))] ∧ bs = [b] ∧ hget h b = some (wordsK l) ∧ q = True := by
  unfold decPk at hd
  split at hd
  case h_2 => cases hd
  rename_i n' b m
  split at hd
  case h_2 => cases hd
  rename_i T rows hb
  split at hd
  case h_2 => cases hd
  rename_i l' hl
  split at hd
  case isFalse => cases hd
  rename_i hc
  obtain ⟨rfl, rfl⟩ := hc
  simp only [Option.some.injEq, Prod.mk.injEq] at hd
  obtain ⟨rfl, rfl, rfl, rfl⟩ := hd
  exact ⟨b, rfl, rfl, by rw [hb, wordsK, decAll_inv (d := decWordL) (e := wordL) (fun c x hc => decWordL_inv hc) hl], rfl⟩
theorem decPk_mono {h h' : Heap} (hs : ∀ b k, hget h b = some k → hget h' b = some k) {zs : List AV} {r : Prop × List Nat × (Int × List ByteArray)} (hd : decPk h zs = some r) : decPk h' zs = some r := by
  unfold decPk at hd ⊢
  split at hd
  case h_2 => cases hd
  split at hd
  case h_2 => cases hd
  rename_i hb
  simp only [hs _ _ hb]
  exact hd

def outPk (x : Int × List ByteArray) : RO := .ret (.s (.l (.v (.string (pickF x.1 x.2))))) [] []
theorem left0 {st : St} {r : AV} (hr : r.plain = true) : leftR 0 st (.ret r [] []) (some r) :=
  ⟨hr, [], [], rfl, rfl, by simp, by simp, by simp, Wk.ren [] (by intro j hj; cases hj) (Nat.zero_le _) List.nodup_nil (fun p hp => by cases hp) (fun p hp => by cases hp)⟩

theorem en_pick (args : Array Value) (w : World) : (callFunc 31 args).run Tryz.prog w = .ok (.enter 31 args) w := by go_simp
set_option maxHeartbeats 1000000 in
theorem pick_sw (n : Int) (l : List ByteArray) : SW Tryz.prog ⟨none, 0⟩ Tryz.f31.ntmps (Tryz.f31.body.getD .skip) ⟨1, zipT 0 [.s (.l (.v (.int .i64 n))), .s (.l (.sl 0 0 l.length))], zipH 0 [wordsK l]⟩ (outR Tryz.prog Tryz.f31.results.toList 0 (outPk (n, l))) := by
  refine aRun_sound (ctx := []) 4000 ?_
  rw [Tryz.ntmps31, Tryz.results31]
  simp only [Tryz.f31, Option.getD_some, zipT]
  by_cases h0 : n < 0
  · have e : pickF n l = emp := by unfold pickF; rw [if_pos (.inl h0)]
    simp only [go_sem, Nat.reduceOr, Nat.reducePow, Nat.reduceDiv, Nat.reduceMod, Nat.reduceBEq, Int.reduceBEq, Int.reduceBNe, Int.reduceEq, Int.reduceLT, Int.reduceLE, Int.reduceToNat, reduceIte, reduceCtorEq, Nat.reduceEqDiff, Nat.reduceAdd, Nat.reduceLT, Nat.reduceLeDiff, Nat.reduceMul, Nat.reduceSub, wordsK, h0, outPk, e, emp]
    exact left0 rfl
  by_cases h1 : (l.length : Int) ≤ n
  · have e : pickF n l = emp := by unfold pickF; rw [if_pos (.inr h1)]
    simp only [go_sem, Nat.reduceOr, Nat.reducePow, Nat.reduceDiv, Nat.reduceMod, Nat.reduceBEq, Int.reduceBEq, Int.reduceBNe, Int.reduceEq, Int.reduceLT, Int.reduceLE, Int.reduceToNat, reduceIte, reduceCtorEq, Nat.reduceEqDiff, Nat.reduceAdd, Nat.reduceLT, Nat.reduceLeDiff, Nat.reduceMul, Nat.reduceSub, wordsK, h0, h1, outPk, e, emp]
    exact left0 rfl
  · obtain ⟨i, rfl⟩ := Int.eq_ofNat_of_zero_le (Int.not_lt.1 h0)
    have hi : i < l.length := by omega
    obtain ⟨s, hs⟩ : ∃ s, l[i]? = some s := ⟨_, List.getElem?_eq_getElem hi⟩
    have e : pickF (i : Int) l = s := by
      unfold pickF
      rw [if_neg (by omega)]
      show l.getD i emp = s
      rw [List.getD_eq_getElem?_getD, hs]
      rfl
    simp only [go_sem, Nat.reduceOr, Nat.reducePow, Nat.reduceDiv, Nat.reduceMod, Nat.reduceBEq, Int.reduceBEq, Int.reduceBNe, Int.reduceEq, Int.reduceLT, Int.reduceLE, Int.reduceToNat, reduceIte, reduceCtorEq, Nat.reduceEqDiff, Nat.reduceAdd, Nat.reduceLT, Nat.reduceLeDiff, Nat.reduceMul, Nat.reduceSub, wordsK, wordL, h0, h1, outPk, e, hi, hs]
    exact ⟨by omega, left0 rfl⟩
def pickS : Spec Tryz.prog 31 :=
  mkR 0 1 (by decide) _ _ _ Tryz.func31 rfl en_pick decPk (fun x => [.s (.l (.v (.int .i64 x.1))), .s (.l (.sl 0 0 x.2.length))]) (fun x => [wordsK x.2]) outPk (fun hs hd => decPk_mono hs hd)
    (by
      intro h zs q' bs x hd hq
      obtain ⟨n, l⟩ := x
      obtain ⟨b, rfl, rfl, hb, rfl⟩ := decPk_ok hd
      refine ⟨by rw [Tryz.ntmps31]; show 2 ≤ 17; decide, rfl, rfl, by simp, fun d => ⟨?_, ?_⟩⟩
      · intro j b' k hj hk
        match j, hj, hk with
        | 0, hj, hk =>
          simp at hj hk
          subst hj
          subst hk
          exact ⟨rfl, by rw [hb, wordsK_ren]⟩
      · intro ρ al vals hA
        match vals, hA with
        | [v, w], ⟨a, b, _⟩ => exact ⟨a, b, trivial⟩)
    (by
      intro h zs q' bs x hd hq
      exact pick_sw x.1 x.2)
theorem pick_run {id : Nat} {h : Heap} {args : List AV} : pickS.run id h args = runR 0 decPk outPk id h args := rfl
theorem pick_pan {id : Nat} {h : Heap} {args : List AV} : pickS.pan id h args = panR decPk outPk h args := rfl

end Go.Proofs.YtpjlafmhoifkmaaGreat
