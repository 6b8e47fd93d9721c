/- Instructions as lines: a word of some. Instructions as lines: a line out of steps. Instructions as lines: line, as a Spec. Instructions as lines: the steps. Instructions as lines: immediates. -/
import Derived.Test.YtpjlafmhoifkmaaGreatJ2
import Derived.Test.YtpjlafmhoifkmaaGreatBb
set_option linter.unusedVariables false
set_option linter.unusedSimpArgs false
namespace Go.Proofs.YtpjlafmhoifkmaaGreat
open Go.RowKit
set_option maxRecDepth 100000

def wordL (s : ByteArray) : List LV := [.v (.string s)]
def wordsK (l : List ByteArray) : Blk := ⟨true, 9, 1, l.map wordL⟩
def decWordL : List LV → Option ByteArray
  | [.v (.string s)] => some s
  | _ => none
theorem decWordL_inv {c : List LV} {s : ByteArray} (h : decWordL c = some s) : c = wordL s := by
  unfold decWordL at h
  split at h
  · injection h with h; subst h; rfl
  · cases h
theorem wordsK_ren (l : List ByteArray) (g : Nat → Nat) : (wordsK l).ren g = wordsK l := by
  unfold wordsK Blk.ren
  simp [Function.comp_def, wordL, LV.ren]
def decPk (h : Heap) : List AV → Option (Prop × List Nat × (Int × List ByteArray))
  | [.s (.l (.v (.int .i64 n))), .s (.l (.sl b 0 m))] => match hget h b with
    | some ⟨true, T, 1, rows⟩ => match decAll decWordL rows with
      | some l => if T = 9 ∧ m = l.length then some (True, [b], (n, l)) else none
      | none => none
    | _ => none
  | _ => none
theorem decPk_ok {h : Heap} {zs : List AV} {q : Prop} {bs : List Nat} {n : Int} {l : List ByteArray} (hd : decPk h zs = some (q, bs, n, l)) :
    ∃ b, zs = [.s (.l (.v (.int .i64 n))), .s (.l (.sl b 0 l.length))] ∧ bs = [b] ∧ hget h b = some (wordsK l) ∧ q = True := by
  unfold decPk at hd
  split at hd
  case h_2 => cases hd
  rename_i n' b m
  split at hd
  case h_2 => cases hd
  rename_i T rows hb
  split at hd
  case h_2 => cases hd
  rename_i l' hl
  split at hd
  case isFalse => cases hd
  rename_i hc
  obtain ⟨rfl, rfl⟩ := hc
  simp only [Option.some.injEq, Prod.mk.injEq] at hd
  obtain ⟨rfl, rfl, rfl, rfl⟩ := hd
  exact ⟨b, rfl, rfl, by rw [hb, wordsK, decAll_inv (d := decWordL) (e := wordL) (fun c x hc => decWordL_inv hc) hl], rfl⟩
theorem decPk_mono {h h' : Heap} (hs : ∀ b k, hget h b = some k → hget h' b = some k) {zs : List AV} {r : Prop × List Nat × (Int × List ByteArray)} (hd : decPk h zs = some r) : decPk h' zs = some r := by
  unfold decPk at hd ⊢
  split at hd
  case h_2 => cases hd
  split at hd
  case h_2 => cases hd
  rename_i hb
  simp only [hs _ _ hb]
  exact hd

def outPk (x : Int × List ByteArray) : RO := .ret (.s (.l (.v (.string (pickF x.1 x.2))))) [] []
theorem left0 {st : St} {r : AV} (hr : r.plain = true) : leftR 0 st (.ret r [] []) (some r) :=
  ⟨hr, [], [], rfl, rfl, by simp, by simp, by simp, Wk.ren [] (by intro j hj; cases hj) (Nat.zero_le _) List.nodup_nil (fun p hp => by cases hp) (fun p hp => by cases hp)⟩

theorem en_pick (args : Array Value) (w : World) : (callFunc 31 args).run Tryz.prog w = .ok (.enter 31 args) w := by go_simp
set_option maxHeartbeats 1000000 in
theorem pick_sw (n : Int) (l : List ByteArray) : SW Tryz.prog ⟨none, 0⟩ Tryz.f31.ntmps (Tryz.f31.body.getD .skip) ⟨1, zipT 0 [.s (.l (.v (.int .i64 n))), .s (.l (.sl 0 0 l.length))], zipH 0 [wordsK l]⟩ (outR Tryz.prog Tryz.f31.results.toList 0 (outPk (n, l))) := by
  refine aRun_sound (ctx := []) 4000 ?_
  rw [Tryz.ntmps31, Tryz.results31]
  simp only [Tryz.f31, Option.getD_some, zipT]
  by_cases h0 : n < 0
  · have e : pickF n l = emp := by unfold pickF; rw [if_pos (.inl h0)]
    simp only [go_sem, wordsK, h0, outPk, e, emp]
    exact left0 rfl
  by_cases h1 : (l.length : Int) ≤ n
  · have e : pickF n l = emp := by unfold pickF; rw [if_pos (.inr h1)]
    simp only [go_sem, wordsK, h0, h1, outPk, e, emp]
    exact left0 rfl
  · obtain ⟨i, rfl⟩ := Int.eq_ofNat_of_zero_le (Int.not_lt.1 h0)
    have hi : i < l.length := by omega
    obtain ⟨s, hs⟩ : ∃ s, l[i]? = some s := ⟨_, List.getElem?_eq_getElem hi⟩
    have e : pickF (i : Int) l = s := by
      unfold pickF
      rw [if_neg (by omega)]
      show l.getD i emp = s
      rw [List.getD_eq_getElem?_getD, hs]
      rfl
    simp only [go_sem, wordsK, wordL, h0, h1, outPk, e, hi, hs]
    exact ⟨by omega, left0 rfl⟩
def pickS : Spec Tryz.prog 31 :=
  mkR 0 1 (by decide) _ _ _ Tryz.func31 rfl en_pick decPk (fun x => [.s (.l (.v (.int .i64 x.1))), .s (.l (.sl 0 0 x.2.length))]) (fun x => [wordsK x.2]) outPk (fun hs hd => decPk_mono hs hd)
    (by
      intro h zs q' bs x hd hq
      obtain ⟨n, l⟩ := x
      obtain ⟨b, rfl, rfl, hb, rfl⟩ := decPk_ok hd
      refine ⟨by rw [Tryz.ntmps31]; show 2 ≤ 17; decide, rfl, rfl, by simp, fun d => ⟨?_, ?_⟩⟩
      · intro j b' k hj hk
        match j, hj, hk with
        | 0, hj, hk =>
          simp at hj hk
          subst hj
          subst hk
          exact ⟨rfl, by rw [hb, wordsK_ren]⟩
      · intro ρ al vals hA
        match vals, hA with
        | [v, w], ⟨a, b, _⟩ => exact ⟨a, b, trivial⟩)
    (by
      intro h zs q' bs x hd hq
      exact pick_sw x.1 x.2)
theorem pick_run {id : Nat} {h : Heap} {args : List AV} : pickS.run id h args = runR 0 decPk outPk id h args := rfl
theorem pick_pan {id : Nat} {h : Heap} {args : List AV} : pickS.pan id h args = panR decPk outPk h args := rfl

end Go.Proofs.YtpjlafmhoifkmaaGreat

namespace Go.Proofs.YtpjlafmhoifkmaaGreat
open Go.RowKit
set_option maxRecDepth 100000

/-- A step of the writer. -/
structure Stp where
  g : FuncId
  F : Ins → List OpV → List OpV
  q : Ins → List OpV → Prop
  spec : Spec Tryz.prog g
  run_eq : ∀ (id : Nat) (h : Heap) (args : List AV), spec.run id h args = runR 1 (decW xw0 (fun _ => q)) (fun y => outWr (.tup [], y.2.1, y.2.2.1, F y.2.1 y.2.2.2)) id h args
  pan_eq : ∀ (id : Nat) (h : Heap) (args : List AV), spec.pan id h args = panR (decW xw0 (fun _ => q)) (fun y => outWr (.tup [], y.2.1, y.2.2.1, F y.2.1 y.2.2.2)) h args

def stepsF (x : Ins) : List Stp → List OpV → List OpV
  | [], l => l
  | st :: r, l => stepsF x r (st.F x l)
def stepsQ (x : Ins) : List Stp → List OpV → Prop
  | [], _ => True
  | st :: r, l => st.q x l ∧ stepsQ x r (st.F x l)
theorem stepsF_app (x : Ins) : ∀ (a b : List Stp) (l : List OpV), stepsF x (a ++ b) l = stepsF x b (stepsF x a l)
  | [], _, _ => rfl
  | st :: a, b, l => stepsF_app x a b (st.F x l)
theorem stepsF_next {x : Ins} {S : List Stp} {i : Nat} {st : Stp} (h : S[i]? = some st) (l : List OpV) : stepsF x (S.take (i + 1)) l = st.F x (stepsF x (S.take i) l) := by
  rw [List.take_add_one, h, stepsF_app]
  rfl
theorem stepsQ_at {x : Ins} : ∀ {S : List Stp} {l : List OpV}, stepsQ x S l → ∀ {i : Nat} {st : Stp}, S[i]? = some st → st.q x (stepsF x (S.take i) l)
  | [], _, _, _, _, hi => by simp at hi
  | s :: S, l, h, 0, st, hi => by
    simp only [List.getElem?_cons_zero, Option.some.injEq] at hi
    subst hi
    exact h.1
  | s :: S, l, h, i + 1, st, hi => stepsQ_at (S := S) h.2 (by simpa using hi)

def stepL (b : Nat) (st : Stp) : List LV := [.bf st.g [b] []]
def stepsK (b : Nat) (S : List Stp) : Blk := ⟨true, 1, 1, S.map (stepL b)⟩
def boxL : Blk := ⟨true, 33, 2, [[.v (.string emp), .v (.slice none 0 0)]]⟩
def lineI (S : List Stp) (x : Ins) (nm : ByteArray) (l0 : List OpV) (i : Nat) : St :=
  ⟨4, [(0, .s (.l (.p 0 0 0))), (6, .s (.l (.p 3 0 0))), (14, .s (.l (.sl 2 0 S.length))), (15, iv S.length), (16, iv i)], [(0, some (wrK x nm (stepsF x (S.take i) l0).length 1)), (1, some (opsK (stepsF x (S.take i) l0))), (2, some (stepsK 0 S)), (3, some boxL)]⟩

set_option maxHeartbeats 2000000 in
theorem line_sw (S : List Stp) (x : Ins) (nm0 nm : ByteArray) (l0 : List OpV) (hq : stepsQ x S l0) (hlen : S.length ≤ 1000) :
    SW Tryz.prog ⟨none, 1⟩ Tryz.f48.ntmps (Tryz.f48.body.getD .skip) ⟨3, zipT 0 [.s (.l (.p 0 0 0)), sv nm, .s (.l (.sl 2 0 S.length))], zipH 0 [wrK x nm0 l0.length 1, opsK l0, stepsK 0 S]⟩
      (outRQ Tryz.prog Tryz.f48.results.toList 1 (.ret (.s (.agg [.v (.string nm), .sl 1 0 (stepsF x S l0).length])) [some (wrK x nm (stepsF x S l0).length 1)] [opsK (stepsF x S l0)])) := by
  refine aRun_sound (ctx := []) 4000 ?_
  rw [Tryz.ntmps48, Tryz.results48]
  simp only [Tryz.f48, Option.getD_some, zipT]
  simp only [go_sem, wrK, insE, opsK, stepsK]
  refine sw_loop (ι := Nat) (fun i => i ≤ S.length) (lineI S x nm l0) (fun i => S.length - i) 0 (Nat.zero_le _) ?start ?round
  case start =>
    exact Wk.renL [0, 1, 2, 3] (fun j hj => by obtain rfl : j = 0 := Nat.lt_one_iff.1 hj
                                               rfl) (Nat.le_refl 4) (by decide) rfl (by simp [lineI, stepsF, hget, Blk.ren, wrK, insE, opsK, opL, opE, ofDs, ofD, stepsK, stepL, boxL, emp, LV.ren, Function.comp_def])
  case round =>
    intro i hi
    by_cases hlt : i < S.length
    · have hltI : (i : Int) < S.length := by omega
      obtain ⟨st, hst⟩ : ∃ st, S[i]? = some st := ⟨_, List.getElem?_eq_getElem hlt⟩
      have hqs := stepsQ_at hq hst
      have hnx := stepsF_next (x := x) hst l0
      have ei : IntKind.i64.wrap ((i : Int) + 1) = ((i + 1 : Nat) : Int) := by rw [IntKind.wrap_i64]; omega
      unfold lineI
      obtain ⟨l, hl⟩ : ∃ l, stepsF x (S.take i) l0 = l := ⟨_, rfl⟩
      rw [hl] at hqs hnx ⊢
      refine aRun_sound (ctx := [⟨st.g, st.spec⟩]) 4000 ?_
      simp only [go_sem, wrK, insE, opsK, stepsK, stepL, hltI, hlt, hst, st.run_eq, st.pan_eq, decW, decWr, decWrL, decOps_map, xw0, outWr, opL_ren, hqs, ei]
      refine ⟨i + 1, hlt, by omega, ?_⟩
      rw [hnx]
      exact Wk.renL [0, 84, 2, 3] (fun j hj => by obtain rfl : j = 0 := Nat.lt_one_iff.1 hj
                                                  rfl) (Nat.le_refl 4) (by decide) rfl (by simp [hget, Blk.ren, wrK, insE, opsK, opL, opE, ofDs, ofD, stepsK, stepL, boxL, emp, LV.ren, Function.comp_def])
    · obtain rfl : i = S.length := by omega
      have hltI : ¬ (S.length : Int) < S.length := by omega
      unfold lineI
      rw [List.take_length]
      refine aRun_sound (ctx := []) 4000 ?_
      simp only [go_sem, wrK, insE, opsK, stepsK, boxL, hltI, outRQ_ret, outRQ_normal]
      exact ⟨_, _, _, rfl, rfl, by simp, by simp, by simp, Wk.renL [0, 1] (fun j hj => by obtain rfl : j = 0 := Nat.lt_one_iff.1 hj
                                                                                          rfl) (Nat.le_refl _) (by decide) rfl (by simp [zipO, zipH, hget, Blk.ren, opL, opE, ofDs, ofD, LV.ren, Function.comp_def])⟩

end Go.Proofs.YtpjlafmhoifkmaaGreat

namespace Go.Proofs.YtpjlafmhoifkmaaGreat
open Go.RowKit
set_option maxRecDepth 100000

/-- which step a function is -/
structure StTab where
  at_ : FuncId → Option Stp
  ok : ∀ {g : FuncId} {st : Stp}, at_ g = some st → st.g = g

def decStep (T : StTab) (b : Nat) : List LV → Option Stp
  | [.bf g [b'] []] => if b' = b then T.at_ g else none
  | _ => none
theorem decStep_inv {T : StTab} {b : Nat} {c : List LV} {st : Stp} (h : decStep T b c = some st) : c = stepL b st := by
  unfold decStep at h
  split at h
  · split at h
    case isFalse => cases h
    rename_i g b' e
    subst e
    rw [stepL, T.ok h]
  · cases h

def lineQ (x : Ins) (S : List Stp) (l : List OpV) : Prop := stepsQ x S l ∧ S.length ≤ 1000
def decLn (T : StTab) (h : Heap) : List AV → Option (Prop × List Nat × (ByteArray × List Stp × (Ins × ByteArray × List OpV)))
  | [A, .s (.l (.v (.string nm))), .s (.l (.sl sb 0 n))] => match decWr h A with
    | some ([b, tb], x, nm0, l) => match hget h sb with
      | some ⟨true, Tt, 1, rows⟩ => match decAll (decStep T b) rows with
        | some S => if Tt = 1 ∧ n = S.length ∧ sb ≠ b ∧ sb ≠ tb then some (lineQ x S l, [b, tb, sb], (nm, S, (x, nm0, l))) else none
        | none => none
      | _ => none
    | _ => none
  | _ => none
theorem decLn_ok {T : StTab} {h : Heap} {zs : List AV} {q : Prop} {bs : List Nat} {nm : ByteArray} {S : List Stp} {x : Ins} {nm0 : ByteArray} {l : List OpV} (hd : decLn T h zs = some (q, bs, nm, S, x, nm0, l)) :
    ∃ b tb sb, zs = [.s (.l (.p b 0 0)), sv nm, .s (.l (.sl sb 0 S.length))] ∧ bs = [b, tb, sb] ∧ b ≠ tb ∧ sb ≠ b ∧ sb ≠ tb ∧ hget h b = some (wrK x nm0 l.length tb) ∧ hget h tb = some (opsK l) ∧ hget h sb = some (stepsK b S) ∧ q = lineQ x S l := by
  unfold decLn at hd
  split at hd
  case h_2 => cases hd
  rename_i A nm' sb n
  split at hd
  case h_2 => cases hd
  rename_i b tb x' nm0' l' hw
  split at hd
  case h_2 => cases hd
  rename_i Tt rows hs
  split at hd
  case h_2 => cases hd
  rename_i S' hS
  split at hd
  case isFalse => cases hd
  rename_i hc
  obtain ⟨rfl, rfl, h1, h2⟩ := hc
  simp only [Option.some.injEq, Prod.mk.injEq] at hd
  obtain ⟨rfl, rfl, rfl, rfl, rfl, rfl, rfl⟩ := hd
  obtain ⟨b2, tb2, rfl, e, hne, g1, g2⟩ := decWr_ok hw
  simp only [List.cons.injEq, and_true] at e
  obtain ⟨rfl, rfl⟩ := e
  exact ⟨b, tb, sb, rfl, rfl, hne, h1, h2, g1, g2, by rw [hs, stepsK, decAll_inv (d := decStep T b) (e := stepL b) (fun c x hc => decStep_inv hc) hS], rfl⟩
theorem decLn_mono {T : StTab} {h h' : Heap} (hs : ∀ b k, hget h b = some k → hget h' b = some k) {zs : List AV} {r : Prop × List Nat × (ByteArray × List Stp × (Ins × ByteArray × List OpV))} (hd : decLn T h zs = some r) : decLn T h' zs = some r := by
  unfold decLn at hd ⊢
  split at hd
  case h_2 => cases hd
  split at hd
  case h_2 => cases hd
  rename_i hw
  simp only [decWr_mono hs hw]
  split at hd
  case h_2 => cases hd
  rename_i ht
  simp only [hs _ _ ht]
  exact hd
theorem stepsK_ren (b : Nat) (S : List Stp) (g : Nat → Nat) : (stepsK b S).ren g = stepsK (g b) S := by
  unfold stepsK Blk.ren
  simp [stepL, LV.ren, Function.comp_def]
def outLn (y : ByteArray × List Stp × (Ins × ByteArray × List OpV)) : RO :=
  .ret (.s (.agg [.v (.string y.1), .sl 1 0 (stepsF y.2.2.1 y.2.1 y.2.2.2.2).length])) [some (wrK y.2.2.1 y.1 (stepsF y.2.2.1 y.2.1 y.2.2.2.2).length 1)] [opsK (stepsF y.2.2.1 y.2.1 y.2.2.2.2)]
theorem en_line (args : Array Value) (w : World) : (callFunc 48 args).run Tryz.prog w = .ok (.enter 48 args) w := by go_simp
def lineS (T : StTab) : Spec Tryz.prog 48 :=
  mkQ 1 3 (by decide) _ _ _ Tryz.func48 rfl en_line (decLn T) (fun y => [.s (.l (.p 0 0 0)), sv y.1, .s (.l (.sl 2 0 y.2.1.length))]) (fun y => [wrK y.2.2.1 y.2.2.2.1 y.2.2.2.2.length 1, opsK y.2.2.2.2, stepsK 0 y.2.1]) outLn (by rw [Tryz.ntmps48]; decide) (fun hs hd => decLn_mono hs hd)
    (by
      intro h zs q' bs y hd hq
      obtain ⟨nm, S, x, nm0, l⟩ := y
      obtain ⟨b, tb, sb, rfl, rfl, n1, n2, n3, h1, h2, h3, rfl⟩ := decLn_ok hd
      refine ⟨by rw [Tryz.ntmps48]; show 3 ≤ 27; decide, rfl, rfl, by simp [n1, Ne.symm n2, Ne.symm n3], fun d => ⟨?_, ?_⟩⟩
      · intro j b' k hj hk
        match j, hj, hk with
        | 0, hj, hk =>
          simp at hj hk
          subst hj
          subst hk
          exact ⟨rfl, by rw [h1, wrK_ren]; rfl⟩
        | 1, hj, hk =>
          simp at hj hk
          subst hj
          subst hk
          exact ⟨rfl, by rw [h2, opsK_ren]⟩
        | 2, hj, hk =>
          simp at hj hk
          subst hj
          subst hk
          exact ⟨rfl, by rw [h3, stepsK_ren]; rfl⟩
      · intro ρ al vals hA
        match vals, hA with
        | [v, w, u], ⟨a, b, c, _⟩ => exact ⟨a, b, c, trivial⟩)
    (by
      intro h zs q' bs y hd hq
      obtain ⟨nm, S, x, nm0, l⟩ := y
      obtain ⟨b, tb, sb, rfl, rfl, n1, n2, n3, h1, h2, h3, rfl⟩ := decLn_ok hd
      exact line_sw S x nm0 nm l hq.1 hq.2)
theorem line_run {T : StTab} {id : Nat} {h : Heap} {args : List AV} : (lineS T).run id h args = runQ 1 (decLn T) outLn id h args := rfl
theorem line_pan {T : StTab} {id : Nat} {h : Heap} {args : List AV} : (lineS T).pan id h args = none := rfl

end Go.Proofs.YtpjlafmhoifkmaaGreat

namespace Go.Proofs.YtpjlafmhoifkmaaGreat
open Go.RowKit

def stpD : Stp := ⟨49, fun x l => l ++ [dO x], fun _ l => l.length ≤ 1000 ∧ True, stDS, fun _ _ _ => rfl, fun _ _ _ => rfl⟩
def stpN : Stp := ⟨50, fun x l => l ++ [nO x], fun _ l => l.length ≤ 1000 ∧ True, stNS, fun _ _ _ => rfl, fun _ _ _ => rfl⟩
def stpM : Stp := ⟨56, fun x l => l ++ [mO x], fun _ l => l.length ≤ 1000 ∧ True, stMS, fun _ _ _ => rfl, fun _ _ _ => rfl⟩
def stpA : Stp := ⟨130, fun x l => l ++ [aO x], fun _ l => l.length ≤ 1000 ∧ True, stAS, fun _ _ _ => rfl, fun _ _ _ => rfl⟩
def stpDs : Stp := ⟨107, fun x l => l ++ [dsO x], fun _ l => l.length ≤ 1000 ∧ True, stDsS, fun _ _ _ => rfl, fun _ _ _ => rfl⟩
def stpNs : Stp := ⟨104, fun x l => l ++ [nsO x], fun _ l => l.length ≤ 1000 ∧ True, stNsS, fun _ _ _ => rfl, fun _ _ _ => rfl⟩
def stpXd : Stp := ⟨120, fun x l => l ++ [xdO x], fun _ l => l.length ≤ 1000 ∧ True, stXdS, fun _ _ _ => rfl, fun _ _ _ => rfl⟩
def stpNum : Stp := ⟨51, fun x l => l ++ [numO' x], fun _ l => l.length ≤ 1000 ∧ True, stNumS, fun _ _ _ => rfl, fun _ _ _ => rfl⟩
def stpCond : Stp := ⟨128, fun x l => l ++ [condO x], fun _ l => l.length ≤ 1000 ∧ True, stCondS, fun _ _ _ => rfl, fun _ _ _ => rfl⟩
def stpFar : Stp := ⟨123, fun x l => l ++ [farO x], fun x l => l.length ≤ 1000 ∧ (-1152921504606846976 ≤ x.a ∧ x.a ≤ 1152921504606846976), stFarS, fun _ _ _ => rfl, fun _ _ _ => rfl⟩
def stepsT : StTab where
  at_ := fun g => if g = 49 then some stpD else if g = 50 then some stpN else if g = 56 then some stpM else if g = 130 then some stpA else if g = 107 then some stpDs else if g = 104 then some stpNs else if g = 120 then some stpXd else if g = 51 then some stpNum else if g = 128 then some stpCond else if g = 123 then some stpFar else none
  ok := by
    intro g st h
    repeat' split at h
    all_goals first | (injection h with h; subst h; rename_i e; rw [e]; rfl) | (injection h with h; subst h; subst_vars; rfl) | cases h

end Go.Proofs.YtpjlafmhoifkmaaGreat

namespace Go.Proofs.YtpjlafmhoifkmaaGreat
open Go.RowKit
set_option maxRecDepth 100000

theorem fn_zero : zeroOf Tryz.prog 1 = some [.nilFunc] := by kernel_rfl
theorem fn_sz : szOf Tryz.prog 1 = some 1 := by kernel_rfl
theorem at_D : stepsT.at_ 49 = some stpD := rfl
theorem at_N : stepsT.at_ 50 = some stpN := rfl
theorem at_M : stepsT.at_ 56 = some stpM := rfl
theorem at_A : stepsT.at_ 130 = some stpA := rfl
theorem at_Ds : stepsT.at_ 107 = some stpDs := rfl
theorem at_Ns : stepsT.at_ 104 = some stpNs := rfl
theorem at_Xd : stepsT.at_ 120 = some stpXd := rfl
theorem at_Num : stepsT.at_ 51 = some stpNum := rfl
theorem at_Cond : stepsT.at_ 128 = some stpCond := rfl
theorem at_Far : stepsT.at_ 123 = some stpFar := rfl
theorem opL_ren1 (o : OpV) (g : Nat → Nat) : List.map (fun x => LV.ren g x) (opL o) = opL o := ofDs_ren
theorem mapT_opL (h : Heap) (f : Nat) (o : OpV) : mapT (LV.toD h f) (opL o) = some (True, [], opE o) := mapT_ofDs
def lineV (r : LineV) : AV := .s (.agg [.v (.string r.1), .d (.sd 15 (r.2.map opE))])
theorem en_shifted (args : Array Value) (w : World) : (callFunc 106 args).run Tryz.prog w = .ok (.enter 106 args) w := by go_simp
def shiftedS : Spec Tryz.prog 106 :=
  mk1 _ _ _ Tryz.func106 rfl en_shifted (tAgg insR) ((fun _ => True)) ((fun x => .ret (opV (shiftedF x)))) (by rw [Tryz.ntmps106]; decide) (fun x _ => by
  refine aRun_sound (ctx := [⟨_, numS⟩, ⟨_, withS⟩]) 4000 ?_
  rw [Tryz.ntmps106, Tryz.results106]
  simp only [Tryz.f106, Option.getD_some, zipT]
  by_cases h : x.c = 1
  · have e : shiftedF x = oWith (oNum x.a) 1 12 := by unfold shiftedF; rw [if_pos h]
    simp only [go_sem, insR, h, e, num_run, num_pan, with_run, with_pan, opV, oNum, oWith, op0, r0, opR, opE, emp]
  · have e : shiftedF x = oNum x.a := by unfold shiftedF; rw [if_neg h]
    simp only [go_sem, insR, h, e, num_run, num_pan, with_run, with_pan, opV, oNum, oWith, op0, r0, opR, opE, emp])
theorem shifted_run {id : Nat} {h : Heap} {args : List AV} : (shiftedS).run id h args = runP (args1 (tAgg insR) ((fun _ => True))) ((fun x => .ret (opV (shiftedF x)))) h args := rfl
theorem shifted_pan {id : Nat} {h : Heap} {args : List AV} : (shiftedS).pan id h args = panP (args1 (tAgg insR) ((fun _ => True))) ((fun x => .ret (opV (shiftedF x)))) h args := rfl

set_option maxHeartbeats 2000000 in
theorem imm_extr (x : Ins) (h : x.op = 6) : SW Tryz.prog ⟨none, 0⟩ Tryz.f59.ntmps (Tryz.f59.body.getD .skip) ⟨0, zipT 0 [(tAgg insR).enc x], []⟩ (outQ Tryz.prog Tryz.f59.results.toList (.ret (lineV (immF x)))) := by
  rw [Tryz.ntmps59, Tryz.results59]
  simp only [Tryz.f59, Option.getD_some, zipT]
  refine sw_seq (aRun_sound (ctx := []) 4000 ?_)
  simp only [go_sem, thenQ, insR]
  refine sw_seq (aRun_sound (ctx := []) 4000 ?_)
  simp only [go_sem, thenQ]
  refine SW.wk (s' := ⟨5, [(1, .s (.l (.p 0 0 0))), (2, .s (.l (.p 1 0 0))), (3, .s (.l (.p 2 0 0)))], [(0, some ⟨true, 27, 10, [insE x]⟩), (1, some boxL), (2, some ⟨true, 66, 1, [[.p 3 0 0]]⟩), (3, some (wrK x emp 0 4)), (4, some (opsK []))]⟩) ?_ ((Wk.nilC 64 11 40 15 (k := ⟨true, 68, 12, [insE x ++ [.v (.string emp), .v (.slice none 0 0)]]⟩) rfl rfl rfl).trans (Wk.renL [0, 16, 80, 64, 112] (by simp) (by simp) (by decide) rfl rfl))
  refine aRun_sound (ctx := [⟨_, lineS stepsT⟩]) 4000 ?_
  have e : immF x = ((⟨#[101, 120, 116, 114]⟩ : ByteArray), [dO x, nO x, mO x, numO' x]) := by unfold immF; simp [h]
  simp only [go_sem, insE, wrK, opsK, boxL, h, fn_zero, fn_sz, line_run, line_pan, runQ, decLn, decWr, decWrL, decOps_map, decStep, at_D, at_N, at_M, at_Num, outLn, gOf, decAll, opL_ren1, mapT_opL, lineV, e, lineQ, stepsQ, stepsF, stpD, stpN, stpM, stpNum]
  rfl

end Go.Proofs.YtpjlafmhoifkmaaGreat
