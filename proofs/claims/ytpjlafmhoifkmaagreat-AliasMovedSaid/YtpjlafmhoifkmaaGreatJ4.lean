/- Instructions as lines: a line out of steps. -/
import Derived.Test.YtpjlafmhoifkmaaGreatJ3
import Derived.Test.YtpjlafmhoifkmaaGreatJq
set_option linter.unusedVariables false
set_option linter.unusedSimpArgs false
namespace Go.Proofs.YtpjlafmhoifkmaaGreat
open Go.RowKit
set_option maxRecDepth 100000

/-- A step of the writer. -/
structure Stp where
  g : FuncId
  F : Ins → List OpV → List OpV
  q : Ins → List OpV → Prop
  spec : Spec Tryz.prog g
  run_eq : ∀ (id : Nat) (h : Heap) (args : List AV), spec.run id h args = runR 1 (decW xw0 (fun _ => q)) (fun y => outWr (.tup [], y.2.1, y.2.2.1, F y.2.1 y.2.2.2)) id h args
  pan_eq : ∀ (id : Nat) (h : Heap) (args : List AV), spec.pan id h args = panR (decW xw0 (fun _ => q)) (fun y => outWr (.tup [], y.2.1, y.2.2.1, F y.2.1 y.2.2.2)) h args

def stepsF (x : Ins) : List Stp → List OpV → List OpV
  | [], l => l
  | st :: r, l => stepsF x r (st.F x l)
def stepsQ (x : Ins) : List Stp → List OpV → Prop
  | [], _ => True
  | st :: r, l => st.q x l ∧ stepsQ x r (st.F x l)
theorem stepsF_app (x : Ins) : ∀ (a b : List Stp) (l : List OpV), stepsF x (a ++ b) l = stepsF x b (stepsF x a l)
  | [], _, _ => rfl
  | st :: a, b, l => stepsF_app x a b (st.F x l)
theorem stepsF_next {x : Ins} {S : List Stp} {i : Nat} {st : Stp} (h : S[i]? = some st) (l : List OpV) : stepsF x (S.take (i + 1)) l = st.F x (stepsF x (S.take i) l) := by
  rw [List.take_add_one, h, stepsF_app]
  rfl
theorem stepsQ_at {x : Ins} : ∀ {S : List Stp} {l : List OpV}, stepsQ x S l → ∀ {i : Nat} {st : Stp}, S[i]? = some st → st.q x (stepsF x (S.take i) l)
  | [], _, _, _, _, hi => by simp at hi
  | s :: S, l, h, 0, st, hi => by
    simp only [List.getElem?_cons_zero, Option.some.injEq] at hi
    subst hi
    exact h.1
  | s :: S, l, h, i + 1, st, hi => stepsQ_at (S := S) h.2 (by simpa using hi)

def stepL (b : Nat) (st : Stp) : List LV := [.bf st.g [b] []]
def stepsK (b : Nat) (S : List Stp) : Blk := ⟨true, 1, 1, S.map (stepL b)⟩
theorem stepsL_ren (b : Nat) (S : List Stp) (g : Nat → Nat) : List.map (List.map (fun x => LV.ren g x)) (List.map (stepL b) S) = List.map (stepL (g b)) S := by
  simp [stepL, LV.ren]
theorem opL_ren' (l : List OpV) (g : Nat → Nat) : List.map (List.map (fun x => LV.ren g x)) (List.map opL l) = List.map opL l := opL_ren l g
def boxL : Blk := ⟨true, 33, 2, [[.v (.string emp), .v (.slice none 0 0)]]⟩
def lineI (S : List Stp) (x : Ins) (nm : ByteArray) (l0 : List OpV) (i : Nat) : St :=
  ⟨4, [(0, .s (.l (.p 0 0 0))), (6, .s (.l (.p 3 0 0))), (14, .s (.l (.sl 2 0 S.length))), (15, iv S.length), (16, iv i)], [(0, some (wrK x nm (stepsF x (S.take i) l0).length 1)), (1, some (opsK (stepsF x (S.take i) l0))), (2, some (stepsK 0 S)), (3, some boxL)]⟩

set_option maxHeartbeats 2000000 in
theorem line_sw (S : List Stp) (x : Ins) (nm0 nm : ByteArray) (l0 : List OpV) (hq : stepsQ x S l0) (hlen : S.length ≤ 1000) :
    SW Tryz.prog ⟨none, 1⟩ Tryz.f48.ntmps (Tryz.f48.body.getD .skip) ⟨3, zipT 0 [.s (.l (.p 0 0 0)), sv nm, .s (.l (.sl 2 0 S.length))], zipH 0 [wrK x nm0 l0.length 1, opsK l0, stepsK 0 S]⟩
      (outRQ Tryz.prog Tryz.f48.results.toList 1 (.ret (.s (.agg [.v (.string nm), .sl 1 0 (stepsF x S l0).length])) [some (wrK x nm (stepsF x S l0).length 1)] [opsK (stepsF x S l0)])) := by
  refine aRun_sound (ctx := []) 4000 ?_
  rw [Tryz.ntmps48, Tryz.results48]
  simp only [Tryz.f48, Option.getD_some, zipT]
  simp only [go_sem, Nat.reduceOr, Nat.reducePow, Nat.reduceDiv, Nat.reduceMod, Nat.reduceBEq, Int.reduceBEq, Int.reduceBNe, Int.reduceEq, Int.reduceLT, Int.reduceLE, Int.reduceToNat, reduceIte, reduceCtorEq, Nat.reduceEqDiff, Nat.reduceAdd, Nat.reduceLT, Nat.reduceLeDiff, Nat.reduceMul, Nat.reduceSub, wrK, insE, opsK, stepsK]
  refine sw_loop (ι := Nat) (fun i => i ≤ S.length) (lineI S x nm l0) (fun i => S.length - i) 0 (Nat.zero_le _) ?start ?round
  case start =>
    exact Wk.renL [0, 1, 2, 3] (fun j hj => by obtain rfl : j = 0 := Nat.lt_one_iff.1 hj
                                               rfl) (Nat.le_refl 4) (by decide) rfl (by simp [lineI, stepsF, hget, Blk.ren, wrK, insE, opsK, opL, opE, ofDs, ofD, stepsK, stepL, boxL, emp, LV.ren, Function.comp_def])
  case round =>
    intro i hi
    by_cases hlt : i < S.length
    · have hltI : (i : Int) < S.length := by omega
      obtain ⟨st, hst⟩ : ∃ st, S[i]? = some st := ⟨_, List.getElem?_eq_getElem hlt⟩
      have hqs := stepsQ_at hq hst
      have hnx := stepsF_next (x := x) hst l0
      have ei : IntKind.i64.wrap ((i : Int) + 1) = ((i + 1 : Nat) : Int) := by rw [IntKind.wrap_i64]; omega
      unfold lineI
      obtain ⟨l, hl⟩ : ∃ l, stepsF x (S.take i) l0 = l := ⟨_, rfl⟩
      rw [hl] at hqs hnx ⊢
      refine aRun_sound (ctx := [⟨st.g, st.spec⟩]) 4000 ?_
      simp only [go_sem, Nat.reduceOr, Nat.reducePow, Nat.reduceDiv, Nat.reduceMod, Nat.reduceBEq, Int.reduceBEq, Int.reduceBNe, Int.reduceEq, Int.reduceLT, Int.reduceLE, Int.reduceToNat, reduceIte, reduceCtorEq, Nat.reduceEqDiff, Nat.reduceAdd, Nat.reduceLT, Nat.reduceLeDiff, Nat.reduceMul, Nat.reduceSub, wrK, insE, opsK, stepsK, stepL, hltI, hlt, hst, st.run_eq, st.pan_eq, decW, decWr, decWrL, decOps_map, xw0, outWr, opL_ren, hqs, ei]
      refine ⟨i + 1, hlt, by omega, ?_⟩
      rw [hnx]
      exact Wk.renL [0, 84, 2, 3] (fun j hj => by obtain rfl : j = 0 := Nat.lt_one_iff.1 hj
                                                  rfl) (Nat.le_refl 4) (by decide) rfl (by simp [hget, Blk.ren, wrK, insE, opsK, opL, opE, ofDs, ofD, stepsK, stepL, boxL, emp, LV.ren, Function.comp_def])
    · obtain rfl : i = S.length := by omega
      have hltI : ¬ (S.length : Int) < S.length := by omega
      unfold lineI
      rw [List.take_length]
      refine aRun_sound (ctx := []) 4000 ?_
      simp only [go_sem, Nat.reduceOr, Nat.reducePow, Nat.reduceDiv, Nat.reduceMod, Nat.reduceBEq, Int.reduceBEq, Int.reduceBNe, Int.reduceEq, Int.reduceLT, Int.reduceLE, Int.reduceToNat, reduceIte, reduceCtorEq, Nat.reduceEqDiff, Nat.reduceAdd, Nat.reduceLT, Nat.reduceLeDiff, Nat.reduceMul, Nat.reduceSub, wrK, insE, opsK, stepsK, boxL, hltI, outRQ_ret, outRQ_normal]
      exact ⟨_, _, _, rfl, rfl, by simp, by simp, by simp, Wk.renL [0, 1] (fun j hj => by obtain rfl : j = 0 := Nat.lt_one_iff.1 hj
                                                                                          rfl) (Nat.le_refl _) (by decide) rfl (by simp [zipO, zipH, hget, Blk.ren, opL, opE, ofDs, ofD, LV.ren, Function.comp_def])⟩

end Go.Proofs.YtpjlafmhoifkmaaGreat
