/- Lines: the tests on bytes, runs, signs. -/
import Derived.Test.YtcdbldakjepjiaaDoorWs
import Derived.Test.YtcdbldakjepjiaaDoorChecked
import Derived.Test.YtcdbldakjepjiaaDoorTyU
import Derived.Test.YtcdbldakjepjiaaDoorL0
import Derived.Test.YtcdbldakjepjiaaDoorEb
import Derived.Lib.Bytealg
set_option linter.unusedVariables false
set_option linter.unusedSimpArgs false
namespace Go.Proofs.YtcdbldakjepjiaaDoor
open Go.RowKit

set_option maxHeartbeats 400000 in
theorem blank_any (n : Int) (w : World) :
    Calls Tryd.prog 78 #[.int .u8 n] w fun e w' => e = .returned (.bool (blankB n)) ∧ w = w' := by
  go_enter Tryd.func78, Tryd.ntmps78
  go_wp2
  all_goals (go_ret; refine ⟨ret_bool ?_, rfl⟩; rw [Bool.eq_iff_iff]; simp [blankB]; try omega)

set_option maxHeartbeats 400000 in
theorem shown_any (n : Int) (w : World) :
    Calls Tryd.prog 53 #[.int .u8 n] w fun e w' => e = .returned (.bool (shownB n)) ∧ w = w' := by
  go_enter Tryd.func53, Tryd.ntmps53
  go_wp2
  all_goals (go_ret; refine ⟨ret_bool ?_, rfl⟩; rw [Bool.eq_iff_iff]; simp [shownB]; try omega)

theorem enter_blank (args : Array Value) (w : World) : (callFunc 78 args).run Tryd.prog w = .ok (.enter 78 args) w := by go_simp
theorem run_blank (s : ByteArray) (w : World) (hs : s.size ≤ maxLen) :
    Calls Tryd.prog 56 #[.string s, .func (.func 78) #[] #[]] w fun e w' => e = .returned (.int .i64 (runF blankB s.data.toList)) ∧ w = w' :=
  run_gen _ _ enter_blank blank_any s w hs

theorem runF_runL (g : Int → Bool) : ∀ l : List UInt8, runF g l = runL g (l.map fun b => (b.toNat : Int))
  | [] => rfl
  | c :: l => by rw [List.map_cons, runL_cons, ← runF_runL g l]; unfold runF; rw [List.takeWhile_cons]; split <;> simp [Nat.add_comm, *]

/-! ### Bytes -/
theorem en_letter (args : Array Value) (w : World) : (callFunc 55 args).run Tryd.prog w = .ok (.enter 55 args) w := by go_simp
theorem en_digit (args : Array Value) (w : World) : (callFunc 88 args).run Tryd.prog w = .ok (.enter 88 args) w := by go_simp
theorem en_shown (args : Array Value) (w : World) : (callFunc 53 args).run Tryd.prog w = .ok (.enter 53 args) w := by go_simp
def letterS : Spec Tryd.prog 55 := mk1C _ en_letter (tInt .u8) (fun _ => True) (fun c => bv (letterB c)) (fun _ => rfl) fun s hs M w v _ hv => by
  obtain rfl : v = .int .u8 s := hv
  exact (letter_any s w).mono fun e w' ⟨h1, h2⟩ => ⟨⟨_, h1, rfl⟩, h2 ▸ .refl _ _⟩
theorem letter_run {id : Nat} {h : Heap} {args : List AV} : letterS.run id h args = runP (args1 (tInt .u8) (fun _ => True)) (fun c => .ret (bv (letterB c))) h args := rfl
theorem letter_pan {id : Nat} {h : Heap} {args : List AV} : letterS.pan id h args = panP (args1 (tInt .u8) (fun _ => True)) (fun c => .ret (bv (letterB c))) h args := rfl
def digitS : Spec Tryd.prog 88 := mk1C _ en_digit (tInt .u8) (fun _ => True) (fun c => bv (digitB c)) (fun _ => rfl) fun s hs M w v _ hv => by
  obtain rfl : v = .int .u8 s := hv
  exact (digit_any s w).mono fun e w' ⟨h1, h2⟩ => ⟨⟨_, h1, rfl⟩, h2 ▸ .refl _ _⟩
theorem digit_run {id : Nat} {h : Heap} {args : List AV} : digitS.run id h args = runP (args1 (tInt .u8) (fun _ => True)) (fun c => .ret (bv (digitB c))) h args := rfl
theorem digit_pan {id : Nat} {h : Heap} {args : List AV} : digitS.pan id h args = panP (args1 (tInt .u8) (fun _ => True)) (fun c => .ret (bv (digitB c))) h args := rfl
def wordyS : Spec Tryd.prog 57 := mk1C _ enter_wordy (tInt .u8) (fun _ => True) (fun c => bv (wordyB c)) (fun _ => rfl) fun s hs M w v _ hv => by
  obtain rfl : v = .int .u8 s := hv
  exact (wordy_any s w).mono fun e w' ⟨h1, h2⟩ => ⟨⟨_, h1, rfl⟩, h2 ▸ .refl _ _⟩
theorem wordy_run {id : Nat} {h : Heap} {args : List AV} : wordyS.run id h args = runP (args1 (tInt .u8) (fun _ => True)) (fun c => .ret (bv (wordyB c))) h args := rfl
theorem wordy_pan {id : Nat} {h : Heap} {args : List AV} : wordyS.pan id h args = panP (args1 (tInt .u8) (fun _ => True)) (fun c => .ret (bv (wordyB c))) h args := rfl
def shownS : Spec Tryd.prog 53 := mk1C _ en_shown (tInt .u8) (fun _ => True) (fun c => bv (shownB c)) (fun _ => rfl) fun s hs M w v _ hv => by
  obtain rfl : v = .int .u8 s := hv
  exact (shown_any s w).mono fun e w' ⟨h1, h2⟩ => ⟨⟨_, h1, rfl⟩, h2 ▸ .refl _ _⟩
theorem shown_run {id : Nat} {h : Heap} {args : List AV} : shownS.run id h args = runP (args1 (tInt .u8) (fun _ => True)) (fun c => .ret (bv (shownB c))) h args := rfl
theorem shown_pan {id : Nat} {h : Heap} {args : List AV} : shownS.pan id h args = panP (args1 (tInt .u8) (fun _ => True)) (fun c => .ret (bv (shownB c))) h args := rfl

theorem en_hex (args : Array Value) (w : World) : (callFunc 105 args).run Tryd.prog w = .ok (.enter 105 args) w := by go_simp
def hexS : Spec Tryd.prog 105 :=
  mk1 _ _ _ Tryd.func105 rfl en_hex (tInt .u8) ((fun c => 0 ≤ c ∧ c ≤ 255)) ((fun c => .ret (iv (hexB c)))) (by rw [Tryd.ntmps105]; decide) (fun c hc => by
  refine aRun_sound (ctx := [⟨_, digitS⟩]) 4000 ?_
  rw [Tryd.ntmps105, Tryd.results105]
  simp only [Tryd.f105, Option.getD_some, zipT]
  by_cases h1 : 48 ≤ c ∧ c ≤ 57
  · have hd : digitB c = true := by simp [digitB, h1]
    have e1 : IntKind.u8.wrap (c - 48) = c - 48 := by rw [IntKind.wrap_u8]; omega
    have e2 : IntKind.i64.wrap (c - 48) = c - 48 := by rw [IntKind.wrap_i64]; omega
    have e3 : hexB c = c - 48 := by unfold hexB; rw [if_pos h1]
    simp only [go_sem, Nat.reduceOr, Nat.reducePow, Nat.reduceDiv, Nat.reduceMod, Nat.reduceBEq, Int.reduceBEq, Int.reduceBNe, Int.reduceEq, Int.reduceLT, Int.reduceLE, Int.reduceToNat, reduceIte, reduceCtorEq, Nat.reduceEqDiff, Nat.reduceAdd, Nat.reduceLT, Nat.reduceLeDiff, Nat.reduceMul, Nat.reduceSub, digit_run, digit_pan, hd, e1, e2, e3]
  · have hd : digitB c = false := by simp [digitB]; omega
    by_cases h2 : 97 ≤ c
    · by_cases h3 : c ≤ 102
      · have e1 : IntKind.u8.wrap (c - 97) = c - 97 := by rw [IntKind.wrap_u8]; omega
        have e2 : IntKind.i64.wrap (c - 97) = c - 97 := by rw [IntKind.wrap_i64]; omega
        have e4 : IntKind.i64.wrap (c - 97 + 10) = c - 97 + 10 := by rw [IntKind.wrap_i64]; omega
        have e3 : hexB c = c - 97 + 10 := by unfold hexB; rw [if_neg h1, if_pos ⟨h2, h3⟩]; omega
        simp only [go_sem, Nat.reduceOr, Nat.reducePow, Nat.reduceDiv, Nat.reduceMod, Nat.reduceBEq, Int.reduceBEq, Int.reduceBNe, Int.reduceEq, Int.reduceLT, Int.reduceLE, Int.reduceToNat, reduceIte, reduceCtorEq, Nat.reduceEqDiff, Nat.reduceAdd, Nat.reduceLT, Nat.reduceLeDiff, Nat.reduceMul, Nat.reduceSub, digit_run, digit_pan, hd, h2, h3, e1, e2, e4, e3]
      · have h5 : (65 : Int) ≤ c := by omega
        have h6 : ¬ c ≤ 70 := by omega
        have e3 : hexB c = 16 := by unfold hexB; rw [if_neg h1, if_neg (by omega), if_neg (by omega)]
        simp only [go_sem, Nat.reduceOr, Nat.reducePow, Nat.reduceDiv, Nat.reduceMod, Nat.reduceBEq, Int.reduceBEq, Int.reduceBNe, Int.reduceEq, Int.reduceLT, Int.reduceLE, Int.reduceToNat, reduceIte, reduceCtorEq, Nat.reduceEqDiff, Nat.reduceAdd, Nat.reduceLT, Nat.reduceLeDiff, Nat.reduceMul, Nat.reduceSub, digit_run, digit_pan, hd, h2, h3, h5, h6, e3]
    · by_cases h5 : 65 ≤ c
      · by_cases h6 : c ≤ 70
        · have e1 : IntKind.u8.wrap (c - 65) = c - 65 := by rw [IntKind.wrap_u8]; omega
          have e2 : IntKind.i64.wrap (c - 65) = c - 65 := by rw [IntKind.wrap_i64]; omega
          have e4 : IntKind.i64.wrap (c - 65 + 10) = c - 65 + 10 := by rw [IntKind.wrap_i64]; omega
          have e3 : hexB c = c - 65 + 10 := by unfold hexB; rw [if_neg h1, if_neg (by omega), if_pos ⟨h5, h6⟩]; omega
          simp only [go_sem, Nat.reduceOr, Nat.reducePow, Nat.reduceDiv, Nat.reduceMod, Nat.reduceBEq, Int.reduceBEq, Int.reduceBNe, Int.reduceEq, Int.reduceLT, Int.reduceLE, Int.reduceToNat, reduceIte, reduceCtorEq, Nat.reduceEqDiff, Nat.reduceAdd, Nat.reduceLT, Nat.reduceLeDiff, Nat.reduceMul, Nat.reduceSub, digit_run, digit_pan, hd, h2, h5, h6, e1, e2, e4, e3]
        · have e3 : hexB c = 16 := by unfold hexB; rw [if_neg h1, if_neg (by omega), if_neg (by omega)]
          simp only [go_sem, Nat.reduceOr, Nat.reducePow, Nat.reduceDiv, Nat.reduceMod, Nat.reduceBEq, Int.reduceBEq, Int.reduceBNe, Int.reduceEq, Int.reduceLT, Int.reduceLE, Int.reduceToNat, reduceIte, reduceCtorEq, Nat.reduceEqDiff, Nat.reduceAdd, Nat.reduceLT, Nat.reduceLeDiff, Nat.reduceMul, Nat.reduceSub, digit_run, digit_pan, hd, h2, h5, h6, e3]
      · have e3 : hexB c = 16 := by unfold hexB; rw [if_neg h1, if_neg (by omega), if_neg (by omega)]
        simp only [go_sem, Nat.reduceOr, Nat.reducePow, Nat.reduceDiv, Nat.reduceMod, Nat.reduceBEq, Int.reduceBEq, Int.reduceBNe, Int.reduceEq, Int.reduceLT, Int.reduceLE, Int.reduceToNat, reduceIte, reduceCtorEq, Nat.reduceEqDiff, Nat.reduceAdd, Nat.reduceLT, Nat.reduceLeDiff, Nat.reduceMul, Nat.reduceSub, digit_run, digit_pan, hd, h2, h5, e3])
theorem hex_run {id : Nat} {h : Heap} {args : List AV} : (hexS).run id h args = runP (args1 (tInt .u8) ((fun c => 0 ≤ c ∧ c ≤ 255))) ((fun c => .ret (iv (hexB c)))) h args := rfl
theorem hex_pan {id : Nat} {h : Heap} {args : List AV} : (hexS).pan id h args = panP (args1 (tInt .u8) ((fun c => 0 ≤ c ∧ c ≤ 255))) ((fun c => .ret (iv (hexB c)))) h args := rfl

/-! ### Runs -/
def isOf (f : FuncId) : Int → Bool := if f = 57 then wordyB else blankB
theorem en_run (args : Array Value) (w : World) : (callFunc 56 args).run Tryd.prog w = .ok (.enter 56 args) w := by go_simp
def runS : Spec Tryd.prog 56 := mk2C _ en_run tStr tFn (fun s f => s.size ≤ maxLen ∧ (f = 57 ∨ f = 78)) (fun s f => iv (runL (isOf f) (toBytes s))) (fun _ _ => rfl) fun s f hs M w u v _ hu hv => by
  obtain rfl : u = .string s := hu
  obtain rfl : v = .func (.func f) #[] #[] := hv
  obtain ⟨hs, rfl | rfl⟩ := hs
  · refine (run_wordy s w hs).mono fun e w' ⟨h1, h2⟩ => ⟨⟨_, h1, ?_⟩, h2 ▸ .refl _ _⟩
    rw [runF_runL]; rfl
  · refine (run_blank s w hs).mono fun e w' ⟨h1, h2⟩ => ⟨⟨_, h1, ?_⟩, h2 ▸ .refl _ _⟩
    rw [runF_runL]; rfl
theorem run_run {id : Nat} {h : Heap} {args : List AV} : runS.run id h args = runP (args2 tStr tFn (fun s f => s.size ≤ maxLen ∧ (f = 57 ∨ f = 78))) (fun x => .ret (iv (runL (isOf x.2) (toBytes x.1)))) h args := rfl
theorem run_pan {id : Nat} {h : Heap} {args : List AV} : runS.pan id h args = panP (args2 tStr tFn (fun s f => s.size ≤ maxLen ∧ (f = 57 ∨ f = 78))) (fun x => .ret (iv (runL (isOf x.2) (toBytes x.1)))) h args := rfl

/-! ### Names -/
theorem nameB_nameL (s : ByteArray) : nameB s = nameL (toBytes s) := by
  have hl : (toBytes s).length = s.size := toBytes_length s
  rcases Nat.eq_zero_or_pos s.size with h | h
  · rw [← nameB_nil h]
    unfold nameL
    rw [hl, h]; rfl
  · rw [nameB_cons h]
    unfold nameL
    rw [hl, runF_runL]
    have h0 : bAt (toBytes s) 0 = (s[0].toNat : Int) := by
      have := toBytes_get h
      rw [← byteAt_bAt0]
      unfold byteAt
      rw [List.getD_eq_getElem?_getD, show Int.toNat 0 = 0 from rfl, List.getElem?_eq_getElem (by simpa using h)]
      rfl
    rw [h0]
    simp [h, toBytes]
    rfl
theorem en_name (args : Array Value) (w : World) : (callFunc 27 args).run Tryd.prog w = .ok (.enter 27 args) w := by go_simp
def nameS : Spec Tryd.prog 27 := mk1C _ en_name tStr (fun s => s.size ≤ maxLen) (fun s => bv (nameL (toBytes s))) (fun _ => rfl) fun s hs M w v _ hv => by
  obtain rfl : v = .string s := hv
  refine (name_any s w hs).mono fun e w' ⟨h1, h2⟩ => ⟨⟨_, h1, ?_⟩, h2 ▸ .refl _ _⟩
  rw [nameB_nameL]; rfl
theorem name_run {id : Nat} {h : Heap} {args : List AV} : nameS.run id h args = runP (args1 tStr (fun s => s.size ≤ maxLen)) (fun s => .ret (bv (nameL (toBytes s)))) h args := rfl
theorem name_pan {id : Nat} {h : Heap} {args : List AV} : nameS.pan id h args = panP (args1 tStr (fun s => s.size ≤ maxLen)) (fun s => .ret (bv (nameL (toBytes s)))) h args := rfl

theorem sizeP {s : ByteArray} (h : ¬ s = emp) : 0 < s.size := by
  rcases Nat.eq_zero_or_pos s.size with h0 | h0
  · exact absurd (toBytes_inj (List.eq_nil_of_length_eq_zero (by rw [toBytes_length]; exact h0))) h
  · exact h0

/-! ### Signs -/
set_option maxHeartbeats 1000000 in
set_option maxRecDepth 100000 in
theorem indexByte_any (s : ByteArray) (c : Int) (w : World) :
    Calls Tryd.prog 104 #[.string s, .int .u8 c] w fun e w' => e = .returned (.int .i64 (Lib.indexByte s.data.toList c.toNat.toUInt8)) ∧ w' = w := by
  go_enter Tryd.func104, Tryd.ntmps104
  go_wp2
  rw [run_callFunc_extern Tryd.func119 (by kernel_rfl) (by kernel_rfl) (by kernel_rfl) (e := Extern.BytealgIndexByte.indexByte) (by kernel_rfl), Lib.run_indexByteString]
  simp only [Result.andThen]
  rw [Oper.upon_value]
  go_wp2
  go_ret
  exact ⟨rfl, rfl⟩
set_option maxHeartbeats 1000000 in
set_option maxRecDepth 100000 in
theorem indexOf_any (s : ByteArray) (c : Int) (w : World) :
    Calls Tryd.prog 82 #[.string s, .int .u8 c] w fun e w' => e = .returned (.int .i64 (Lib.indexByte s.data.toList c.toNat.toUInt8)) ∧ w' = w := by
  go_enter Tryd.func82, Tryd.ntmps82
  go_wp2_with (go_at_call 104; refine (indexByte_any _ _ _).mono ?_; rintro e w' ⟨rfl, rfl⟩)
  go_ret
  exact ⟨rfl, rfl⟩
theorem en_indexOf (args : Array Value) (w : World) : (callFunc 82 args).run Tryd.prog w = .ok (.enter 82 args) w := by go_simp
def signS0 : ByteArray := ⟨#[44, 91, 93, 33, 35, 58, 43, 45, 42, 47, 37, 38, 124, 94, 126, 40, 41, 61]⟩
def idxV (c : Int) : Int := if c ∈ signs then 0 else -1
def idxF (s : ByteArray) (c : Int) : Int := Lib.indexByte s.data.toList c.toNat.toUInt8
def indexOfS : Spec Tryd.prog 82 := mk2C _ en_indexOf tStr (tInt .u8) (fun _ _ => True) (fun s c => iv (idxF s c)) (fun _ _ => rfl) fun s c hs M w u v _ hu hv => by
  obtain rfl : u = .string s := hu
  obtain rfl : v = .int .u8 c := hv
  exact (indexOf_any s c w).mono fun e w' ⟨h1, h2⟩ => ⟨⟨_, h1, rfl⟩, h2 ▸ .refl _ _⟩
theorem indexOf_run {id : Nat} {h : Heap} {args : List AV} : indexOfS.run id h args = runP (args2 tStr (tInt .u8) (fun _ _ => True)) (fun x => .ret (iv (idxF x.1 x.2))) h args := rfl
theorem indexOf_pan {id : Nat} {h : Heap} {args : List AV} : indexOfS.pan id h args = panP (args2 tStr (tInt .u8) (fun _ _ => True)) (fun x => .ret (iv (idxF x.1 x.2))) h args := rfl
theorem idx_signs (c : Int) (hc : 0 ≤ c ∧ c ≤ 255) : 0 ≤ idxF signS0 c ↔ c ∈ signs := by
  have : ∀ n : Nat, n < 256 → (0 ≤ idxF signS0 (n : Int) ↔ (n : Int) ∈ signs) := by decide +kernel
  have := this c.toNat (by omega)
  rwa [Int.toNat_of_nonneg hc.1] at this

theorem en_hasI (args : Array Value) (w : World) : (callFunc 83 args).run Tryd.prog w = .ok (.enter 83 args) w := by go_simp
def hasIS : Spec Tryd.prog 83 :=
  mk2 _ _ _ Tryd.func83 rfl en_hasI (tStr) (tStr) ((fun _ _ => True)) ((fun s p => .ret (bv (hasPF s p)))) (by rw [Tryd.ntmps83]; decide) (fun s p _ => by
  refine aRun_sound (ctx := []) 4000 ?_
  rw [Tryd.ntmps83, Tryd.results83]
  simp only [Tryd.f83, Option.getD_some, zipT]
  by_cases h : p.size ≤ s.size
  · have hI : (p.size : Int) ≤ s.size := by omega
    by_cases h2 : s.extract 0 p.size = p
    · simp only [go_sem, Nat.reduceOr, Nat.reducePow, Nat.reduceDiv, Nat.reduceMod, Nat.reduceBEq, Int.reduceBEq, Int.reduceBNe, Int.reduceEq, Int.reduceLT, Int.reduceLE, Int.reduceToNat, reduceIte, reduceCtorEq, Nat.reduceEqDiff, Nat.reduceAdd, Nat.reduceLT, Nat.reduceLeDiff, Nat.reduceMul, Nat.reduceSub, hI, Int.toNat_zero, h2, hasPF, h]
    · simp only [go_sem, Nat.reduceOr, Nat.reducePow, Nat.reduceDiv, Nat.reduceMod, Nat.reduceBEq, Int.reduceBEq, Int.reduceBNe, Int.reduceEq, Int.reduceLT, Int.reduceLE, Int.reduceToNat, reduceIte, reduceCtorEq, Nat.reduceEqDiff, Nat.reduceAdd, Nat.reduceLT, Nat.reduceLeDiff, Nat.reduceMul, Nat.reduceSub, hI, Int.toNat_zero, h2, hasPF, h]
  · have hI : ¬ (p.size : Int) ≤ s.size := by omega
    simp only [go_sem, Nat.reduceOr, Nat.reducePow, Nat.reduceDiv, Nat.reduceMod, Nat.reduceBEq, Int.reduceBEq, Int.reduceBNe, Int.reduceEq, Int.reduceLT, Int.reduceLE, Int.reduceToNat, reduceIte, reduceCtorEq, Nat.reduceEqDiff, Nat.reduceAdd, Nat.reduceLT, Nat.reduceLeDiff, Nat.reduceMul, Nat.reduceSub, hI, hasPF, h, Bool.false_and])
theorem hasI_run {id : Nat} {h : Heap} {args : List AV} : (hasIS).run id h args = runP (args2 (tStr) (tStr) ((fun _ _ => True))) (fun x => ((fun s p => .ret (bv (hasPF s p)))) x.1 x.2) h args := rfl
theorem hasI_pan {id : Nat} {h : Heap} {args : List AV} : (hasIS).pan id h args = panP (args2 (tStr) (tStr) ((fun _ _ => True))) (fun x => ((fun s p => .ret (bv (hasPF s p)))) x.1 x.2) h args := rfl
theorem en_hasP (args : Array Value) (w : World) : (callFunc 46 args).run Tryd.prog w = .ok (.enter 46 args) w := by go_simp
def hasPS : Spec Tryd.prog 46 :=
  mk2 _ _ _ Tryd.func46 rfl en_hasP (tStr) (tStr) ((fun _ _ => True)) ((fun s p => .ret (bv (hasPF s p)))) (by rw [Tryd.ntmps46]; decide) (fun s p _ => by
  refine aRun_sound (ctx := [⟨_, hasIS⟩]) 4000 ?_
  rw [Tryd.ntmps46, Tryd.results46]
  simp only [Tryd.f46, Option.getD_some, zipT]
  simp only [go_sem, Nat.reduceOr, Nat.reducePow, Nat.reduceDiv, Nat.reduceMod, Nat.reduceBEq, Int.reduceBEq, Int.reduceBNe, Int.reduceEq, Int.reduceLT, Int.reduceLE, Int.reduceToNat, reduceIte, reduceCtorEq, Nat.reduceEqDiff, Nat.reduceAdd, Nat.reduceLT, Nat.reduceLeDiff, Nat.reduceMul, Nat.reduceSub, hasI_run, hasI_pan])
theorem hasP_run {id : Nat} {h : Heap} {args : List AV} : (hasPS).run id h args = runP (args2 (tStr) (tStr) ((fun _ _ => True))) (fun x => ((fun s p => .ret (bv (hasPF s p)))) x.1 x.2) h args := rfl
theorem hasP_pan {id : Nat} {h : Heap} {args : List AV} : (hasPS).pan id h args = panP (args2 (tStr) (tStr) ((fun _ _ => True))) (fun x => ((fun s p => .ret (bv (hasPF s p)))) x.1 x.2) h args := rfl

theorem hasP2 (s : ByteArray) (c d : Int) (hc : 0 ≤ c ∧ c ≤ 255) (hd : 0 ≤ d ∧ d ≤ 255) : hasPF s (ofBytes [c, d]) = decide (1 < (toBytes s).length ∧ bAt (toBytes s) 0 = c ∧ bAt (toBytes s) 1 = d) := by
  have hb : toBytes (ofBytes [c, d]) = [c, d] := toBytes_ofBytes (by intro z hz; simp at hz; omega)
  rw [Bool.eq_iff_iff, hasPF_iff, hb, decide_eq_true_eq]
  constructor
  · rintro ⟨t, ht⟩
    rw [ht]
    exact ⟨by simp, rfl, rfl⟩
  · rintro ⟨h1, h2, h3⟩
    cases hs : toBytes s with
    | nil => rw [hs] at h1; simp at h1
    | cons x t =>
      cases t with
      | nil => rw [hs] at h1; simp at h1
      | cons y t =>
        rw [hs] at h2 h3
        exact ⟨t, by rw [← h2, ← h3]; rfl⟩

theorem en_sgn (args : Array Value) (w : World) : (callFunc 45 args).run Tryd.prog w = .ok (.enter 45 args) w := by go_simp
def sgnS : Spec Tryd.prog 45 :=
  mk1 _ _ _ Tryd.func45 rfl en_sgn (tStr) ((fun _ => True)) ((fun s => .ret (iv (signL (toBytes s))))) (by rw [Tryd.ntmps45]; decide) (fun s _ => by
  refine aRun_sound (ctx := [⟨_, hasPS⟩, ⟨_, indexOfS⟩]) 4000 ?_
  rw [Tryd.ntmps45, Tryd.results45]
  simp only [Tryd.f45, Option.getD_some, zipT]
  have hl : (toBytes s).length = s.size := toBytes_length s
  have h1 : hasPF s ⟨#[60, 60]⟩ = decide (1 < s.size ∧ bAt (toBytes s) 0 = 60 ∧ bAt (toBytes s) 1 = 60) := by rw [← hl]; exact hasP2 s 60 60 (by omega) (by omega)
  have h2 : hasPF s ⟨#[62, 62]⟩ = decide (1 < s.size ∧ bAt (toBytes s) 0 = 62 ∧ bAt (toBytes s) 1 = 62) := by rw [← hl]; exact hasP2 s 62 62 (by omega) (by omega)
  by_cases c1 : 1 < s.size ∧ bAt (toBytes s) 0 = 60 ∧ bAt (toBytes s) 1 = 60
  · have e : signL (toBytes s) = 2 := by unfold signL; rw [if_pos (by omega)]
    rw [decide_eq_true c1] at h1
    simp only [go_sem, Nat.reduceOr, Nat.reducePow, Nat.reduceDiv, Nat.reduceMod, Nat.reduceBEq, Int.reduceBEq, Int.reduceBNe, Int.reduceEq, Int.reduceLT, Int.reduceLE, Int.reduceToNat, reduceIte, reduceCtorEq, Nat.reduceEqDiff, Nat.reduceAdd, Nat.reduceLT, Nat.reduceLeDiff, Nat.reduceMul, Nat.reduceSub, hasP_run, hasP_pan, h1, e]
  · rw [decide_eq_false c1] at h1
    by_cases c2 : 1 < s.size ∧ bAt (toBytes s) 0 = 62 ∧ bAt (toBytes s) 1 = 62
    · have e : signL (toBytes s) = 2 := by unfold signL; rw [if_pos (by omega)]
      rw [decide_eq_true c2] at h2
      simp only [go_sem, Nat.reduceOr, Nat.reducePow, Nat.reduceDiv, Nat.reduceMod, Nat.reduceBEq, Int.reduceBEq, Int.reduceBNe, Int.reduceEq, Int.reduceLT, Int.reduceLE, Int.reduceToNat, reduceIte, reduceCtorEq, Nat.reduceEqDiff, Nat.reduceAdd, Nat.reduceLT, Nat.reduceLeDiff, Nat.reduceMul, Nat.reduceSub, hasP_run, hasP_pan, h1, h2, e]
    · rw [decide_eq_false c2] at h2
      by_cases h0 : s = emp
      · subst h0
        have e : signL (toBytes emp) = 0 := rfl
        simp only [go_sem, Nat.reduceOr, Nat.reducePow, Nat.reduceDiv, Nat.reduceMod, Nat.reduceBEq, Int.reduceBEq, Int.reduceBNe, Int.reduceEq, Int.reduceLT, Int.reduceLE, Int.reduceToNat, reduceIte, reduceCtorEq, Nat.reduceEqDiff, Nat.reduceAdd, Nat.reduceLT, Nat.reduceLeDiff, Nat.reduceMul, Nat.reduceSub, hasP_run, hasP_pan, h1, h2, e, lit_emp]
      · have hne : ¬ s = emp := h0
        have hp : 0 < s.size := sizeP h0
        have hpI : (0 : Int) < s.size := by omega
        have hr := byteAt_range s 0
        have hi := idx_signs (byteAt s 0) hr
        have hb : byteAt s 0 = bAt (toBytes s) 0 := byteAt_bAt0 s
        by_cases c3 : byteAt s 0 ∈ signs
        · have e : signL (toBytes s) = 1 := by unfold signL; rw [if_neg (by omega), if_pos ⟨by omega, by rw [← hb]; exact c3⟩]
          have hge := hi.2 c3
          unfold signS0 at hge
          simp only [go_sem, Nat.reduceOr, Nat.reducePow, Nat.reduceDiv, Nat.reduceMod, Nat.reduceBEq, Int.reduceBEq, Int.reduceBNe, Int.reduceEq, Int.reduceLT, Int.reduceLE, Int.reduceToNat, reduceIte, reduceCtorEq, Nat.reduceEqDiff, Nat.reduceAdd, Nat.reduceLT, Nat.reduceLeDiff, Nat.reduceMul, Nat.reduceSub, hasP_run, hasP_pan, indexOf_run, indexOf_pan, h1, h2, e, hne, lit_emp, hpI, hge]
        · have e : signL (toBytes s) = 0 := by unfold signL; rw [if_neg (by omega), if_neg (by rw [← hb]; exact fun h => c3 h.2)]
          have hge : ¬ 0 ≤ idxF signS0 (byteAt s 0) := fun h => c3 (hi.1 h)
          unfold signS0 at hge
          simp only [go_sem, Nat.reduceOr, Nat.reducePow, Nat.reduceDiv, Nat.reduceMod, Nat.reduceBEq, Int.reduceBEq, Int.reduceBNe, Int.reduceEq, Int.reduceLT, Int.reduceLE, Int.reduceToNat, reduceIte, reduceCtorEq, Nat.reduceEqDiff, Nat.reduceAdd, Nat.reduceLT, Nat.reduceLeDiff, Nat.reduceMul, Nat.reduceSub, hasP_run, hasP_pan, indexOf_run, indexOf_pan, h1, h2, e, hne, lit_emp, hpI, hge])
theorem sgn_run {id : Nat} {h : Heap} {args : List AV} : (sgnS).run id h args = runP (args1 (tStr) ((fun _ => True))) ((fun s => .ret (iv (signL (toBytes s))))) h args := rfl
theorem sgn_pan {id : Nat} {h : Heap} {args : List AV} : (sgnS).pan id h args = panP (args1 (tStr) ((fun _ => True))) ((fun s => .ret (iv (signL (toBytes s))))) h args := rfl

end Go.Proofs.YtcdbldakjepjiaaDoor
