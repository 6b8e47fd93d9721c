/- The value logic, computed: what is computed of one operation is what the value logic says. No program in sight. -/
import Derived.Test.YtpdjaabjfhjppaaGreatDoorZ1
set_option linter.unusedVariables false
set_option linter.unusedSimpArgs false
namespace Go.Proofs.YtpdjaabjfhjppaaGreatDoor
open Go.RowKit
set_option maxRecDepth 100000

section
variable {P : Program} {t : TypeId} {x y : AV} {h : Heap} {id : Nat} {R : Res}
theorem aLoad_ob (hs : aLoad P t x h = some R) : R.ob := by
  unfold aLoad at hs
  repeat' split at hs
  all_goals first | (cases hs; done) | (injection hs with hs; subst hs; trivial)
theorem aStore_ob (hs : aStore P t x y h = some R) : R.ob := by
  unfold aStore at hs
  repeat' split at hs
  all_goals first | (cases hs; done) | (injection hs with hs; subst hs; trivial)
theorem aBuild_ob {ps : List (Nat × AV)} (hs : aBuild P t ps = some R) : R.ob := by
  unfold aBuild at hs
  repeat' split at hs
  all_goals first | (cases hs; done) | (injection hs with hs; subst hs; trivial)
theorem aBuildSlice_ob {n : Nat} {ps : List (Nat × AV)} (hs : aBuildSlice P t n ps id = some R) : R.ob := by
  unfold aBuildSlice at hs
  repeat' split at hs
  all_goals first | (cases hs; done) | (injection hs with hs; subst hs; trivial)
theorem aField_ob {f : Nat} (hs : aField P t x f = some R) : R.ob := by
  unfold aField at hs
  repeat' split at hs
  all_goals first | (cases hs; done) | (injection hs with hs; subst hs; trivial)
theorem aNil_ob {ob : Prop} {b : Bool} (hs : aNil P t x y = some (ob, b)) (hn : nilOk x = true) : ob := by
  unfold aNil at hs
  repeat' split at hs
  all_goals first
    | (cases hs; done)
    | (injection hs with hs
       injection hs with h1 h2
       subst h1
       first
       | trivial
       | (simp only [nilOk, decide_eq_true_eq] at hn; exact hn)
       | (simp only [nilOk, Bool.not_eq_true'] at hn
          intro he
          rw [he] at hn
          cases hn))
end

section
variable {P : Program} {ctx : Ctx P} {call : Cl} {id : Nat} {ev : Operand → AV} {h : Heap}
theorem opNil_val {op : BinOp} {t : TypeId} {x y r : AV} {E : Heap} (hs : opNil P op t x y = .val r E) : ∃ ob b q, aNil P t x y = some (ob, b) ∧ ob ∧ aNilOp op b = some q ∧ r = .s (.l (.v (.bool q))) ∧ E = [] := by
  unfold opNil at hs
  split at hs
  case h_2 => cases hs
  rename_i q hq
  obtain ⟨ob, b⟩ := q
  cases hn : nilOk x
  · rw [hn] at hs; cases hs
  · rw [hn] at hs
    obtain ⟨v, h1, h2, h3⟩ := okV_val hs
    rw [Option.map_eq_some_iff] at h1
    obtain ⟨q, h1, rfl⟩ := h1
    exact ⟨ob, b, q, hq, aNil_ob hq hn, h1, h2, h3⟩
theorem opNil_pan {op : BinOp} {t : TypeId} {x y : AV} {v : Value} {E : Heap} (hs : opNil P op t x y = .pan v E) : False := by
  unfold opNil at hs
  split at hs
  case h_2 => cases hs
  cases hn : nilOk x
  · rw [hn] at hs; cases hs
  · rw [hn] at hs; exact okV_pan hs
theorem opBin_val {op : BinOp} {t u : TypeId} {xo yo : Operand} {b : TypeId} {r : AV} {E : Heap} (hs : opBin P op t yo (ev xo) (ev yo) = .val r E) : ∃ R, aOp P ctx id (.binOp op t xo yo u) ev h = some R ∧ R.ob ∧ R.r = r ∧ R.E = E := by
  unfold opBin at hs
  split at hs
  · rename_i a ha
    unfold opBin2 at hs
    split at hs
    · rename_i b hb
      obtain ⟨ob, v, h1, h2, rfl, rfl⟩ := binV_val (xo := xo) hs
      simp only [aOp, ha, hb, h1]
      exact ⟨_, rfl, h2, rfl, rfl⟩
    · rename_i hb
      obtain ⟨ob, b, q, h1, h2, h3, rfl, rfl⟩ := opNil_val hs
      simp only [aOp, ha, hb, h1, h3]
      exact ⟨_, rfl, h2, rfl, rfl⟩
  · rename_i ha
    obtain ⟨ob, b, q, h1, h2, h3, rfl, rfl⟩ := opNil_val hs
    simp only [aOp, ha, h1, h3]
    exact ⟨_, rfl, h2, rfl, rfl⟩
theorem opBin_pan {op : BinOp} {t : TypeId} {yo : Operand} {x y : AV} {v : Value} {E : Heap} (hs : opBin P op t yo x y = .pan v E) : False := by
  unfold opBin at hs
  split at hs
  · unfold opBin2 at hs
    split at hs
    · exact binV_pan hs
    · exact opNil_pan hs
  · exact opNil_pan hs

theorem opCall_val (hc : ClOk ctx call) {c : Call} {r : AV} {E : Heap} (hs : opCall P call c ev h id = .val r E) : ∃ R, aOp P ctx id (.call c) ev h = some R ∧ R.ob ∧ R.r = r ∧ R.E = E := by
  unfold opCall at hs
  split at hs
  · rename_i b hb
    unfold opBi at hs
    split at hs
    · rename_i x hx
      unfold opT1 at hs
      split at hs
      case h_2 => cases hs
      rename_i t ht
      unfold opB1 at hs
      split at hs
      case h_2 => cases hs
      obtain ⟨v, h1, rfl, rfl⟩ := okV_val hs
      simp only [aOp, hb, hx, ht, h1]
      exact ⟨_, rfl, trivial, rfl, rfl⟩
    · rename_i x y hx
      unfold opT2 at hs
      split at hs
      case h_2 => cases hs
      rename_i t1 t2 ht
      unfold opB2 at hs
      split at hs
      · obtain ⟨R, h1, h2, h3, h4⟩ := cAppend_ok (okQ_val hs)
        simp only [aOp, hb, hx, ht, h1]
        exact ⟨_, rfl, h2, h3, h4⟩
      · unfold opMin at hs
        split at hs
        case h_2 => cases hs
        rename_i a ha
        split at hs
        case h_2 => cases hs
        rename_i d hd
        obtain ⟨v, h1, rfl, rfl⟩ := okV_val hs
        simp only [aOp, hb, hx, ht, ha, hd, h1]
        exact ⟨_, rfl, trivial, rfl, rfl⟩
      · unfold opMin at hs
        split at hs
        case h_2 => cases hs
        rename_i a ha
        split at hs
        case h_2 => cases hs
        rename_i d hd
        obtain ⟨v, h1, rfl, rfl⟩ := okV_val hs
        simp only [aOp, hb, hx, ht, ha, hd, h1]
        exact ⟨_, rfl, trivial, rfl, rfl⟩
      · cases hs
    · cases hs
  · rename_i f hf
    unfold opVal at hs
    split at hs
    case h_2 => cases hs
    rename_i q hq
    obtain ⟨g, first, cap⟩ := q
    obtain ⟨run, R, h1, h2, h3, h4, h5⟩ := hc.val _ _ _ _ _ _ hs
    simp only [aOp, hf, hq, h1]
    exact ⟨R, h2, h3, h4, h5⟩
  · cases hs
theorem opCall_pan (hc : ClOk ctx call) {c : Call} {v : Value} {E : Heap} (hs : opCall P call c ev h id = .pan v E) : ∃ ob, aPan P ctx id (.call c) ev h = some (ob, v, E) ∧ ob := by
  unfold opCall at hs
  split at hs
  · rename_i b hb
    exfalso
    unfold opBi at hs
    split at hs
    · unfold opT1 at hs
      split at hs
      case h_2 => cases hs
      unfold opB1 at hs
      split at hs
      case h_2 => cases hs
      exact okV_pan hs
    · unfold opT2 at hs
      split at hs
      case h_2 => cases hs
      unfold opB2 opMin at hs
      split at hs
      · exact okQ_pan hs
      · repeat' split at hs
        all_goals first | (cases hs; done) | exact okV_pan hs
      · repeat' split at hs
        all_goals first | (cases hs; done) | exact okV_pan hs
      · cases hs
    · cases hs
  · rename_i f hf
    unfold opVal at hs
    split at hs
    case h_2 => cases hs
    rename_i q hq
    obtain ⟨g, first, cap⟩ := q
    obtain ⟨pan, ob, h1, h2, h3⟩ := hc.pan _ _ _ _ _ _ hs
    simp only [aPan, hf, hq, h1]
    exact ⟨ob, h2, h3⟩
  · cases hs

theorem cOp_val (hc : ClOk ctx call) {o : Op} {r : AV} {E : Heap} (hs : cOp P call id o ev h = .val r E) : ∃ R, aOp P ctx id o ev h = some R ∧ R.ob ∧ R.r = r ∧ R.E = E := by
  cases o with
  | move x => injection hs with h1 h2; subst h1 h2; exact ⟨_, rfl, trivial, rfl, rfl⟩
  | assign x => injection hs with h1 h2; subst h1 h2; exact ⟨_, rfl, trivial, rfl, rfl⟩
  | pick c a b =>
    simp only [cOp] at hs
    unfold opPick at hs
    split at hs
    case h_2 => cases hs
    rename_i q hq
    injection hs with h1 h2
    subst h1 h2
    simp only [aOp, hq]
    cases q
    · exact ⟨_, rfl, trivial, rfl, rfl⟩
    · exact ⟨_, rfl, trivial, rfl, rfl⟩
  | load t x => obtain ⟨R, h1, h2, h3⟩ := okR_val hs; exact ⟨R, h1, aLoad_ob h1, h2, h3⟩
  | store t x y => obtain ⟨R, h1, h2, h3⟩ := okR_val hs; exact ⟨R, h1, aStore_ob h1, h2, h3⟩
  | alloc t =>
    simp only [cOp] at hs
    unfold opAlloc at hs
    split at hs
    case h_2 => cases hs
    rename_i zs hz
    injection hs with h1 h2
    subst h1 h2
    simp only [aOp, hz]
    exact ⟨_, rfl, trivial, rfl, rfl⟩
  | box t x =>
    simp only [cOp] at hs
    unfold opBox at hs
    split at hs
    case h_2 => cases hs
    rename_i xs hx
    injection hs with h1 h2
    subst h1 h2
    simp only [aOp, hx]
    exact ⟨_, rfl, trivial, rfl, rfl⟩
  | build t ps => obtain ⟨R, h1, h2, h3⟩ := okR_val hs; exact ⟨R, h1, aBuild_ob h1, h2, h3⟩
  | buildSlice t n ps => obtain ⟨R, h1, h2, h3⟩ := okR_val hs; exact ⟨R, h1, aBuildSlice_ob h1, h2, h3⟩
  | makeSlice t x y => obtain ⟨R, h1, h2, h3, h4⟩ := cMake_ok (okQ_val hs); exact ⟨R, h1, h2, h3, h4⟩
  | fieldAddr t x f => obtain ⟨R, h1, h2, h3⟩ := okR_val hs; exact ⟨R, h1, aField_ob h1, h2, h3⟩
  | indexAddr t x ix =>
    simp only [cOp] at hs
    unfold opIdxA at hs
    cases hf : fitsAt P t (ev x) h
    · rw [hf] at hs; cases hs
    · rw [hf] at hs
      obtain ⟨R, h1, h2, h3, h4⟩ := cIndexAt_ok (okQ_val hs)
      simp only [aOp, hf, if_true]
      exact ⟨R, h1, h2, h3, h4⟩
  | index t x ix =>
    obtain ⟨h0, rfl⟩ := okI_val hs
    obtain ⟨ob, h1, h2⟩ := cIndex_ok h0
    simp only [aOp, h1]
    exact ⟨_, rfl, h2, rfl, rfl⟩
  | slice t x lo hi mx => obtain ⟨R, h1, h2, h3, h4⟩ := cSlice_ok (okQ_val hs); exact ⟨R, h1, h2, h3, h4⟩
  | binOp op t x y u => exact opBin_val (b := t) hs
  | makeFunc g f c =>
    simp only [cOp] at hs
    unfold opMk at hs
    split at hs
    case h_2 => cases hs
    split at hs
    case h_2 => cases hs
    rename_i fs hf
    unfold opMk2 at hs
    split at hs
    case h_2 => cases hs
    rename_i cs hcs
    injection hs with h1 h2
    subst h1 h2
    simp only [aOp, hf, hcs]
    exact ⟨_, rfl, trivial, rfl, rfl⟩
  | makeInterface t x =>
    simp only [cOp] at hs
    unfold opIfc at hs
    cases hi : isConc P t
    · rw [hi] at hs; cases hs
    · rw [hi] at hs
      simp only [cond_true] at hs
      split at hs
      · rename_i v hv
        injection hs with h1 h2
        subst h1 h2
        simp only [aOp, hi, hv, if_true]
        exact ⟨_, rfl, trivial, rfl, rfl⟩
      · rename_i hv
        unfold opIfc1 at hs
        split at hs
        case h_2 => cases hs
        rename_i d hd
        injection hs with h1 h2
        subst h1 h2
        simp only [aOp, hi, hv, hd, if_true]
        exact ⟨_, rfl, trivial, rfl, rfl⟩
  | unOp op t x =>
    simp only [cOp] at hs
    unfold opUn at hs
    split at hs
    case h_2 => cases hs
    rename_i a ha
    obtain ⟨v, h1, rfl, rfl⟩ := okV_val hs
    simp only [aOp, ha, h1]
    exact ⟨_, rfl, trivial, rfl, rfl⟩
  | convert s d x =>
    simp only [cOp] at hs
    unfold opConv at hs
    split at hs
    · rename_i a ha
      unfold opConv2 at hs
      split at hs
      · rename_i v hv
        injection hs with h1 h2
        subst h1 h2
        simp only [aOp, ha, hv]
        exact ⟨_, rfl, trivial, rfl, rfl⟩
      · rename_i hv
        obtain ⟨R, h1, h2, h3, h4⟩ := cConvS_ok (okQ_val hs)
        simp only [aOp, ha, hv]
        exact ⟨R, h1, h2, h3, h4⟩
    · rename_i ha
      obtain ⟨R, h1, h2, h3, h4⟩ := cConvS_ok (okQ_val hs)
      simp only [aOp, ha]
      exact ⟨R, h1, h2, h3, h4⟩
  | nilCheck x =>
    simp only [cOp] at hs
    unfold opNilC at hs
    split at hs
    case h_2 => cases hs
    rename_i b i j hx
    injection hs with h1 h2
    subst h1 h2
    simp only [aOp, hx]
    exact ⟨_, rfl, trivial, rfl, rfl⟩
  | extract x n =>
    simp only [cOp] at hs
    unfold opExt at hs
    split at hs
    case h_2 => cases hs
    rename_i xs hx
    obtain ⟨h1, rfl⟩ := okA_val hs
    rw [Option.map_eq_some_iff] at h1
    obtain ⟨a, h1, rfl⟩ := h1
    simp only [aOp, hx, h1]
    exact ⟨_, rfl, trivial, rfl, rfl⟩
  | field t x f =>
    obtain ⟨h1, rfl⟩ := okA_val hs
    simp only [aOp, h1]
    exact ⟨_, rfl, trivial, rfl, rfl⟩
  | typeAssert x u t ok =>
    obtain ⟨h1, rfl⟩ := okA_val hs
    simp only [aOp, h1]
    exact ⟨_, rfl, trivial, rfl, rfl⟩
  | call c => exact opCall_val hc hs
  | panic x =>
    simp only [cOp] at hs
    unfold opPan at hs
    split at hs <;> cases hs
  | _ => cases hs
theorem cOp_pan (hc : ClOk ctx call) {o : Op} {v : Value} {E : Heap} (hs : cOp P call id o ev h = .pan v E) : ∃ ob, aPan P ctx id o ev h = some (ob, v, E) ∧ ob := by
  cases o with
  | call c => exact opCall_pan hc hs
  | panic x =>
    simp only [cOp] at hs
    unfold opPan at hs
    split at hs
    case h_2 => cases hs
    rename_i t z hx
    injection hs with h1 h2
    subst h1 h2
    simp only [aPan, hx]
    exact ⟨_, rfl, trivial⟩
  | load t x => exact (okR_pan hs).elim
  | store t x y => exact (okR_pan hs).elim
  | build t ps => exact (okR_pan hs).elim
  | buildSlice t n ps => exact (okR_pan hs).elim
  | makeSlice t x y => exact (okQ_pan hs).elim
  | fieldAddr t x f => exact (okR_pan hs).elim
  | index t x ix => exact (okI_pan hs).elim
  | slice t x lo hi mx => exact (okQ_pan hs).elim
  | binOp op t x y u => exact (opBin_pan hs).elim
  | field t x f => exact (okA_pan hs).elim
  | typeAssert x u t ok => exact (okA_pan hs).elim
  | pick c a b => exfalso; simp only [cOp] at hs; unfold opPick at hs; split at hs <;> cases hs
  | alloc t => exfalso; simp only [cOp] at hs; unfold opAlloc at hs; split at hs <;> first | exact okR_pan hs | cases hs
  | box t x => exfalso; simp only [cOp] at hs; unfold opBox at hs; split at hs <;> first | exact okR_pan hs | cases hs
  | indexAddr t x ix => exfalso; simp only [cOp] at hs; unfold opIdxA at hs; cases hf : fitsAt P t (ev x) h <;> rw [hf] at hs <;> first | exact okQ_pan hs | cases hs
  | makeFunc g f c => exfalso; simp only [cOp] at hs; unfold opMk opMk2 at hs; repeat' split at hs
                      all_goals cases hs
  | makeInterface t x => exfalso; simp only [cOp] at hs; unfold opIfc opIfc1 at hs; cases hi : isConc P t <;> rw [hi] at hs <;> simp only [cond_true, cond_false] at hs
                         · cases hs
                         · repeat' split at hs
                           all_goals cases hs
  | unOp op t x => exfalso; simp only [cOp] at hs; unfold opUn at hs; split at hs <;> first | exact okV_pan hs | cases hs
  | convert s d x => exfalso; simp only [cOp] at hs; unfold opConv opConv2 at hs; repeat' split at hs
                     all_goals first | exact okQ_pan hs | cases hs
  | nilCheck x => exfalso; simp only [cOp] at hs; unfold opNilC at hs; split at hs <;> cases hs
  | extract x n => exfalso; simp only [cOp] at hs; unfold opExt at hs; split at hs <;> first | exact okA_pan hs | cases hs
  | _ => cases hs
end
end Go.Proofs.YtpdjaabjfhjppaaGreatDoor
