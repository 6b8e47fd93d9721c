/- The statement of LexBlanks: called with any line, any text behind it and any blanks, all together of bulk at most 1048576, the law returns true, and the arguments read as before. No other condition; its card is tied to the program's text. -/
import Derived.Test.YtcdbldakjepjiaaDoorRows
import Derived.Test.YtcdbldakjepjiaaDoorCards
import Derived.Test.YtcdbldakjepjiaaDoorTie
import Derived.Test.YtcdbldakjepjiaaDoorLD
import Derived.Test.YtcdbldakjepjiaaDoorC3
import Derived.ProofKit
import Derived.OpenShut
import Derived.ShutString
import Derived.ChangeOld
import Derived.SizedLaws
import Derived.Lib.SmallJoins
import Derived.LaidMore
import Derived.Lay
import Derived.LaidOnce
import Derived.SevenTiedAt
import Derived.Deep.DeepHandedRow
import Derived.Stop.LaidErr
import Derived.Deep.Slices
import Derived.Deep.Fields
set_option linter.unusedVariables false
set_option linter.unusedSimpArgs false
namespace Go.Proofs.YtcdbldakjepjiaaDoor
open Go.ChangeShapes Go.WideShapes Go.ChangeAt Go.RowKit Go.Joins

theorem lawOwn : ownKnob Tryd.prog.godebug = none := by kernel_rfl
theorem lawLaid : laidOutB Tryd.prog = true := by kernel_rfl
def lawVars : List (String × DataW Unit) := [("math/bits.deBruijn32tab", Rows.laid_math_bits_deBruijn32tab), ("math/bits.deBruijn64tab", Rows.laid_math_bits_deBruijn64tab), ("internal/strconv.uint64pow10", Rows.laid_internal_strconv_uint64pow10), ("strconv.ErrRange", Rows.laid_strconv_ErrRange), ("strconv.ErrSyntax", Rows.laid_strconv_ErrSyntax)]

/-! ### What the package's variables hold -/
theorem star : "*" ++ "errors.errorString" = "*errors.errorString" := by decide
theorem rowErr (u : TypeId) (h : Tryd.prog.typeName? 3 u = some "*errors.errorString") : u = 163 :=
  typeName_ptr_named (nm := "errors.errorString") (by rw [star]; kernel_rfl) (by kernel_rfl) (by decide) u (by rw [star]; exact h)
theorem gok_of_laid {W : World} (h : laidMetH Tryd.prog lawVars W) : Gok fun b o => W.cell? ⟨b, o, none⟩ := by
  rw [MakeChecks.laidMetH_plain _ _ _ (by kernel_rfl)] at h
  have h3 := h.tail.tail
  constructor
  · obtain ⟨a0, s0, hv0, -, -, -⟩ := laid_sentinel (g := 5) (ti := 84) (tp := 163) (te := 165) (ts := 9) h3.tail (by kernel_rfl) (by kernel_rfl) Tryd.underlying84 rowErr Tryd.underlying163 Tryd.underlying165 rfl rfl Tryd.underlying9 (by kernel_rfl) (by kernel_rfl)
    exact ⟨_, by have h0 := World.var?_cell (P := Tryd.prog) (g := 5) (by kernel_rfl) hv0 0; simpa using h0, .inr ⟨_, _, rfl⟩⟩
  · intro i hi
    obtain ⟨ps, ⟨g, t, cs, fuel, p, q, hg, ht, hv, hd, _, _⟩, _, _⟩ := h3
    obtain rfl := Option.some.inj ((show Tryd.prog.globalNamed "internal/strconv.uint64pow10" = some 0 by kernel_rfl).symm.trans hg)
    obtain rfl := Option.some.inj ((show (Tryd.prog.globals[0]?).map (·.type) = some 143 by kernel_rfl).symm.trans ht)
    obtain ⟨xs, m, _, ex, _, hl, hel⟩ := DataW.trod_array Tryd.underlying143 hd
    have c5 : Tryd.prog.cellsOf 28 = 1 := by kernel_rfl
    have hE := hel i hi
    rw [c5, Nat.mul_one, List.getElem?_eq_getElem (by omega)] at hE
    obtain ⟨z, e1, e2, _⟩ := DataW.trod_int Tryd.underlying28 hE
    have e3 : (xs.map (·.1)) = ((List.range 20).map fun n => (DataW.lit (.int .u64 (10 ^ n)) : DataW Unit)) := by
      rw [← (DataW.agg.inj (Prod.mk.inj ex).1)]
      rfl
    have e4 : (xs.map (·.1))[i]? = ((List.range 20).map fun n => (DataW.lit (.int .u64 (10 ^ n)) : DataW Unit))[i]? := by rw [e3]
    rw [List.getElem?_map, List.getElem?_map, List.getElem?_eq_getElem (by omega : i < xs.length), List.getElem?_range hi, e2] at e4
    have hz : z = 10 ^ i := by
      simp only [Option.map_some, Option.some.injEq, DataW.lit.injEq, Lit.int.injEq, true_and] at e4
      exact e4
    show W.cell? ⟨0, i, none⟩ = _
    rw [World.var?_cell hg hv i, ← hz]
    have : cs.toList[i]? = some (.int .u64 z) := by
      have h0 : ((cs.toList.drop i).take 1)[0]? = some (.int .u64 z) := by rw [e1]; rfl
      simpa using h0
    simpa using this

/-! ### A slice of bytes among the arguments -/
theorem spot_none {w : World} {a : Addr} {v : Value} (h : w.cell? a = some v) : a = ⟨a.block, a.off, none⟩ ∧ a.block < w.heap.size := by
  unfold World.cell? at h
  split at h
  · rename_i c t fr hb
    refine ⟨?_, (Array.getElem?_eq_some_iff.1 hb).1⟩
    split at h
    · cases h
    · rename_i hs
      obtain ⟨b, o, s⟩ := a
      cases s with
      | none => rfl
      | some s => exact absurd rfl hs
  · cases h

section
variable {H : Type} {enc : TypeId × Value → H} {w : World} {held : Bool}
set_option maxRecDepth 100000 in
theorem open_bytes {v : Value} {d : DataW H} {p : List MemPlace} {r : Reach} {b0 : Nat} (hv : Value.okWide Tryd.prog w r b0 22 v) (h : DataW.Trod enc Tryd.prog w 0 (fun _ => true) held 22 v d p) :
    ∃ (A : Option Addr) (cap : Nat) (l : List Int), v = .slice A l.length cap ∧ l.length ≤ cap ∧ (∀ z ∈ l, 0 ≤ z ∧ z ≤ 255) ∧
      (l ≠ [] → ∃ b off, A = some ⟨b, off, none⟩ ∧ ∀ (i : Nat) (z : Int), l[i]? = some z → w.cell? ⟨b, off + i, none⟩ = some (.int .u8 z)) := by
  obtain ⟨a0, l0, c0, rfl⟩ := okWide_slice Tryd.underlying22 hv
  obtain ⟨m, hm⟩ := h
  rcases Go.Deep.open_slice Tryd.underlying22 hm with ⟨e, hd⟩ | ⟨a, len, cap, mm, n, D, Pl, e, -, hl, hcm, hmm, hx, hi⟩
  · injection e with e
    injection e with e1 e2 e3
    subst e1 e2 e3
    exact ⟨none, 0, [], rfl, Nat.le_refl _, by simp, fun h => (h rfl).elim⟩
  · injection e with e
    injection e with e1 e2 e3
    subst e1 e2 e3
    rw [if_pos rfl] at hmm
    subst hmm
    rw [show Tryd.prog.cellsOf 5 = 1 by kernel_rfl] at hi
    have key : ∀ i, ∃ z : Int, i < mm → w.cell? (a.add i) = some (.int .u8 z) ∧ 0 ≤ z ∧ z ≤ 255 := by
      intro i
      by_cases him : i < mm
      · obtain ⟨cs, hc, ht⟩ := hi i him
        obtain ⟨z, rfl, _, hwf⟩ := DataW.trod_int Tryd.underlying5 ht
        obtain ⟨-, -, hcs⟩ := World.cells?_some hc
        refine ⟨z, fun _ => ⟨?_, ?_⟩⟩
        · have := hcs 0 (by omega)
          rw [Nat.mul_one] at this
          exact this
        · have : (Lit.int IntKind.u8 z).wf = true := hwf
          simp [Lit.wf] at this
          have e1 : IntKind.u8.min = 0 := rfl
          have e2 : IntKind.u8.max = 255 := rfl
          omega
      · exact ⟨0, fun h => absurd h him⟩
    obtain ⟨T, hT⟩ := Classical.axiomOfChoice key
    have hlen : ((List.range l0).map T).length = l0 := by simp
    have hmem : ∀ t ∈ (List.range l0).map T, ∃ i, i < l0 ∧ T i = t := fun t ht => by simpa using ht
    refine ⟨some a, mm, (List.range l0).map T, by rw [hlen], by rw [hlen]; exact hl, fun t ht => ?_, fun hne => ?_⟩
    · obtain ⟨i, hi', rfl⟩ := hmem t ht
      exact (hT i (by omega)).2
    · have hl0 : 0 < l0 := by
        rcases Nat.eq_zero_or_pos l0 with h | h
        · subst h; exact (hne rfl).elim
        · exact h
      have h0 := (hT 0 (by omega)).1
      obtain ⟨ha, hb⟩ := spot_none h0
      rw [show a.add 0 = a from rfl] at ha hb
      refine ⟨a.block, a.off, by rw [← ha], fun i z hz => ?_⟩
      have hil : i < l0 := by
        have := (List.getElem?_eq_some_iff.1 hz).1
        rwa [hlen] at this
      have hti : z = T i := by
        rw [List.getElem?_map, List.getElem?_range hil] at hz
        injection hz with hz
        exact hz.symm
      subst hti
      have c := (hT i (by omega)).1
      rw [← c]
      congr 1
      rw [ha]
      unfold Addr.add
      split
      · rename_i h
        simp only
        congr 1
        omega
      · simp only
end

theorem blanks_walk (line behind : ByteArray) (A : Option Addr) (cap : Nat) (l : List Int) (w : World) (hG : Gok fun b o => w.cell? ⟨b, o, none⟩) (hb : behind.size ≤ 1099511627776) (hc : l.length ≤ cap) (hr : ∀ z ∈ l, 0 ≤ z ∧ z ≤ 255)
    (hT : l ≠ [] → ∃ b off, A = some ⟨b, off, none⟩ ∧ ∀ (i : Nat) (z : Int), l[i]? = some z → w.cell? ⟨b, off + i, none⟩ = some (.int .u8 z)) :
    Calls Tryd.prog 3 #[.string line, .string behind, .slice A l.length cap] w fun e w' => e = .returned (.bool true) ∧ Below w.heap.size w w' := by
  have e : l.map (rInt .u8).enc = (l.map fun z => [Value.int .u8 z]).map fun e => e.map .v := by
    rw [List.map_map]; exact List.map_congr_left fun t _ => rfl
  have hA : AsRep ρ0 (al0 fun b o => w.cell? ⟨b, o, none⟩) [tStr.enc line, tStr.enc behind, tBytes.enc l] [.string line, .string behind, .slice A l.length cap] := by
    refine ⟨rfl, rfl, ?_, trivial⟩
    show DRep _ (.sd 1 (l.map (rInt .u8).enc)) _
    simp only [DRep]
    refine ⟨A, cap, by rw [List.length_map], by rw [List.length_map]; exact hc, fun hne => ?_⟩
    obtain ⟨b, off, rfl, hcl⟩ := hT (fun h => by subst h; exact hne rfl)
    refine ⟨b, off, rfl, ?_⟩
    rw [e]
    refine dssAt_of (fun x hx => ?_) fun i j x u hx hu => ?_
    · obtain ⟨t, _, rfl⟩ := List.mem_map.1 hx; rfl
    · rw [List.getElem?_map, Option.map_eq_some_iff] at hx
      obtain ⟨z, hz, rfl⟩ := hx
      match j, hu with
      | 0, hu =>
        injection hu with hu
        subst hu
        have := hcl i z hz
        exact ⟨by simpa using this, rfl⟩
  exact law_calls Tryd.func3 rfl hG hA (by rw [Tryd.ntmps3]; show 3 ≤ 124; decide) (blanks_sw line behind l hr hb)

theorem blanksWitness (os : Os) (H : Type) (enc : TypeId × Value → H) :
    ∃ (w : World) (tape : Tape) (i : Input), w.os = os ∧ (w.forCall tape i).Shaped Tryd.prog ∧ i.vars = [] ∧ Input.okWide Tryd.prog (w.forCall tape i) .any w.heap.size 3 i ∧
      (Rows.OpenSpec.upto Rows.lexBlanksSpec).preRow enc Tryd.prog Tryd.f3 Rows.lexBlanksUptoRow.domain false Rows.lexBlanksUptoRow.laid (w.forCall tape i).memory i.args ∧ ({} : Assume).holds Tryd.prog (lone (Frame.enter Tryd.prog 3 i.args .normal) [] (w.forCall tape i)) := by
  obtain ⟨places, hx⟩ : ∃ places, DataW.whole enc Tryd.prog ((World.laidAll Tryd.prog os lawVars).forCall (fun _ _ => 0) ⟨#[], #[.string ⟨#[]⟩, .string ⟨#[]⟩, .slice none 0 0], []⟩).memory Tryd.f3.params.toList Rows.lexBlanksSpec.vars false #[Value.string ⟨#[]⟩, .string ⟨#[]⟩, .slice none 0 0].toList 8 = some ([.lit (.string []), .lit (.string []), .nil], [], places) := ⟨[], by kernel_rfl⟩
  have hok : Input.okWideB Tryd.prog ((World.laidAll Tryd.prog os lawVars).forCall (fun _ _ => 0) ⟨#[], #[.string ⟨#[]⟩, .string ⟨#[]⟩, .slice none 0 0], []⟩) 3 ⟨#[], #[.string ⟨#[]⟩, .string ⟨#[]⟩, .slice none 0 0], []⟩ = true := by kernel_rfl
  exact ⟨World.laidAll Tryd.prog os lawVars, fun _ _ => 0, ⟨#[], #[.string ⟨#[]⟩, .string ⟨#[]⟩, .slice none 0 0], []⟩, World.laidAll_os _ _ _, World.shaped_of_ZipB (by kernel_rfl) (by kernel_rfl), (Input.okWide_of_okWideB (base := 0) hok).1, (Input.okWide_of_okWideB hok).2,
    OpenSpec.preRow_of_cond 8 hx (by kernel_rfl) (fun k hk => by cases hk; kernel_rfl) (by kernel_rfl) (by
      show laidMetH Tryd.prog lawVars _
      rw [MakeChecks.laidMetH_plain _ _ _ (by kernel_rfl)]; exact laidMet_laidAll _ (by kernel_rfl) (by kernel_rfl)), by
    simp only [Assume.holds]
    exact ⟨by simp, by simp, fun _ => Modest.zero, by simp, by simp⟩⟩

set_option maxRecDepth 100000 in
theorem blanksLifted (os : Os) (started : os.Started) (H : Type) (enc : TypeId × Value → H) (F : Stop.Interp) :
    ReturnsInHanded {} Tryd.checked os 3 .any ((Rows.OpenSpec.upto Rows.lexBlanksSpec).preRow enc Tryd.prog Tryd.f3 Rows.lexBlanksUptoRow.domain false Rows.lexBlanksUptoRow.laid) (((Rows.OpenSpec.upto Rows.lexBlanksSpec).at F).post enc Tryd.prog Tryd.f3 false true false false) := by
  refine returnsInHanded_of_row (C := Tryd.checked) (s := Rows.OpenSpec.upto Rows.lexBlanksSpec) lawOwn started (by kernel_rfl) Tryd.func3 (blanksWitness os H enc) ?_
  intro W base args ds gs before hval0 hW _ hcond _ hlaid _ _
  have hval : ∀ (j : Nat) t v, Tryd.f3.params[j]? = some t → args[j]? = some v → Value.okWide Tryd.prog W .any base t v := hval0
  have hW' := hW
  obtain ⟨p, q, hA0, hV, rfl, hfz, hnd⟩ := hW
  have hA : DataW.TrodAll enc Tryd.prog W 0 (fun _ => true) true Tryd.f3.params.toList args.toList ds p := hA0
  rw [Tryd.params3] at hA hval
  obtain ⟨v0, vs0, d0, ds0, p0, q0, hargs, rfl, rfl, h0, r0⟩ := trodAll_cons hA
  obtain ⟨v1, vs1, d1, ds1, p1, q1, rfl, rfl, rfl, h1, r1⟩ := trodAll_cons r0
  obtain ⟨v2, vs2, d2, ds2, p2, q2, rfl, rfl, rfl, h2, r2⟩ := trodAll_cons r1
  obtain ⟨rfl, rfl, rfl⟩ := trodAll_nil r2
  obtain rfl : args = #[v0, v1, v2] := by cases args; simp_all
  obtain ⟨rfl, rfl⟩ := trodVars_none hV
  have k0 := h0
  have lt0 : ∀ x ∈ p0, x.block < W.heap.size := by obtain ⟨m, hm⟩ := k0; exact DataW.trod_lt m _ _ _ hm
  have k1 := h1
  have lt1 : ∀ x ∈ p1, x.block < W.heap.size := by obtain ⟨m, hm⟩ := k1; exact DataW.trod_lt m _ _ _ hm
  have k2 := h2
  have lt2 : ∀ x ∈ p2, x.block < W.heap.size := by obtain ⟨m, hm⟩ := k2; exact DataW.trod_lt m _ _ _ hm
  obtain ⟨s0, rfl, rfl, _, ws0⟩ := Go.ChangeMaps.open_string Tryd.underlying9 (hval 0 9 v0 rfl rfl) h0
  obtain ⟨s1, rfl, rfl, _, ws1⟩ := Go.ChangeMaps.open_string Tryd.underlying9 (hval 1 9 v1 rfl rfl) h1
  obtain ⟨A, cap, l, rfl, hc, hr, hT⟩ := open_bytes (hval 2 22 v2 rfl rfl) h2
  clear hA0 hval0
  have hs : s1.size ≤ 1099511627776 := bulk_text (hcond _ rfl) (by simp)
  refine (blanks_walk s0 s1 A cap l W (gok_of_laid hlaid) hs hc hr hT).mono fun e W' ⟨he, bel⟩ => ?_
  subst he
  exact ⟨_, rfl, _, _, _, [], _, [], hW', trodAll_mk1 (shut_bool Tryd.underlying4 _), (trodAll_cons_mk (Below.trod lawLaid (by kernel_rfl) (of_decide_eq_true (by kernel_rfl)) k0 bel lt0) (trodAll_cons_mk (Below.trod lawLaid (by kernel_rfl) (of_decide_eq_true (by kernel_rfl)) k1 bel lt1) (trodAll_cons_mk (Below.trod lawLaid (by kernel_rfl) (of_decide_eq_true (by kernel_rfl)) k2 bel lt2) trodAll_mk0))), rfl, bel.frame _, fun h => by cases h⟩

theorem blanks_row : Rows.LexBlanksUptoSaid :=
  OpenClaim.holds_of_cond 3 Tryd.f3 rfl rfl rfl rfl rfl rfl rfl ⟨rfl, rfl, rfl, rfl, rfl⟩ rfl rfl rfl rfl rfl (by kernel_rfl) Tryd.func3 (by kernel_rfl)
    (of_decide_eq_true (by kernel_rfl)) (by unfold Func.isWrapper; first | (rw [if_pos (by decide +kernel)]; kernel_rfl) | (rw [if_neg (by decide +kernel)]; exact ⟨rfl, rfl⟩))
    (fun os started H enc _ F => by rw [OpenClaim.pre_eq_preRow]; exact blanksLifted os started H enc F)

theorem blanks_holds : Rows.LexBlanksUptoCardSaid :=
  Claim7.holds_tied_plain_at .later [] _ _ _ _
    blanks_row (fun _ h => by cases h) (by kernel_rfl) (fun _ h => by cases h) lexBlanksUpto_row_tie rfl ⟨rfl, rfl⟩ (by kernel_rfl) rfl
    (fun f fn hf hfn => by
      obtain rfl : f = 3 := Option.some.inj ((show Tryd.prog.funcNamed "cooper/cooperlaw08.LexBlanks" = some 3 by kernel_rfl).symm.trans hf) |>.symm
      obtain rfl : fn = Tryd.f3 := (Option.some.inj (Tryd.func3.symm.trans hfn)).symm
      exact ⟨by kernel_rfl, fun j t ht => by
        rw [Tryd.params3] at ht
        have hm : t ∈ [9, 9, 22] := by simpa using Array.mem_of_getElem? ht
        have hall : ([9, 9, 22].all fun u => !Tryd.prog.wantsStandIn u) = true := by kernel_rfl
        exact (show Tryd.prog.wantsStandIn t = false by simpa using List.all_eq_true.1 hall t hm)⟩)
    (by kernel_rfl)
#print axioms blanks_holds

end Go.Proofs.YtcdbldakjepjiaaDoor
