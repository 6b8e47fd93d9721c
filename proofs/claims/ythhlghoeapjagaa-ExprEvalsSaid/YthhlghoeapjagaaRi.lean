/- Contract of Eval of package cooperref09. -/
import Derived.Test.YthhlghoeapjagaaRh
import Derived.Test.YthhlghoeapjagaaRf
import Derived.Test.YthhlghoeapjagaaEf
import Derived.Deep.CutBlock
import Derived.Deep.RegionWith
import Derived.Deep.AppendLies
set_option linter.unusedVariables false
set_option linter.unusedSimpArgs false
namespace Go.Proofs.Ythhlghoeapjagaa
open Go.RowKit
attribute [local go_sem ↓] Go.wp_at_zero Go.wp_at_succ

theorem len_two (us : List Val) (y z : Val) : (us ++ [y, z]).length = us.length + 2 := by simp

theorem takes_rtakes {t : Term} (h : termB t = true) : rtakesF t.kind = takesF t.kind := by
  unfold termB at h
  have e : t.kind = 1 ∨ t.kind = 2 ∨ 0 < takesF t.kind := by
    split at h
    · exact .inl (by assumption)
    · split at h
      · exact .inr (.inl (by assumption))
      · simp at h; exact .inr (.inr h.1.1)
  clear h
  unfold takesF at e
  unfold rtakesF takesF
  (repeat' split at e) <;> (repeat' split) <;> first | omega | rfl

set_option maxRecDepth 100000 in
set_option maxHeartbeats 4000000 in
theorem reval_any (A : Option Addr) (cap : Nat) (ts : List Term) (w : World) (hT : Terms w w.heap.size A ts) (hl : ts.length ≤ 1099511627776) (hsz : ∀ t ∈ ts, t.sym.size ≤ maxLen) :
    Calls Try.prog 18 #[.slice A ts.length cap] w (EvalPost ts w) := by
  have HT := Lib.hid hT
  have HCC := Lib.hid (fun (W : World) (h : Terms W W.heap.size A ts) => rcheck_any A cap ts W h (by unfold maxLen; omega) hsz)
  clear hT hsz
  by_cases hc : checkF ts = 0
  · go_enter Try.func18, Try.ntmps18
    go_wp2_with fail
    refine (HCC.out _ ?_).mono ?_
    · exact (SL.below HT.out ((Below.refl _ _).alloc (Nat.le_refl _) _)).more (by simp)
    rintro e w0 ⟨rfl, rfl⟩
    obtain ⟨w1, hw1⟩ : ∃ w1, w1 = (w.alloc (.cells #[.int .i64 0, .string ⟨#[]⟩, .string ⟨#[]⟩] 23)) := ⟨_, rfl⟩
    have hB1 : Below w.heap.size w w1 := by rw [hw1]; ((repeat (first | with_reducible refine Below.drew ?_ | (with_reducible refine Below.alloc ?_ ?_ _; rotate_left; (focus (first | (simp; done) | (simp; omega) | omega))) | (with_reducible refine Below.setCell ?_ ?_ _; rotate_left; (focus (first | (simp; done) | (simp; omega) | omega))))); (first | with_reducible exact Below.refl _ _ | with_reducible assumption))
    have hs1 : w1.heap.size = w.heap.size + 1 := by rw [hw1]; simp
    have q0 : w1.cell? ⟨w.heap.size, 0, none⟩ = some (.int .i64 0) := by rw [hw1]; simp [go_sem]
    have q1 : w1.cell? ⟨w.heap.size, 1, none⟩ = some (.string ⟨#[]⟩) := by rw [hw1]; simp [go_sem]
    have q2 : w1.cell? ⟨w.heap.size, 2, none⟩ = some (.string ⟨#[]⟩) := by rw [hw1]; simp [go_sem]
    have fz : ∀ o, w1.frozen? ⟨w.heap.size, o, none⟩ = false := fun o => by rw [hw1]; simp [go_sem]
    rw [← hw1]
    clear hw1
    have hc0 : (checkF ts != 0) = false := by simpa using hc
    have HF : Hid (formF 0 ts = 0) := checkF_form hc
    have HE : Hid (evalAll ts = evalF [] ts) := show _ = _ by rw [evalAll, if_pos hc]
    clear hc
    go_wp2_with fail
    go_loopw [5, 6] (fun sv i wr => ∃ (k : Nat) (vs : List Val) (A' : Option Addr) (c' : Nat), k ≤ ts.length ∧ i = .int .i64 k ∧ sv = .slice A' vs.length c' ∧ vs.length ≤ k ∧ wr.ownsRow (w.heap.size + 1) 23 3 (.slice A' vs.length c') vs.length (vs.flatMap Val.cells) ∧ Hid (formF vs.length (ts.drop k) = 0) ∧ Hid (evalF vs (ts.drop k) = evalF [] ts) ∧ Below (w.heap.size + 1) w1 wr) (fun _ i _ => ts.length - (intOf i).toNat)
    case atStart => exact ⟨0, [], none, 0, Nat.zero_le _, rfl, rfl, Nat.le_refl _, World.ownsRow_nil _ _ _ _, HF, show _ = _ by simp, Below.refl _ _⟩
    case round =>
      obtain ⟨k, vs, A', c', hk, rfl, rfl, hvk, hown, hf, hev, hb⟩ := hrel
      obtain ⟨kk0, ff0⟩ := bat hb (b := w.heap.size) (by omega)
      have r0 := (kk0 0).trans q0
      have r1 := (kk0 1).trans q1
      have r2 := (kk0 2).trans q2
      have rf := fun o => (ff0 o).trans (fz o)
      have HQ : Hid (_ ∧ _ ∧ _ ∧ _) := ⟨q0, q1, q2, fz⟩
      clear kk0 ff0 q0 q1 q2 fz
      have hsz := hb.size
      have hB : Below w.heap.size w wr := hB1.trans (hb.mono (by omega))
      by_cases hlt : k < ts.length
      · obtain ⟨t, ht⟩ : ∃ t, ts[k]? = some t := ⟨_, List.getElem?_eq_getElem hlt⟩
        have Ht := Lib.hid ht
        have hd : Hid (ts.drop k = t :: ts.drop (k + 1)) := show _ = _ by rw [List.drop_eq_getElem_cons hlt]; congr 1; rw [List.getElem?_eq_getElem hlt] at ht; injection ht
        clear ht
        obtain ⟨b, off, rfl, -, -⟩ := HT.out.2 (by omega)
        obtain ⟨hbb, c0, c1, c2⟩ := Terms.cells_at (SL.below HT.out (hB1.trans (hb.mono (by omega)))) Ht.out
        obtain ⟨tok, tle, hf'⟩ := formF_cons (by have := hf.out; rwa [hd.out] at this)
        have HF' := Lib.hid hf'
        clear hf'
        have tb := takesF_bd t.kind
        obtain ⟨K, hK⟩ : ∃ K : Nat, takesF t.kind = K := ⟨(takesF t.kind).toNat, by omega⟩
        have HK := Lib.hid hK
        have htk : ∀ W, Calls Try.prog 39 #[.int .i64 t.kind] W fun e w' => e = .returned (.int .i64 (K : Int)) ∧ W = w' := fun W => by rw [← hK, ← takes_rtakes tok]; exact rtakes_any _ _
        have HTK := Lib.hid htk
        rw [hK] at tle tb
        clear htk hK tok
        have hbr : b < wr.heap.size := by omega
        have hbn : ¬ b = wr.heap.size := by omega
        go_wp2_with fail
        go_region
        obtain ⟨w3, hw3⟩ : ∃ w3, w3 = (wr.alloc (.cells #[.int .i64 t.n, .string t.sym, .string ⟨#[]⟩] 23)).drew := ⟨_, rfl⟩
        have hB3 : Below (w.heap.size + 1) w1 w3 := by rw [hw3]; ((repeat (first | with_reducible refine Below.drew ?_ | (with_reducible refine Below.alloc ?_ ?_ _; rotate_left; (focus (first | (simp; done) | (simp; omega) | omega))) | (with_reducible refine Below.setCell ?_ ?_ _; rotate_left; (focus (first | (simp; done) | (simp; omega) | omega))))); (first | with_reducible exact Below.refl _ _ | with_reducible assumption))
        have hs3 : w3.heap.size = wr.heap.size + 1 := by rw [hw3]; simp
        have hown3 : w3.ownsRow (w.heap.size + 1) 23 3 (.slice A' vs.length c') vs.length (vs.flatMap Val.cells) := by rw [hw3]; exact (hown.alloc _).drew
        have x0 : w3.cell? ⟨wr.heap.size, 0, none⟩ = some (.int .i64 t.n) := by rw [hw3]; simp [go_sem]
        have x1 : w3.cell? ⟨wr.heap.size, 1, none⟩ = some (.string t.sym) := by rw [hw3]; simp [go_sem]
        have x2 : w3.cell? ⟨wr.heap.size, 2, none⟩ = some (.string ⟨#[]⟩) := by rw [hw3]; simp [go_sem]
        have xf : ∀ o, w3.frozen? ⟨wr.heap.size, o, none⟩ = false := fun o => by rw [hw3]; simp [go_sem]
        have t0 : w3.cell? ⟨b, off + k * 3, none⟩ = some (.int .i64 t.kind) := by
          obtain ⟨kb, _⟩ := bat (show Below wr.heap.size wr w3 by rw [hw3]; ((repeat (first | with_reducible refine Below.drew ?_ | (with_reducible refine Below.alloc ?_ ?_ _; rotate_left; (focus (first | (simp; done) | (simp; omega) | omega))) | (with_reducible refine Below.setCell ?_ ?_ _; rotate_left; (focus (first | (simp; done) | (simp; omega) | omega))))); (first | with_reducible exact Below.refl _ _ | with_reducible assumption))) (b := b) hbr
          exact (kb _).trans c0
        obtain ⟨kk3, ff3⟩ := bat hB3 (b := w.heap.size) (by omega)
        have z0 := (kk3 0).trans HQ.out.1
        have z1 := (kk3 1).trans HQ.out.2.1
        have z2 := (kk3 2).trans HQ.out.2.2.1
        have zf := fun o => (ff3 o).trans (HQ.out.2.2.2 o)
        have hgl : ∀ g, (Value.slice A' vs.length c').ownBlock = some g → g < wr.heap.size := fun g h => (hown.lt g h).2
        have hB3' : Below w.heap.size w w3 := hB1.trans (hB3.mono (by omega))
        rw [← hw3]
        clear hw3 kk3 ff3 c0 c1 c2 r0 r1 r2 rf hb hown
        go_upto_block 2 with (go_at_call 39; refine (HTK.out _).mono ?_; rintro e w' ⟨rfl, rfl⟩)
        go_cut [5, 9] (fun s5 s9 wx => ∃ (us : List Val) (A2 : Option Addr) (c2 : Nat) (v : Val) (x : Int), s5 = .slice A2 us.length c2 ∧ s9 = .int .i64 x ∧ us.length ≤ k ∧ us.length + K = vs.length ∧ Hid (x = 0 → evalF (us ++ [v]) (ts.drop (k + 1)) = evalF [] ts) ∧ Hid (¬ x = 0 → evalAll ts = (zeroV, x)) ∧ wx.cell? ⟨wr.heap.size, 0, none⟩ = some (.int .i64 v.add) ∧ wx.cell? ⟨wr.heap.size, 1, none⟩ = some (.string v.plus) ∧ wx.cell? ⟨wr.heap.size, 2, none⟩ = some (.string v.minus) ∧ Below (w.heap.size + 1) w1 wx ∧ wr.heap.size + 1 ≤ wx.heap.size ∧ wx.ownsRow (w.heap.size + 1) 23 3 (.slice A2 us.length c2) us.length (us.flatMap Val.cells))
        case first =>
          have hK3 : K = 0 ∨ K = 1 ∨ K = 2 := by omega
          rcases hK3 with rfl | rfl | rfl
          · go_wp2_with fail
            go_meet
            refine ⟨vs, A', c', ⟨t.n, t.sym, emp⟩, 0, rfl, rfl, hvk, rfl, ?_, show ¬ _ → _ from fun h => (h rfl).elim, x0, x1, x2, hB3, by omega, hown3⟩
            show _ → _
            intro _
            rw [← evalF_leaf (by simpa using HK.out), ← hd.out]
            exact hev.out
          · obtain ⟨us, y, rfl⟩ : ∃ us y, vs = us ++ [y] := by
              rcases List.eq_nil_or_concat vs with rfl | ⟨us, y, rfl⟩
              · simp at tle
              · exact ⟨us, y, by simp⟩
            have hbad : Hid (∀ z x, ¬ x = 0 → applyF t.kind zeroV y = (z, x) → evalAll ts = (zeroV, x)) := show ∀ z x, _ → _ → _ from fun z x hx hz => by
              rw [HE.out, ← hev.out, hd.out]
              refine evalF_bad (v := z) (by rw [HK.out]; omega) hx ?_
              simpa [applyF_unary (k := t.kind) HK.out _ zeroV] using hz
            have hgo : Hid (∀ z, applyF t.kind zeroV y = (z, 0) → evalF (us ++ [z]) (ts.drop (k + 1)) = evalF [] ts) := show ∀ z, _ → _ from fun z hz => by
              rw [← hev.out, hd.out, evalF_op (v := z) (by rw [HK.out]; omega) (by simpa [applyF_unary (k := t.kind) HK.out _ zeroV] using hz), HK.out]
              simp
            rcases own_two hown3 with ⟨_, _, h0⟩ | ⟨g, rfl, hgB, hgx⟩
            · simp at h0
            · obtain ⟨_, d0, d1, d2⟩ := Vals.cells_at (SL.of_own hown3) (k := us.length) (t := y) (by simp)
              have hcl := own_cap hown3
              have hot := ownsRow_take (n' := us.length) hown3 (by simp)
              rw [flat_take Val.cells 3 (fun _ => rfl), List.take_left] at hot
              simp only [List.length_append, List.length_singleton] at *
              simp only [Nat.zero_add] at d0 d1 d2
              have hgg : g < wr.heap.size := hgl g rfl
              have hne1 : (Value.slice (some ⟨g, 0, none⟩) us.length c').ownBlock ≠ some wr.heap.size := fun h => Nat.lt_irrefl _ (hgl _ h)
              clear hgl
              have hgn : ¬ g = wr.heap.size := by omega
              have hwn : ¬ w.heap.size = wr.heap.size := by omega
              have HNG := Lib.hid (fun W (hW : Below w3.heap.size w3 W) => (rneg_any y.add y.plus y.minus W).mono (R' := fun e w4 => e = .returned (.agg #[.int .i64 (wrap64 (-y.add)), .string y.minus, .string y.plus]) ∧ w4.cell? ⟨wr.heap.size, 0, none⟩ = some (.int .i64 t.n) ∧ w4.cell? ⟨wr.heap.size, 1, none⟩ = some (.string t.sym) ∧ w4.cell? ⟨wr.heap.size, 2, none⟩ = some (.string ⟨#[]⟩) ∧ (∀ o, w4.frozen? ⟨wr.heap.size, o, none⟩ = false) ∧ w4.cell? ⟨w.heap.size, 0, none⟩ = some (.int .i64 0) ∧ w4.cell? ⟨w.heap.size, 1, none⟩ = some (.string ⟨#[]⟩) ∧ w4.cell? ⟨w.heap.size, 2, none⟩ = some (.string ⟨#[]⟩) ∧ (∀ o, w4.frozen? ⟨w.heap.size, o, none⟩ = false) ∧ w4.cell? ⟨b, off + k * 3, none⟩ = some (.int .i64 t.kind) ∧ w4.cell? ⟨g, us.length * 3, none⟩ = some (.int .i64 y.add) ∧ w4.cell? ⟨g, us.length * 3 + 1, none⟩ = some (.string y.plus) ∧ w4.cell? ⟨g, us.length * 3 + 2, none⟩ = some (.string y.minus) ∧ Below (w.heap.size + 1) w1 w4 ∧ Below w.heap.size w w4 ∧ wr.heap.size + 1 ≤ w4.heap.size ∧ w4.ownsRow (w.heap.size + 1) 23 3 (.slice (some ⟨g, 0, none⟩) us.length c') us.length (us.flatMap Val.cells)) (by
                rintro e w4 ⟨he, o1, o2, hw4⟩
                have h0 : Below w3.heap.size w3 w4 := hW.trans (by rw [hw4]; exact (((Below.refl _ _).alloc hW.size _).alloc (by simp; have := hW.size; omega) _))
                have hsz4 := h0.size
                obtain ⟨m1, n1⟩ := bat h0 (b := wr.heap.size) (by omega)
                obtain ⟨m2, n2⟩ := bat h0 (b := w.heap.size) (by omega)
                obtain ⟨m3, n3⟩ := bat h0 (b := b) (by omega)
                obtain ⟨m4, n4⟩ := bat h0 (b := g) (by omega)
                exact ⟨he, (m1 _).trans x0, (m1 _).trans x1, (m1 _).trans x2, fun o => (n1 o).trans (xf o), (m2 _).trans z0, (m2 _).trans z1, (m2 _).trans z2, fun o => (n2 o).trans (zf o), (m3 _).trans t0, (m4 _).trans d0, (m4 _).trans d1, (m4 _).trans d2, hB3.trans (h0.mono (by omega)), hB3'.trans (h0.mono (by omega)), by omega, ownsRow_below hot h0 (fun q hq => (hot.lt q hq).2)⟩))
              have hkd : t.kind = 3 ∨ t.kind = 4 := by
                have := HK.out
                unfold takesF at this
                split at this
                · assumption
                · split at this <;> omega
              go_upto_region 14 with (go_at_call 13; refine (HNG.out _ (Below.refl _ _)).mono ?_; rintro e w4 ⟨rfl, X0, X1, X2, XF, Z0, Z1, Z2, ZF, T0, D0, D1, D2, hB4, hB4', hs4, hot4⟩)
              obtain ⟨w5, hw5⟩ : ∃ w5, w5 = ((w4.setCell ⟨wr.heap.size, 0, none⟩ (.int .i64 (wrap64 (-y.add)))).setCell ⟨wr.heap.size, 1, none⟩ (.string y.minus)).setCell ⟨wr.heap.size, 2, none⟩ (.string y.plus) := ⟨_, rfl⟩
              have Y0 : w5.cell? ⟨wr.heap.size, 0, none⟩ = some (.int .i64 (wrap64 (-y.add))) := by rw [hw5]; simp [go_sem, X0, X1, X2]
              have Y1 : w5.cell? ⟨wr.heap.size, 1, none⟩ = some (.string y.minus) := by rw [hw5]; simp [go_sem, X0, X1, X2]
              have Y2 : w5.cell? ⟨wr.heap.size, 2, none⟩ = some (.string y.plus) := by rw [hw5]; simp [go_sem, X0, X1, X2]
              have YF : ∀ o, w5.frozen? ⟨wr.heap.size, o, none⟩ = false := fun o => by rw [hw5]; simp [go_sem, XF]
              have V0 : w5.cell? ⟨w.heap.size, 0, none⟩ = some (.int .i64 0) := by rw [hw5]; simp [go_sem, Z0, hwn]
              have V1 : w5.cell? ⟨w.heap.size, 1, none⟩ = some (.string ⟨#[]⟩) := by rw [hw5]; simp [go_sem, Z1, hwn]
              have V2 : w5.cell? ⟨w.heap.size, 2, none⟩ = some (.string ⟨#[]⟩) := by rw [hw5]; simp [go_sem, Z2, hwn]
              have VF : ∀ o, w5.frozen? ⟨w.heap.size, o, none⟩ = false := fun o => by rw [hw5]; simp [go_sem, ZF]
              have U0 : w5.cell? ⟨b, off + k * 3, none⟩ = some (.int .i64 t.kind) := by rw [hw5]; simp [go_sem, T0, hbn]
              have E0 : w5.cell? ⟨g, us.length * 3, none⟩ = some (.int .i64 y.add) := by rw [hw5]; simp [go_sem, D0, hgn]
              have E1 : w5.cell? ⟨g, us.length * 3 + 1, none⟩ = some (.string y.plus) := by rw [hw5]; simp [go_sem, D1, hgn]
              have E2 : w5.cell? ⟨g, us.length * 3 + 2, none⟩ = some (.string y.minus) := by rw [hw5]; simp [go_sem, D2, hgn]
              have hB5 : Below (w.heap.size + 1) w1 w5 := by rw [hw5]; ((repeat (first | with_reducible refine Below.drew ?_ | (with_reducible refine Below.alloc ?_ ?_ _; rotate_left; (focus (first | (simp; done) | (simp; omega) | omega))) | (with_reducible refine Below.setCell ?_ ?_ _; rotate_left; (focus (first | (simp; done) | (simp; omega) | omega))))); (first | with_reducible exact Below.refl _ _ | with_reducible assumption))
              have hB5' : Below w.heap.size w w5 := by rw [hw5]; ((repeat (first | with_reducible refine Below.drew ?_ | (with_reducible refine Below.alloc ?_ ?_ _; rotate_left; (focus (first | (simp; done) | (simp; omega) | omega))) | (with_reducible refine Below.setCell ?_ ?_ _; rotate_left; (focus (first | (simp; done) | (simp; omega) | omega))))); (first | with_reducible exact Below.refl _ _ | with_reducible assumption))
              have hs5 : wr.heap.size + 1 ≤ w5.heap.size := by rw [hw5]; simp; omega
              have hot5 : w5.ownsRow (w.heap.size + 1) 23 3 (.slice (some ⟨g, 0, none⟩) us.length c') us.length (us.flatMap Val.cells) := by rw [hw5]; exact own_far (own_far (own_far hot4 hne1) hne1) hne1
              rw [← hw5]
              clear hw5 X0 X1 X2 XF Z0 Z1 Z2 ZF T0 D0 D1 D2 hB4 hB4' hs4 hot4 hot x0 x1 x2 xf z0 z1 z2 zf t0 d0 d1 d2 hB3 hB3' hs3 hown3 HNG
              rcases hkd with hk3 | hk4
              · rw [hk3] at U0
                go_wp2_with fail
                go_meet
                refine ⟨us, some ⟨g, 0, none⟩, c', ⟨wrap64 (-y.add), y.minus, y.plus⟩, 0, rfl, rfl, by omega, by omega, ?_, show ¬ _ → _ from fun h => (h rfl).elim, by simp [go_sem, Y0, Y1, Y2], by simp [go_sem, Y0, Y1, Y2], by simp [go_sem, Y0, Y1, Y2], (by ((repeat (first | with_reducible refine Below.drew ?_ | (with_reducible refine Below.alloc ?_ ?_ _; rotate_left; (focus (first | (simp; done) | (simp; omega) | omega))) | (with_reducible refine Below.setCell ?_ ?_ _; rotate_left; (focus (first | (simp; done) | (simp; omega) | omega))))); (first | with_reducible exact Below.refl _ _ | with_reducible assumption))), (by (first | (simp; done) | (simp; omega) | omega)), (by repeat (first | exact hot5 | refine own_far ?_ hne1 | refine World.ownsRow.alloc ?_ _ | refine World.ownsRow.drew ?_))⟩
                show _ → _
                exact fun _ => hgo.out _ (by rw [hk3]; simp [applyF, negF])
              · rw [hk4] at U0
                by_cases hp : y.plus.toList = []
                · have ep : y.plus.toList.isEmpty = true := by rw [hp]; rfl
                  by_cases hm : y.minus.toList = []
                  · have em : y.minus.toList.isEmpty = true := by rw [hm]; rfl
                    have hpl : plainB y.plus y.minus = true := by simp [plainB, ← ba_emp, hp, hm]
                    go_wp2_with fail
                    go_meet
                    refine ⟨us, some ⟨g, 0, none⟩, c', ⟨bits .xor .i64 (-1) y.add, ⟨#[]⟩, ⟨#[]⟩⟩, 0, rfl, rfl, by omega, by omega, ?_, show ¬ _ → _ from fun h => (h rfl).elim, by simp [go_sem, Y0, Y1, Y2], by simp [go_sem, Y0, Y1, Y2], by simp [go_sem, Y0, Y1, Y2], (by ((repeat (first | with_reducible refine Below.drew ?_ | (with_reducible refine Below.alloc ?_ ?_ _; rotate_left; (focus (first | (simp; done) | (simp; omega) | omega))) | (with_reducible refine Below.setCell ?_ ?_ _; rotate_left; (focus (first | (simp; done) | (simp; omega) | omega))))); (first | with_reducible exact Below.refl _ _ | with_reducible assumption))), (by (first | (simp; done) | (simp; omega) | omega)), (by repeat (first | exact hot5 | refine own_far ?_ hne1 | refine World.ownsRow.alloc ?_ _ | refine World.ownsRow.drew ?_))⟩
                    show _ → _
                    exact fun _ => hgo.out _ (by rw [hk4]; exact applyF_not zeroV hpl)
                  · have em : y.minus.toList.isEmpty = false := by simpa using hm
                    have hpl : plainB y.plus y.minus = false := by simp [plainB, ← ba_emp, hm]
                    have hx := Lib.hid (hbad.out _ 91 (by decide) (by rw [hk4]; exact applyF_not_bad zeroV hpl))
                    go_wp2_with fail
                    exact bodyPost_ret (v := .tuple #[.agg #[.int .i64 0, .string ⟨#[]⟩, .string ⟨#[]⟩], .int .i64 91]) (by simp [results, Try.results18, go_sem, V0, V1, V2]) rfl (EvalPost.mk hx.out (by ((repeat (first | with_reducible refine Below.drew ?_ | (with_reducible refine Below.alloc ?_ ?_ _; rotate_left; (focus (first | (simp; done) | (simp; omega) | omega))) | (with_reducible refine Below.setCell ?_ ?_ _; rotate_left; (focus (first | (simp; done) | (simp; omega) | omega))))); (first | with_reducible exact Below.refl _ _ | with_reducible assumption))))
                · have ep : y.plus.toList.isEmpty = false := by simpa using hp
                  have hpl : plainB y.plus y.minus = false := by simp [plainB, ← ba_emp, hp]
                  have hx := Lib.hid (hbad.out _ 91 (by decide) (by rw [hk4]; exact applyF_not_bad zeroV hpl))
                  go_wp2_with fail
                  exact bodyPost_ret (v := .tuple #[.agg #[.int .i64 0, .string ⟨#[]⟩, .string ⟨#[]⟩], .int .i64 91]) (by simp [results, Try.results18, go_sem, V0, V1, V2]) rfl (EvalPost.mk hx.out (by ((repeat (first | with_reducible refine Below.drew ?_ | (with_reducible refine Below.alloc ?_ ?_ _; rotate_left; (focus (first | (simp; done) | (simp; omega) | omega))) | (with_reducible refine Below.setCell ?_ ?_ _; rotate_left; (focus (first | (simp; done) | (simp; omega) | omega))))); (first | with_reducible exact Below.refl _ _ | with_reducible assumption))))
          · obtain ⟨us, y, z, rfl⟩ : ∃ us y z, vs = us ++ [y, z] := by
              rcases List.eq_nil_or_concat vs with rfl | ⟨us, z, rfl⟩
              · simp at tle
              · rcases List.eq_nil_or_concat us with rfl | ⟨us, y, rfl⟩
                · simp at tle
                · exact ⟨us, y, z, by simp⟩
            have hbad : Hid (∀ v x, ¬ x = 0 → applyF t.kind y z = (v, x) → evalAll ts = (zeroV, x)) := show ∀ v x, _ → _ → _ from fun v x hx hz => by
              rw [HE.out, ← hev.out, hd.out]
              refine evalF_bad (v := v) (by rw [HK.out]; omega) hx ?_
              simpa using hz
            have hgo : Hid (∀ v, applyF t.kind y z = (v, 0) → evalF (us ++ [v]) (ts.drop (k + 1)) = evalF [] ts) := show ∀ v, _ → _ from fun v hz => by
              rw [← hev.out, hd.out, evalF_op (v := v) (by rw [HK.out]; omega) (by simpa using hz), HK.out]
              simp
            rcases own_two hown3 with ⟨_, _, h0⟩ | ⟨g, rfl, hgB, hgx⟩
            · simp at h0
            · obtain ⟨_, d0, d1, d2⟩ := Vals.cells_at (SL.of_own hown3) (k := us.length) (t := y) (by simp)
              obtain ⟨_, e0, e1, e2⟩ := Vals.cells_at (SL.of_own hown3) (k := us.length + 1) (t := z) (by simp)
              have hcl := own_cap hown3
              have hot := ownsRow_take (n' := us.length) hown3 (by simp)
              rw [flat_take Val.cells 3 (fun _ => rfl), List.take_left] at hot
              simp only [len_two] at *
              simp only [Nat.zero_add] at d0 d1 d2 e0 e1 e2
              have hgg : g < wr.heap.size := hgl g rfl
              have hne1 : (Value.slice (some ⟨g, 0, none⟩) us.length c').ownBlock ≠ some wr.heap.size := fun h => Nat.lt_irrefl _ (hgl _ h)
              clear hgl
              have hkd : 5 ≤ t.kind ∧ t.kind ≤ 14 := by
                have := HK.out
                unfold takesF at this
                split at this
                · omega
                · split at this
                  · assumption
                  · omega
              have hw2 : IntKind.i64.wrap (((us.length + 2 : Nat) : Int) - 2) = (us.length : Int) := by rw [IntKind.wrap_i64]; omega
              have hw1 : IntKind.i64.wrap (((us.length + 2 : Nat) : Int) - 1) = ((us.length + 1 : Nat) : Int) := by rw [IntKind.wrap_i64]; omega
              have hv2 : IntKind.i64.wrap ((us.length : Int) + 2 - 2) = (us.length : Int) := by rw [IntKind.wrap_i64]; omega
              have hv1 : IntKind.i64.wrap ((us.length : Int) + 2 - 1) = ((us.length + 1 : Nat) : Int) := by rw [IntKind.wrap_i64]; omega
              have hcl' : (us.length : Int) ≤ (c' : Int) := by omega
              have hq2 : IntKind.i64.wrap (us.length : Int) = (us.length : Int) := by rw [IntKind.wrap_i64]; omega
              have hq1 : IntKind.i64.wrap ((us.length : Int) + 1) = (us.length : Int) + 1 := by rw [IntKind.wrap_i64]; omega
              have hq0 : ((us.length : Int) + 1).toNat = us.length + 1 := by omega
              have HT2 := Lib.hid (fun W (hW : Below w3.heap.size w3 W) => (rtwo_any t.kind hkd y z W).mono (R' := fun e w4 => ∃ r x, e = .returned (.tuple #[.agg #[.int .i64 r.add, .string r.plus, .string r.minus], .int .i64 x]) ∧ Hid (applyF t.kind y z = (r, x)) ∧ w4.cell? ⟨wr.heap.size, 0, none⟩ = some (.int .i64 t.n) ∧ w4.cell? ⟨wr.heap.size, 1, none⟩ = some (.string t.sym) ∧ w4.cell? ⟨wr.heap.size, 2, none⟩ = some (.string ⟨#[]⟩) ∧ (∀ o, w4.frozen? ⟨wr.heap.size, o, none⟩ = false) ∧ Below (w.heap.size + 1) w1 w4 ∧ wr.heap.size + 1 ≤ w4.heap.size ∧ w4.ownsRow (w.heap.size + 1) 23 3 (.slice (some ⟨g, 0, none⟩) us.length c') us.length (us.flatMap Val.cells)) (by
                rintro e w4 ⟨r, x, hr, he, hb4⟩
                have h0 : Below w3.heap.size w3 w4 := hW.trans (hb4.mono hW.size)
                have hsz4 := h0.size
                obtain ⟨m1, n1⟩ := bat h0 (b := wr.heap.size) (by omega)
                exact ⟨r, x, he, hr, (m1 _).trans x0, (m1 _).trans x1, (m1 _).trans x2, fun o => (n1 o).trans (xf o), hB3.trans (h0.mono (by omega)), by omega, ownsRow_below hot h0 (fun q hq => (hot.lt q hq).2)⟩))
              clear hkd
              have hlu : us.length ≤ k := by omega
              have hi1 : (0 : Int) ≤ (us.length : Int) + 1 := by omega
              have hi2 : (us.length : Int) + 1 < (us.length : Int) + 2 := by omega
              have hi3 : (0 : Int) ≤ (us.length : Int) := by omega
              have hi4 : (us.length : Int) < (us.length : Int) + 2 := by omega
              have hww : w.heap.size + 1 ≤ wr.heap.size := by omega
              try clear x0
              try clear x1
              try clear x2
              try clear xf
              try clear z0
              try clear z1
              try clear z2
              try clear zf
              try clear hot
              try clear hB3
              try clear hB3'
              try clear hown3
              try clear HQ
              try clear HTK
              try clear HF'
              try clear hev
              try clear hf
              try clear hd
              try clear HK
              try clear Ht
              try clear HCC
              try clear HT
              try clear HE
              try clear HF
              try clear hB
              try clear hc0
              try clear hB1
              try clear hgB
              try clear hgx
              try clear hgg
              try clear hsz
              try clear hs1
              try clear hbb
              try clear hbr
              try clear hbn
              go_wp2_with fail
              go_region_with (go_at_call 40; refine (HT2.out _ (by ((repeat (first | with_reducible refine Below.drew ?_ | (with_reducible refine Below.alloc ?_ ?_ _; rotate_left; (focus (first | (simp; done) | (simp; omega) | omega))) | (with_reducible refine Below.setCell ?_ ?_ _; rotate_left; (focus (first | (simp; done) | (simp; omega) | omega))))); (first | with_reducible exact Below.refl _ _ | with_reducible assumption)))).mono ?_; rintro e w4 ⟨r, x, rfl, Hr, X0, X1, X2, XF, hB4, hs4, hot4⟩)
              all_goals (go_wp2_with fail)
              all_goals go_meet
              all_goals (refine ⟨us, some ⟨g, 0, none⟩, c', r, x, rfl, rfl, hlu, (by omega), (show _ → _ from fun h => hgo.out _ (by rw [Hr.out, h])), (show ¬ _ → _ from fun h => hbad.out _ _ h Hr.out), (by simp [go_sem, X0, X1, X2]), (by simp [go_sem, X0, X1, X2]), (by simp [go_sem, X0, X1, X2]), (by ((repeat (first | with_reducible refine Below.drew ?_ | (with_reducible refine Below.alloc ?_ ?_ _; rotate_left; (focus (first | (simp; done) | (simp; omega) | omega))) | (with_reducible refine Below.setCell ?_ ?_ _; rotate_left; (focus (first | (simp; done) | (simp; omega) | omega))))); (first | with_reducible exact Below.refl _ _ | with_reducible assumption))), (by (first | (simp; done) | (simp; omega) | omega)), (by repeat (first | exact hot4 | refine own_far ?_ hne1 | refine World.ownsRow.alloc ?_ _ | refine World.ownsRow.drew ?_))⟩)
        case rest =>
          obtain ⟨us, A2, c2, v, x, rfl, rfl, huk, hul, hv, hv', b0, b1, b2, hbx, hsx, hox⟩ := hcut
          by_cases hx0 : x = 0
          · subst hx0
            obtain ⟨i0, hi0, hz0, hz1, hz2⟩ := info_parts val_info
            clear x0 x1 x2 xf z0 z1 z2 zf t0
            go_wp2_with (at_builtin; refine wpList_append_lies _ (by rfl) _ _ _ (by rfl) (w.heap.size + 1) 23 i0 _ 3 40 Try.underlying66 hi0 hz0 hz1 hz2 rfl (by omega) (.slice A2 us.length c2) us.length (us.flatMap Val.cells) (by rfl) (hox.alloc _) ⟨wc.heap.size, 0, none⟩ 1 1 [.int .i64 v.add, .string v.plus, .string v.minus] (by rfl) (by rfl) (World.news_of_block (cs := #[.int .i64 v.add, .string v.plus, .string v.minus]) (t := 23) (fr := (0, 0)) (heap_alloc_new wc _)) (by simp [Value.oneCell']) (by omega) (by simp only [maxLen]; omega) (by omega) (by simp; omega) (wc.heap.size + 1) (by simp) ?_; intro gg cap2 w5 hown5 hgrow hat hlt5)
            go_roundw
            case rel =>
              refine ⟨k + 1, us ++ [v], some ⟨gg, 0, none⟩, cap2, by omega, by go_num, ?_, ?_, ?_, ?_, hv.out rfl, ?_⟩
              · rw [List.length_append]; rfl
              · rw [List.length_append]; show us.length + 1 ≤ k + 1; omega
              · rw [List.length_append, List.flatMap_append]; simpa [Val.cells] using hown5
              · show formF _ _ = 0
                rw [← HF'.out, HK.out]
                congr 1
                simp; omega
              · exact (hbx.alloc (by omega) _).grown hgrow (by simp; omega) (fun q hq => (hox.lt q hq).1)
            case measure => simp [intOf]; omega
          · have hxne : (x != 0) = true := by simpa using hx0
            have hx := Lib.hid (hv'.out hx0)
            obtain ⟨kw, fw⟩ := bat hbx (b := w.heap.size) (by omega)
            have v0 := (kw 0).trans HQ.out.1
            have v1 := (kw 1).trans HQ.out.2.1
            have v2 := (kw 2).trans HQ.out.2.2.1
            have vf := fun o => (fw o).trans (HQ.out.2.2.2 o)
            have hBx : Below w.heap.size w wc := hB1.trans (hbx.mono (by omega))
            clear x0 x1 x2 xf z0 z1 z2 zf t0 kw fw
            go_wp2_with fail
            exact bodyPost_ret (v := .tuple #[.agg #[.int .i64 0, .string ⟨#[]⟩, .string ⟨#[]⟩], .int .i64 x]) (by simp [results, Try.results18, go_sem, v0, v1, v2]) rfl (EvalPost.mk hx.out (by ((repeat (first | with_reducible refine Below.drew ?_ | (with_reducible refine Below.alloc ?_ ?_ _; rotate_left; (focus (first | (simp; done) | (simp; omega) | omega))) | (with_reducible refine Below.setCell ?_ ?_ _; rotate_left; (focus (first | (simp; done) | (simp; omega) | omega))))); (first | with_reducible exact Below.refl _ _ | with_reducible assumption))))
      · have hd : Hid (ts.drop k = []) := show _ = _ by rw [List.drop_eq_nil_of_le (by omega)]
        have h1 : vs.length = 1 := by have := formF_nil (by have := hf.out; rwa [hd.out] at this); omega
        obtain ⟨v, rfl⟩ : ∃ v, vs = [v] := by
          match vs, h1 with
          | [v], _ => exact ⟨v, rfl⟩
        have hres : Hid (evalAll ts = (v, 0)) := show _ = _ by rw [HE.out, ← hev.out, hd.out]; rfl
        rcases own_two hown with ⟨_, _, h0⟩ | ⟨g, rfl, hgB, hgx⟩
        · cases h0
        · have e0 : wr.cell? ⟨g, 0, none⟩ = some (.int .i64 v.add) := by rw [hown.cellAt 0 (by simp)]; rfl
          have e1 : wr.cell? ⟨g, 1, none⟩ = some (.string v.plus) := by rw [hown.cellAt 1 (by simp)]; rfl
          have e2 : wr.cell? ⟨g, 2, none⟩ = some (.string v.minus) := by rw [hown.cellAt 2 (by simp)]; rfl
          go_wp2_with fail
          exact bodyPost_ret (v := .tuple #[.agg #[.int .i64 v.add, .string v.plus, .string v.minus], .int .i64 0]) (by simp [results, Try.results18, go_sem, r0, r1, r2]) rfl (EvalPost.mk hres.out (by ((repeat (first | with_reducible refine Below.drew ?_ | (with_reducible refine Below.alloc ?_ ?_ _; rotate_left; (focus (first | (simp; done) | (simp; omega) | omega))) | (with_reducible refine Below.setCell ?_ ?_ _; rotate_left; (focus (first | (simp; done) | (simp; omega) | omega))))); (first | with_reducible exact Below.refl _ _ | with_reducible assumption))))
  · have hne : (checkF ts != 0) = true := by simpa using hc
    have hx : Hid (evalAll ts = (⟨0, ⟨#[]⟩, ⟨#[]⟩⟩, checkF ts)) := show _ = _ by rw [evalAll, if_neg hc]; rfl
    go_enter Try.func18, Try.ntmps18
    go_wp2_with fail
    refine (HCC.out _ ?_).mono ?_
    · exact (SL.below HT.out ((Below.refl _ _).alloc (Nat.le_refl _) _)).more (by simp)
    rintro e w0 ⟨rfl, rfl⟩
    go_wp2_with fail
    exact bodyPost_ret (v := .tuple #[.agg #[.int .i64 0, .string ⟨#[]⟩, .string ⟨#[]⟩], .int .i64 (checkF ts)]) (by simp [results, Try.results18, go_sem]) rfl (EvalPost.mk hx.out (by ((repeat (first | with_reducible refine Below.drew ?_ | (with_reducible refine Below.alloc ?_ ?_ _; rotate_left; (focus (first | (simp; done) | (simp; omega) | omega))) | (with_reducible refine Below.setCell ?_ ?_ _; rotate_left; (focus (first | (simp; done) | (simp; omega) | omega))))); (first | with_reducible exact Below.refl _ _ | with_reducible assumption))))

end Go.Proofs.Ythhlghoeapjagaa
