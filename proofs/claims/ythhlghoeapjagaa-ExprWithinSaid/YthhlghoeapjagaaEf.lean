/- Contract of Eval of package expr. -/
import Derived.Test.YthhlghoeapjagaaEe
import Derived.Test.YthhlghoeapjagaaEc
import Derived.Deep.AppendLies
import Derived.WalkSmall
import Derived.Deep.DeepCutAuto
set_option linter.unusedVariables false
set_option linter.unusedSimpArgs false
namespace Go.Proofs.Ythhlghoeapjagaa
open Go.RowKit
attribute [local go_sem ↓] Go.wp_at_zero Go.wp_at_succ

theorem ApplyPost.unary {k : Int} (h : takesF k = 1) {a a' b : Val} {w : World} {e : Ending} {w' : World} (p : ApplyPost k a b w e w') : ApplyPost k a' b w e w' := by
  obtain ⟨r, x, hr, he, hb⟩ := p
  exact ⟨r, x, by rw [← hr]; exact applyF_unary h _ _ _, he, hb⟩

/-- apply, whatever the operator. -/
theorem apply_any (k : Int) (hk : ¬ takesF k = 0) (A : Option Addr) (n cap : Nat) (vs : List Val) (w : World) (hV : Vals w w.heap.size A vs) (hn : vs.length = n) (hle : takesF k ≤ n) (hm : n ≤ maxLen) (hsz : ∀ v ∈ vs, v.le 140737488355328) :
    Calls Try.prog 38 #[.int .i64 k, .slice A n cap] w (ApplyPost k (vs.getD (vs.length - 2) zeroV) (vs.getD (vs.length - 1) zeroV) w) := by
  have tb := takesF_bd k
  have hlt : n - 1 < vs.length := by omega
  have hb : vs[n - 1]? = some (vs.getD (vs.length - 1) zeroV) := by rw [hn, List.getD_eq_getElem?_getD, List.getElem?_eq_getElem hlt]; rfl
  obtain ⟨b, eb⟩ : ∃ b, b = vs.getD (vs.length - 1) zeroV := ⟨_, rfl⟩
  rw [← eb] at hb ⊢
  have sb := hsz b (List.mem_of_getElem? hb)
  by_cases h3 : k = 3
  · subst h3
    exact (apply_neg A n cap vs b w hV hn hb hm).mono fun e w' h => h.unary rfl
  by_cases h4 : k = 4
  · subst h4
    exact (apply_not A n cap vs b w hV hn hb hm).mono fun e w' h => h.unary rfl
  have h2 : takesF k = 2 := by
    unfold takesF at hk ⊢
    rw [if_neg (by omega)] at hk ⊢
    split at hk
    · rw [if_pos (by assumption)]
    · exact (hk rfl).elim
  have ha : vs[n - 2]? = some (vs.getD (vs.length - 2) zeroV) := by rw [hn, List.getD_eq_getElem?_getD, List.getElem?_eq_getElem (show n - 2 < vs.length by omega)]; rfl
  obtain ⟨a, ea⟩ : ∃ a, a = vs.getD (vs.length - 2) zeroV := ⟨_, rfl⟩
  rw [← ea] at ha ⊢
  have sa := hsz a (List.mem_of_getElem? ha)
  by_cases h8 : k = 8
  · subst h8
    exact apply_add A n cap vs a b w hV hn (by omega) ha hb hm sa.1 sa.2 sb.1 sb.2
  by_cases h9 : k = 9
  · subst h9
    exact apply_sub A n cap vs a b w hV hn (by omega) ha hb hm sa.1 sa.2 sb.1 sb.2
  exact apply_num k (by simpa using h3) (by simpa using h4) (by simpa using h8) (by simpa using h9) A n cap vs a b w hV hn (by omega) ha hb hm

def EvalPost (ts : List Term) (w : World) (e : Ending) (w' : World) : Prop :=
  ∃ r x, evalAll ts = (r, x) ∧ e = .returned (.tuple #[.agg #[.int .i64 r.add, .string r.plus, .string r.minus], .int .i64 x]) ∧ Below w.heap.size w w'

theorem EvalPost.mk {ts : List Term} {w w' : World} {a : Int} {p m : ByteArray} {x : Int} (h : evalAll ts = (⟨a, p, m⟩, x)) (hb : Below w.heap.size w w') :
    EvalPost ts w (.returned (.tuple #[.agg #[.int .i64 a, .string p, .string m], .int .i64 x])) w' := ⟨_, _, h, rfl, hb⟩

theorem val_info : (Try.prog.info? 23).map (fun i => (i.zero, i.size, i.bytes)) = some (some (.agg #[.int .i64 0, .string ⟨#[]⟩, .string ⟨#[]⟩]), 3, 40) := by kernel_rfl

theorem ownsRow_below {w w' : World} {base : Nat} {e : TypeId} {size : Nat} {v : Value} {n : Nat} {xs : List Value} (h : w.ownsRow base e size v n xs) {B : Nat} (hb : Below B w w') (hB : ∀ g, v.ownBlock = some g → g < B) : w'.ownsRow base e size v n xs := by
  refine ⟨h.1, ?_⟩
  rcases h.2 with h0 | ⟨g, cap, cur, hv, hg, hh, r⟩
  · exact .inl h0
  · exact .inr ⟨g, cap, cur, hv, hg, (hb.block g (hB g (by rw [hv]; rfl))).trans hh, r⟩

/-- a slice that the call owns reads as what it holds -/
theorem SL.of_own {w : World} {base : Nat} {e : TypeId} {sz : Nat} {A : Option Addr} {n c : Nat} {xs : List Value} (h : w.ownsRow base e sz (.slice A n c) n xs) : SL w w.heap.size sz A n xs := by
  refine ⟨h.1, fun hn => ?_⟩
  obtain ⟨g, cap, hv, _, hlt⟩ := h.form hn
  injection hv with hA
  subst hA
  refine ⟨g, 0, rfl, hlt, fun j u hu => ?_⟩
  have := h.cells (g := g) rfl j u hu
  simpa [Addr.add] using (by unfold Addr.add at this; split at this <;> simp_all : w.cell? ⟨g, 0 + j, none⟩ = some u)

theorem getD_le {vs : List Val} {k i : Nat} (h : ∀ v ∈ vs, v.le k) : (vs.getD i zeroV).le k := by
  rw [List.getD_eq_getElem?_getD]
  cases e : vs[i]? with
  | none => exact le_emp _ _
  | some v => exact h v (List.mem_of_getElem? e)

theorem own_two {w : World} {base : Nat} {e : TypeId} {sz n c : Nat} {A : Option Addr} {xs : List Value} (h : w.ownsRow base e sz (.slice A n c) n xs) : (A = none ∧ c = 0 ∧ n = 0) ∨ ∃ g, A = some ⟨g, 0, none⟩ ∧ base ≤ g ∧ g < w.heap.size := by
  rcases h.2 with ⟨hv, h0⟩ | ⟨g, cap, cur, hv, hg, hh, _⟩
  · injection hv with h1 h2 h3
    exact .inl ⟨h1, h3, h0⟩
  · injection hv with h1 h2 h3
    refine .inr ⟨g, h1, hg, ?_⟩
    rcases Nat.lt_or_ge g w.heap.size with hlt | hge
    · exact hlt
    · rw [Array.getElem?_eq_none hge] at hh; cases hh

theorem own_cap {w : World} {base : Nat} {e : TypeId} {sz n c : Nat} {A : Option Addr} {xs : List Value} (h : w.ownsRow base e sz (.slice A n c) n xs) : n ≤ c := by
  rcases h.2 with ⟨hv, h0⟩ | ⟨g, cap, cur, hv, hg, hh, hn, _⟩
  · omega
  · injection hv with h1 h2 h3
    omega

/-- what the call owns stays while another block is written -/
theorem own_far {w : World} {base : Nat} {e : TypeId} {size : Nat} {v : Value} {n : Nat} {xs : List Value} (h : w.ownsRow base e size v n xs) {a : Addr} {u : Value} (ha : v.ownBlock ≠ some a.block) : (w.setCell a u).ownsRow base e size v n xs := by
  refine ⟨h.1, ?_⟩
  rcases h.2 with h0 | ⟨g, cap, cur, hv, hg, hh, r⟩
  · exact .inl h0
  · exact .inr ⟨g, cap, cur, hv, hg, by rw [Below.heap_setCell _ _ _ _ (fun e => ha (by rw [hv, e]; rfl))]; exact hh, r⟩

theorem ownsRow_take {w : World} {base : Nat} {e : TypeId} {size g cap n n' : Nat} {xs : List Value} (h : w.ownsRow base e size (.slice (some ⟨g, 0, none⟩) n cap) n xs) (hn : n' ≤ n) :
    w.ownsRow base e size (.slice (some ⟨g, 0, none⟩) n' cap) n' (xs.take (n' * size)) := by
  have hx := h.1
  have hm : n' * size ≤ n * size := Nat.mul_le_mul_right _ hn
  refine ⟨by rw [List.length_take]; omega, ?_⟩
  rcases h.2 with ⟨h0, _⟩ | ⟨g', cap', cur, hv, hg, hh, hnc, hcap, hsz, htake⟩
  · cases h0
  · cases hv
    refine .inr ⟨g, cap, cur, rfl, hg, hh, by omega, hcap, hsz, ?_⟩
    rw [← htake, List.take_take, Nat.min_eq_left hm]

theorem flat_take {α : Type} (f : α → List Value) (sz : Nat) (hf : ∀ x, (f x).length = sz) : ∀ (l : List α) (n : Nat), (l.flatMap f).take (n * sz) = (l.take n).flatMap f
  | [], n => by simp
  | y :: r, 0 => by simp
  | y :: r, n + 1 => by
    rw [List.flatMap_cons, List.take_succ_cons, List.flatMap_cons, ← flat_take f sz hf r n, List.take_append, hf, Nat.succ_mul, Nat.add_sub_cancel, List.take_of_length_le (by rw [hf]; omega)]

set_option maxRecDepth 100000 in
set_option maxHeartbeats 4000000 in
theorem eval_any (A : Option Addr) (cap : Nat) (ts : List Term) (w : World) (hT : Terms w w.heap.size A ts) (hl : ts.length ≤ 1099511627776) (hsz : ∀ t ∈ ts, t.sym.size ≤ 140737488355328) :
    Calls Try.prog 17 #[.slice A ts.length cap] w (EvalPost ts w) := by
  have HT := Lib.hid hT
  have HZ := Lib.hid hsz
  have HC := fun (W : World) (h : Terms W W.heap.size A ts) => check_any A cap ts W h (by unfold maxLen; omega) (fun t ht => Nat.le_trans (hsz t ht) (by unfold maxLen; omega))
  have HCC := Lib.hid HC
  clear hT hsz HC
  by_cases hc : checkF ts = 0
  · go_enter Try.func17, Try.ntmps17
    go_wp2_with fail
    refine (HCC.out _ ?_).mono ?_
    · exact (SL.below HT.out ((Below.refl _ _).alloc (Nat.le_refl _) _)).more (by simp)
    rintro e w1 ⟨rfl, hb1⟩
    have hs1 := hb1.size
    simp at hs1
    obtain ⟨k0, f0⟩ := bat hb1 (b := w.heap.size) (by simp)
    have hB1 : Below w.heap.size w w1 := ((Below.refl _ _).alloc (Nat.le_refl _) _).trans (hb1.mono (by simp))
    have q0 : w1.cell? ⟨w.heap.size, 0, none⟩ = some (.int .i64 0) := by rw [k0]; simp [go_sem]
    have q1 : w1.cell? ⟨w.heap.size, 1, none⟩ = some (.string ⟨#[]⟩) := by rw [k0]; simp [go_sem]
    have q2 : w1.cell? ⟨w.heap.size, 2, none⟩ = some (.string ⟨#[]⟩) := by rw [k0]; simp [go_sem]
    have fz : ∀ o, w1.frozen? ⟨w.heap.size, o, none⟩ = false := fun o => by rw [f0]; simp [go_sem]
    clear hb1 k0 f0
    have hc0 : (checkF ts != 0) = false := by simpa using hc
    have HF : Hid (formF 0 ts = 0) := checkF_form hc
    have HE : Hid (evalAll ts = evalF [] ts) := show _ = _ by rw [evalAll, if_pos hc]
    clear hc
    go_wp2_with fail
    go_loopw [5, 19] (fun sv i wr => ∃ (k : Nat) (vs : List Val) (A' : Option Addr) (c' : Nat), k ≤ ts.length ∧ i = .int .i64 k ∧ sv = .slice A' vs.length c' ∧ vs.length ≤ k ∧ wr.ownsRow (w.heap.size + 1) 23 3 (.slice A' vs.length c') vs.length (vs.flatMap Val.cells) ∧ Hid (formF vs.length (ts.drop k) = 0) ∧ Hid (evalF vs (ts.drop k) = evalF [] ts) ∧ Hid (∀ v ∈ vs, v.le 140737488355328) ∧ Below (w.heap.size + 1) w1 wr) (fun _ i _ => ts.length - (intOf i).toNat)
    case atStart => exact ⟨0, [], none, 0, Nat.zero_le _, rfl, rfl, Nat.le_refl _, World.ownsRow_nil _ _ _ _, HF, show _ = _ by simp, show ∀ v ∈ _, _ from fun v hv => (List.not_mem_nil hv).elim, Below.refl _ _⟩
    case round =>
      obtain ⟨k, vs, A', c', hk, rfl, rfl, hvk, hown, hf, hev, hle, hb⟩ := hrel
      obtain ⟨kk0, ff0⟩ := bat hb (b := w.heap.size) (by omega)
      have r0 := (kk0 0).trans q0
      have r1 := (kk0 1).trans q1
      have r2 := (kk0 2).trans q2
      have rf := fun o => (ff0 o).trans (fz o)
      have HQ : Hid (_ ∧ _ ∧ _ ∧ _) := ⟨q0, q1, q2, fz⟩
      clear kk0 ff0 q0 q1 q2 fz
      have hsz := hb.size
      have hB : Below w.heap.size w wr := hB1.trans (hb.mono (by omega))
      by_cases hlt : k < ts.length
      · obtain ⟨t, ht⟩ : ∃ t, ts[k]? = some t := ⟨_, List.getElem?_eq_getElem hlt⟩
        have Ht := Lib.hid ht
        have hz := HZ.out t (List.mem_of_getElem? ht)
        have hd : Hid (ts.drop k = t :: ts.drop (k + 1)) := show _ = _ by rw [List.drop_eq_getElem_cons hlt]; congr 1; rw [List.getElem?_eq_getElem hlt] at ht; injection ht
        clear ht
        obtain ⟨b, off, rfl, -, -⟩ := HT.out.2 (by omega)
        obtain ⟨hbb, c0, c1, c2⟩ := Terms.cells_at (SL.below HT.out (hB1.trans (hb.mono (by omega)))) Ht.out
        obtain ⟨_, tle, hf'⟩ := formF_cons (by have := hf.out; rwa [hd.out] at this)
        have HF' := Lib.hid hf'
        clear hf'
        have tb := takesF_bd t.kind
        obtain ⟨K, hK⟩ : ∃ K : Nat, takesF t.kind = K := ⟨(takesF t.kind).toNat, by omega⟩
        have HK := Lib.hid hK
        have htk : ∀ W, Calls Try.prog 37 #[.int .i64 t.kind] W fun e w' => e = .returned (.int .i64 (K : Int)) ∧ W = w' := fun W => by rw [← hK]; exact takes_any _ _
        have HTK := Lib.hid htk
        rw [hK] at tle tb
        clear htk hK
        go_upto_if 32 with (go_at_call 37; refine (HTK.out _).mono ?_; rintro e w' ⟨rfl, rfl⟩)
        go_cut [] (fun wx => ∃ v : Val, Hid (evalF (vs.take (vs.length - K) ++ [v]) (ts.drop (k + 1)) = evalF [] ts) ∧ Hid (v.le 140737488355328) ∧ wx.cell? ⟨wr.heap.size + 1, 0, none⟩ = some (.int .i64 v.add) ∧ wx.cell? ⟨wr.heap.size + 1, 1, none⟩ = some (.string v.plus) ∧ wx.cell? ⟨wr.heap.size + 1, 2, none⟩ = some (.string v.minus) ∧ Below (w.heap.size + 1) w1 wx ∧ wr.heap.size + 2 ≤ wx.heap.size ∧ wx.ownsRow (w.heap.size + 1) 23 3 (.slice A' vs.length c') vs.length (vs.flatMap Val.cells))
        case first =>
          rcases Nat.eq_zero_or_pos K with h0 | h0
          · subst h0
            go_wp2_with fail
            go_meet
            refine ⟨⟨t.n, t.sym, emp⟩, ?_, ⟨hz, Nat.zero_le _⟩, by simp [go_sem], by simp [go_sem], by simp [go_sem, emp], (by ((repeat (first | with_reducible refine Below.drew ?_ | (with_reducible refine Below.alloc ?_ ?_ _; rotate_left; (focus (first | (simp; done) | (simp; omega) | omega))) | (with_reducible refine Below.setCell ?_ ?_ _; rotate_left; (focus (first | (simp; done) | (simp; omega) | omega))))); (first | with_reducible exact Below.refl _ _ | with_reducible assumption))), by simp, (hown.alloc _).alloc _⟩
            show evalF (vs.take (vs.length - 0) ++ [_]) _ = _
            rw [Nat.sub_zero, List.take_length, ← evalF_leaf (by simpa using HK.out), ← hd.out]
            exact hev.out
          · have h0' : (0 : Int) < K := by omega
            go_wp2_with fail
            refine (apply_any t.kind (by rw [HK.out]; omega) A' vs.length c' vs _ (SL.of_own ((hown.alloc _).alloc _)) rfl (by rw [HK.out]; omega) (by unfold maxLen; omega) hle.out).mono ?_
            rintro e w2 ⟨r, x, hr, rfl, hb2⟩
            have Hr := Lib.hid hr
            have hs2 := hb2.size
            simp at hs2
            obtain ⟨kv, fv⟩ := bat hb2 (b := wr.heap.size + 1) (by simp)
            have rle : r.le 140737488355328 := by
              have h1 := applyF_le t.kind (a := vs.getD (vs.length - 2) zeroV) (b := vs.getD (vs.length - 1) zeroV) (k := 140737488355328) (getD_le hle.out) (getD_le hle.out)
              rwa [hr] at h1
            have hown2 := ownsRow_below ((hown.alloc (.cells #[.int .i64 t.kind, .int .i64 t.n, .string t.sym] 57)).alloc (.cells #[.int .i64 t.n, .string t.sym, .string ⟨#[]⟩] 23)) hb2 (fun g hg => (((hown.alloc _).alloc _).lt g hg).2)
            have hB2 : Below (w.heap.size + 1) w1 w2 := ((by ((repeat (first | with_reducible refine Below.drew ?_ | (with_reducible refine Below.alloc ?_ ?_ _; rotate_left; (focus (first | (simp; done) | (simp; omega) | omega))) | (with_reducible refine Below.setCell ?_ ?_ _; rotate_left; (focus (first | (simp; done) | (simp; omega) | omega))))); (first | with_reducible exact Below.refl _ _ | with_reducible assumption))) : Below (w.heap.size + 1) w1 ((wr.alloc (.cells #[.int .i64 t.kind, .int .i64 t.n, .string t.sym] 57)).alloc (.cells #[.int .i64 t.n, .string t.sym, .string ⟨#[]⟩] 23))).trans (hb2.mono (by simp; omega))
            obtain ⟨kw, fw⟩ := bat hB2 (b := w.heap.size) (by omega)
            have v0 := (kw 0).trans HQ.out.1
            have v1 := (kw 1).trans HQ.out.2.1
            have v2 := (kw 2).trans HQ.out.2.2.1
            have vf := fun o => (fw o).trans (HQ.out.2.2.2 o)
            have u0 : w2.cell? ⟨wr.heap.size + 1, 0, none⟩ = some (.int .i64 t.n) := by rw [kv]; simp [go_sem]
            have u1 : w2.cell? ⟨wr.heap.size + 1, 1, none⟩ = some (.string t.sym) := by rw [kv]; simp [go_sem]
            have u2 : w2.cell? ⟨wr.heap.size + 1, 2, none⟩ = some (.string ⟨#[]⟩) := by rw [kv]; simp [go_sem]
            have uf : ∀ o, w2.frozen? ⟨wr.heap.size + 1, o, none⟩ = false := fun o => by rw [fv]; simp [go_sem]
            clear kw fw kv fv
            have RL := Lib.hid rle
            have hne9 : (Value.slice A' vs.length c').ownBlock ≠ some (wr.heap.size + 1) := fun h => by have := (hown.lt _ h).2; omega
            clear hr hb2 rle
            by_cases hx0 : x = 0
            · subst hx0
              go_wp2_with fail
              go_meet
              refine ⟨r, ?_, RL.out, by simp [go_sem, u0, u1, u2], by simp [go_sem, u0, u1, u2], by simp [go_sem, u0, u1, u2], (by ((repeat (first | with_reducible refine Below.drew ?_ | (with_reducible refine Below.alloc ?_ ?_ _; rotate_left; (focus (first | (simp; done) | (simp; omega) | omega))) | (with_reducible refine Below.setCell ?_ ?_ _; rotate_left; (focus (first | (simp; done) | (simp; omega) | omega))))); (first | with_reducible exact Below.refl _ _ | with_reducible assumption))), by simp; omega, ?_⟩
              · show _ = _
                rw [← hev.out, hd.out, evalF_op (by rw [HK.out]; omega) Hr.out, HK.out]; rfl
              · exact own_far (own_far (own_far hown2 hne9) hne9) hne9
            · have hxne : (x != 0) = true := by simpa using hx0
              have hB3 : Below w.heap.size w w2 := hB1.trans (hB2.mono (by omega))
              go_wp2_with fail
              exact bodyPost_ret (v := .tuple #[.agg #[.int .i64 0, .string ⟨#[]⟩, .string ⟨#[]⟩], .int .i64 x]) (by simp [results, Try.results17, go_sem, v0, v1, v2]) rfl (EvalPost.mk (by rw [HE.out, ← hev.out, hd.out, evalF_bad (by rw [HK.out]; omega) hx0 Hr.out]; rfl) (by ((repeat (first | with_reducible refine Below.drew ?_ | (with_reducible refine Below.alloc ?_ ?_ _; rotate_left; (focus (first | (simp; done) | (simp; omega) | omega))) | (with_reducible refine Below.setCell ?_ ?_ _; rotate_left; (focus (first | (simp; done) | (simp; omega) | omega))))); (first | with_reducible exact Below.refl _ _ | with_reducible assumption))))
        case rest =>
          obtain ⟨v, hv, hvl, b0, b1, b2, hbx, hsx, hox⟩ := hcut
          obtain ⟨i0, hi0, hz0, hz1, hz2⟩ := info_parts val_info
          rcases own_two hox with ⟨rfl, rfl, hn0⟩ | ⟨g, rfl, hgB, hgx⟩
          · have hvs : vs = [] := List.eq_nil_of_length_eq_zero hn0
            subst hvs
            obtain rfl : K = 0 := by simp at tle; omega
            have hw : IntKind.i64.wrap 0 = 0 := by rw [IntKind.wrap_i64]; omega
            go_wp2_with fail
            go_region_held3 (fun w' => w'.cell? ⟨wr.heap.size + 1, 0, none⟩ = some (.int .i64 v.add) ∧ w'.cell? ⟨wr.heap.size + 1, 1, none⟩ = some (.string v.plus) ∧ w'.cell? ⟨wr.heap.size + 1, 2, none⟩ = some (.string v.minus)) (first | (go_keep; done) | (go_split_ands; refine ⟨?_, ?_, ?_⟩ <;> (rw [hgrow.cell_far _ (by simp; omega) (by first | (simp [Value.ownBlock]; done) | (simp [Value.ownBlock]; omega))]; first | assumption | go_keep)))
              ((refine step_append_lies _ (by rfl) _ _ _ (by rfl) (w.heap.size + 1) 23 i0 _ 3 40 Try.underlying66 hi0 hz0 hz1 hz2 rfl (by omega) (.slice none 0 0) 0 [] (by rfl) (World.ownsRow_nil _ _ _ _) ⟨wc.heap.size, 0, none⟩ 1 1 [.int .i64 v.add, .string v.plus, .string v.minus] (by rfl) (by rfl) (World.news_of_block (cs := #[.int .i64 v.add, .string v.plus, .string v.minus]) (t := 23) (fr := (0, 0)) (heap_alloc_new wc _)) (by simp [Value.oneCell']) (by omega) (by simp only [maxLen]; omega) (by omega) (by simp; omega) (wc.heap.size + 1) (by simp) ?_; intro gg cap2 w3 hown3 hgrow hat hlt3))
            go_wp2_with fail
            go_roundw
            case rel =>
              refine ⟨k + 1, [v], some ⟨gg, 0, none⟩, cap2, by omega, by go_num, rfl, by simp, by simpa [Val.cells] using hown3, ?_, by simpa using hv, ?_, ?_⟩
              · show formF _ _ = 0
                rw [← HF'.out, HK.out]
                congr 1
              · intro u hu
                rw [List.mem_singleton.1 hu]; exact hvl.out
              · exact ((hbx.alloc (by omega) _).drew).grown hgrow (by simp; omega) (fun q hq => by simp [Value.ownBlock] at hq)
            case measure => simp [intOf]; omega
          · have hot := ownsRow_take (n' := vs.length - K) hox (by omega)
            rw [flat_take Val.cells 3 (fun _ => rfl)] at hot
            have hw : IntKind.i64.wrap ((vs.length : Int) - (K : Int)) = ((vs.length - K : Nat) : Int) := by rw [IntKind.wrap_i64]; omega
            have hcl := own_cap hox
            have hg9 : g < wr.heap.size := (hown.lt g rfl).2
            have hcl' : ((vs.length - K : Nat) : Int) ≤ (c' : Int) := by omega
            have hcl0 : (0 : Int) ≤ ((vs.length - K : Nat) : Int) := by omega
            go_wp2_with fail
            go_region_held3 (fun w' => w'.cell? ⟨wr.heap.size + 1, 0, none⟩ = some (.int .i64 v.add) ∧ w'.cell? ⟨wr.heap.size + 1, 1, none⟩ = some (.string v.plus) ∧ w'.cell? ⟨wr.heap.size + 1, 2, none⟩ = some (.string v.minus)) (first | (go_keep; done) | (go_split_ands; refine ⟨?_, ?_, ?_⟩ <;> (rw [hgrow.cell_far _ (by simp; omega) (by first | (simp [Value.ownBlock]; done) | (simp [Value.ownBlock]; omega))]; first | assumption | go_keep)))
              ((refine step_append_lies _ (by rfl) _ _ _ (by rfl) (w.heap.size + 1) 23 i0 _ 3 40 Try.underlying66 hi0 hz0 hz1 hz2 rfl (by omega) (.slice (some ⟨g, 0, none⟩) (vs.length - K) c') (vs.length - K) ((vs.take (vs.length - K)).flatMap Val.cells) (by rfl) ((hot.alloc _).drew) ⟨wc.heap.size, 0, none⟩ 1 1 [.int .i64 v.add, .string v.plus, .string v.minus] (by rfl) (by rfl) (World.news_of_block (cs := #[.int .i64 v.add, .string v.plus, .string v.minus]) (t := 23) (fr := (0, 0)) (heap_alloc_new wc _)) (by simp [Value.oneCell']) (by omega) (by simp only [maxLen]; omega) (by omega) (by simp; omega) (wc.heap.size + 1) (by simp) ?_; intro gg cap2 w3 hown3 hgrow hat hlt3))
            go_wp2_with fail
            go_roundw
            case rel =>
              refine ⟨k + 1, vs.take (vs.length - K) ++ [v], some ⟨gg, 0, none⟩, cap2, by omega, by go_num, ?_, ?_, ?_, ?_, hv, ?_, ?_⟩
              · rw [List.length_append, List.length_take, Nat.min_eq_left (by omega)]; rfl
              · rw [List.length_append, List.length_take, Nat.min_eq_left (by omega)]; show vs.length - K + 1 ≤ k + 1; omega
              · rw [List.length_append, List.length_take, Nat.min_eq_left (by omega), List.flatMap_append]; simpa [Val.cells] using hown3
              · show formF _ _ = 0
                rw [List.length_append, List.length_take, Nat.min_eq_left (by omega), ← HF'.out, HK.out]
                congr 1
                simp; omega
              · intro u hu
                rcases List.mem_append.1 hu with h1 | h1
                · exact hle.out u (List.mem_of_mem_take h1)
                · rw [List.mem_singleton.1 h1]; exact hvl.out
              · exact ((hbx.alloc (by omega) _).drew).grown hgrow (by simp; omega) (fun q hq => by simp [Value.ownBlock] at hq; omega)
            case measure => simp [intOf]; omega
      · have hd : Hid (ts.drop k = []) := show _ = _ by rw [List.drop_eq_nil_of_le (by omega)]
        have h1 : vs.length = 1 := by have := formF_nil (by have := hf.out; rwa [hd.out] at this); omega
        obtain ⟨v, rfl⟩ : ∃ v, vs = [v] := by
          match vs, h1 with
          | [v], _ => exact ⟨v, rfl⟩
        have hres : Hid (evalAll ts = (v, 0)) := show _ = _ by rw [HE.out, ← hev.out, hd.out]; rfl
        rcases own_two hown with ⟨_, _, h0⟩ | ⟨g, rfl, hgB, hgx⟩
        · cases h0
        · have e0 : wr.cell? ⟨g, 0, none⟩ = some (.int .i64 v.add) := by rw [hown.cellAt 0 (by simp)]; rfl
          have e1 : wr.cell? ⟨g, 1, none⟩ = some (.string v.plus) := by rw [hown.cellAt 1 (by simp)]; rfl
          have e2 : wr.cell? ⟨g, 2, none⟩ = some (.string v.minus) := by rw [hown.cellAt 2 (by simp)]; rfl
          go_wp2_with fail
          exact bodyPost_ret (v := .tuple #[.agg #[.int .i64 v.add, .string v.plus, .string v.minus], .int .i64 0]) (by simp [results, Try.results17, go_sem, r0, r1, r2]) rfl (EvalPost.mk hres.out (by ((repeat (first | with_reducible refine Below.drew ?_ | (with_reducible refine Below.alloc ?_ ?_ _; rotate_left; (focus (first | (simp; done) | (simp; omega) | omega))) | (with_reducible refine Below.setCell ?_ ?_ _; rotate_left; (focus (first | (simp; done) | (simp; omega) | omega))))); (first | with_reducible exact Below.refl _ _ | with_reducible assumption))))
  · have hne : (checkF ts != 0) = true := by simpa using hc
    have hx : Hid (evalAll ts = (⟨0, ⟨#[]⟩, ⟨#[]⟩⟩, checkF ts)) := show _ = _ by rw [evalAll, if_neg hc]; rfl
    go_enter Try.func17, Try.ntmps17
    go_wp2_with fail
    refine (HCC.out _ ?_).mono ?_
    · exact (SL.below HT.out ((Below.refl _ _).alloc (Nat.le_refl _) _)).more (by simp)
    rintro e w1 ⟨rfl, hb1⟩
    have hs1 := hb1.size
    simp at hs1
    obtain ⟨k0, f0⟩ := bat hb1 (b := w.heap.size) (by simp)
    have hB1 : Below w.heap.size w w1 := ((Below.refl _ _).alloc (Nat.le_refl _) _).trans (hb1.mono (by simp))
    go_wp2_with fail
    exact bodyPost_ret (v := .tuple #[.agg #[.int .i64 0, .string ⟨#[]⟩, .string ⟨#[]⟩], .int .i64 (checkF ts)]) (by simp [results, Try.results17, go_sem, k0]) rfl (EvalPost.mk hx.out (by ((repeat (first | with_reducible refine Below.drew ?_ | (with_reducible refine Below.alloc ?_ ?_ _; rotate_left; (focus (first | (simp; done) | (simp; omega) | omega))) | (with_reducible refine Below.setCell ?_ ?_ _; rotate_left; (focus (first | (simp; done) | (simp; omega) | omega))))); (first | with_reducible exact Below.refl _ _ | with_reducible assumption))))

end Go.Proofs.Ythhlghoeapjagaa
