/- ExprEvals: for every terms the law returns true and changes nothing that was there. -/
import Derived.Test.YthhlghoeapjagaaEi
import Derived.Test.YthhlghoeapjagaaRi
import Derived.Test.YthhlghoeapjagaaS2
import Derived.Test.YthhlghoeapjagaaS5
import Derived.Test.YthhlghoeapjagaaS6
set_option linter.unusedVariables false
set_option linter.unusedSimpArgs false
namespace Go.Proofs.Ythhlghoeapjagaa
open Go.RowKit

theorem TermsC.below {w w' : World} {A : Option Addr} {ts : List Term} {cap : Nat} (h : TermsC w A ts cap) (hb : Below w.heap.size w w') : TermsC w' A ts cap := by
  obtain ⟨hT, hc, h⟩ := h
  exact ⟨SL.more (SL.below hT hb) hb.size, hc, h.imp id fun ⟨b, off, e, h⟩ => ⟨b, off, e, Nat.lt_of_lt_of_le h hb.size⟩⟩

theorem syms_any (A : Option Addr) (cap : Nat) (ts : List Term) (w : World) (hT : Terms w w.heap.size A ts) (hl : ts.length ≤ 1000000) (hsz : ∀ t ∈ ts, t.sym.size ≤ maxLen) :
    Calls Try.prog 21 #[.slice A ts.length cap] w fun e W' => ∃ B v, e = .returned (.func (.func 58) #[] #[.pointer (some ⟨B, 0, none⟩)]) ∧
      Boxed W' B 46 v ∧ Strs W'.heap.size W' v (symsF ts) ∧ Below w.heap.size w W' :=
  (callsIn_wide.1 (syms_in A cap ts w hT hl hsz)).mono fun e W' ⟨B, v, he, _, hv, hr, hb⟩ => ⟨B, v, he, hv, .of_row hr, hb⟩

theorem rsyms_any (A : Option Addr) (cap : Nat) (ts : List Term) (w : World) (hT : Terms w w.heap.size A ts) (hl : ts.length ≤ 1000000) (hsz : ∀ t ∈ ts, t.sym.size ≤ maxLen) :
    Calls Try.prog 26 #[.slice A ts.length cap] w fun e W' => ∃ v, e = .returned v ∧ Strs W'.heap.size W' v (symsF ts) ∧ Below w.heap.size w W' :=
  (callsIn_wide.1 (rsyms_in A cap ts w hT hl hsz)).mono fun e W' ⟨v, he, hr, hb⟩ => ⟨v, he, .of_row hr, hb⟩

theorem Strs.more {n n' : Nat} {W : World} {v : Value} {xs : List ByteArray} (h : Strs n W v xs) (hn : n ≤ n') : Strs n' W v xs := by
  obtain ⟨A, cap, e, h⟩ := h
  exact ⟨A, cap, e, fun hx => by obtain ⟨b, off, e, hl, hc⟩ := h hx; exact ⟨b, off, e, by omega, hc⟩⟩

theorem symsF_len (ts : List Term) : (symsF ts).length ≤ ts.length := by
  unfold symsF; split
  · exact syF_len ts
  · simp

theorem below_ev {B : Nat} {w0 W w2 : World} (h : Below W.heap.size W w2) (h0 : Below B w0 W) (hB : B ≤ W.heap.size) : Below B w0 w2 := h0.trans (h.mono hB)

theorem func_eql (f : Fn) (c b : Array Value) (w : World) : (binOp .eql 41 (.func f c b) .nilFunc).run Try.prog w = .ok (.bool false) w := by
  have h := Try.underlying41
  have e : ∀ d, (Op.equalIn (d + 1) 41 (.func f c b) .nilFunc).run Try.prog w = .ok false w := fun d => by simp [Op.equalIn, run_underlying h]
  have e2 : (Op.equal 41 (.func f c b) .nilFunc).run Try.prog w = .ok false w := e 9999
  simp only [binOp]
  simp [e2]
attribute [local go_sem] func_eql

set_option maxRecDepth 100000 in
set_option maxHeartbeats 4000000 in
theorem evals_walk (A : Option Addr) (cap : Nat) (ts : List Term) (w : World) (hT : TermsC w A ts cap) (hl : ts.length ≤ maxLen) (hsz : ∀ t ∈ ts, t.sym.size ≤ 140737488355328) (h64 : ∀ t ∈ ts, -9223372036854775808 ≤ t.n ∧ t.n < 9223372036854775808) :
    Calls Try.prog 5 #[.slice A ts.length cap] w fun e w' => e = .returned (.bool true) ∧ Below w.heap.size w w' := by
  have hszm : ∀ t ∈ ts, t.sym.size ≤ maxLen := fun t ht => by have := hsz t ht; unfold maxLen; omega
  have hob : Ts.ob ts := by rw [Ts_ob]; exact ⟨hl, hszm⟩
  have hob2 : T64.ob ts := ⟨hob, h64⟩
  have HF := Lib.hid (fun W (h : Below w.heap.size w W) => few_any (hT.below h) hob)
  have HTX := Lib.hid (fun W (h : Below w.heap.size w W) => text_any (hT.below h) hob2)
  have HRX := Lib.hid (fun W (h : Below w.heap.size w W) => rtext_any (hT.below h) hob2)
  have HE := Lib.hid (fun (hq : ts.length ≤ 1000000) W (h : Below w.heap.size w W) => eval_any A cap ts W (hT.below h).1 (by omega) hsz)
  have HRE := Lib.hid (fun (hq : ts.length ≤ 1000000) W (h : Below w.heap.size w W) => reval_any A cap ts W (hT.below h).1 (by omega) hszm)
  have HC := Lib.hid (fun W (h : Below w.heap.size w W) => check_any A cap ts W (hT.below h).1 hl hszm)
  have HRC := Lib.hid (fun W (h : Below w.heap.size w W) => rcheck_any A cap ts W (hT.below h).1 hl hszm)
  have HSY := Lib.hid (fun (hq : ts.length ≤ 1000000) W (h : Below w.heap.size w W) => syms_any A cap ts W (hT.below h).1 hq hszm)
  have HRS := Lib.hid (fun (hq : ts.length ≤ 1000000) W (h : Below w.heap.size w W) => rsyms_any A cap ts W (hT.below h).1 hq hszm)
  clear hT hsz hszm hob hob2 h64
  go_enter Try.func5, Try.ntmps5
  go_wp2_with fail
  refine (live_any _).mono ?_
  rintro e w1 ⟨rfl, hB1⟩
  go_wp2_with fail
  refine (HF.out _ hB1).mono ?_
  rintro e w2 ⟨rfl, hb⟩
  have hB2 := below_ev hb hB1 hB1.size
  clear hb
  cases hf : fewF ts with
  | false =>
    go_wp2_with fail
    go_ret
    exact ⟨rfl, hB2⟩
  | true =>
    have h300 : ts.length ≤ 1000000 := by
      rw [fewF, Bool.and_eq_true, decide_eq_true_iff] at hf
      omega
    clear hf HF
    go_wp2_with fail
    refine (HE.out h300 _ hB2).mono ?_
    rintro e w3 ⟨r, x, hr, rfl, hb⟩
    have hB3 := below_ev hb hB2 hB2.size
    have Hr := Lib.hid hr
    clear hb hr
    go_wp2_with fail
    have c30 : (w3.alloc (.cells #[.int .i64 r.add, .string r.plus, .string r.minus] 23)).cell? ⟨w3.heap.size, 0, none⟩ = some (.int .i64 r.add) := by go_simp
    have c31 : (w3.alloc (.cells #[.int .i64 r.add, .string r.plus, .string r.minus] 23)).cell? ⟨w3.heap.size, 1, none⟩ = some (.string r.plus) := by go_simp
    have c32 : (w3.alloc (.cells #[.int .i64 r.add, .string r.plus, .string r.minus] 23)).cell? ⟨w3.heap.size, 2, none⟩ = some (.string r.minus) := by go_simp
    have hBu : Below w.heap.size w (w3.alloc (.cells #[.int .i64 r.add, .string r.plus, .string r.minus] 23)) := hB3.alloc hB3.size _
    have hzu : w3.heap.size < (w3.alloc (.cells #[.int .i64 r.add, .string r.plus, .string r.minus] 23)).heap.size := by simp
    obtain ⟨u3, eu3⟩ : ∃ u3, w3.alloc (.cells #[.int .i64 r.add, .string r.plus, .string r.minus] 23) = u3 := ⟨_, rfl⟩
    rw [eu3] at c30 c31 c32 hBu hzu ⊢
    clear eu3
    obtain ⟨b3, eb3⟩ : ∃ b3, w3.heap.size = b3 := ⟨_, rfl⟩
    rw [eb3] at c30 c31 c32 hzu ⊢
    clear eb3 hB3 w3 hB2 hB1
    refine (HRE.out h300 _ hBu).mono ?_
    rintro e w4 ⟨r', x', hr', rfl, hb⟩
    rw [Hr.out] at hr'
    injection hr' with e1 e2
    subst e1 e2
    have hB4 := below_ev hb hBu hBu.size
    have hz4 : b3 < w4.heap.size := by have := hb.size; omega
    have d30 := (hb.cell (p := ⟨b3, 0, none⟩) hzu).trans c30
    have d31 := (hb.cell (p := ⟨b3, 1, none⟩) hzu).trans c31
    have d32 := (hb.cell (p := ⟨b3, 2, none⟩) hzu).trans c32
    clear hb c30 c31 c32 hBu hzu Hr HRE HE
    go_wp2_with fail
    have c40 : (w4.alloc (.cells #[.int .i64 r.add, .string r.plus, .string r.minus] 23)).cell? ⟨w4.heap.size, 0, none⟩ = some (.int .i64 r.add) := by go_simp
    have c41 : (w4.alloc (.cells #[.int .i64 r.add, .string r.plus, .string r.minus] 23)).cell? ⟨w4.heap.size, 1, none⟩ = some (.string r.plus) := by go_simp
    have c42 : (w4.alloc (.cells #[.int .i64 r.add, .string r.plus, .string r.minus] 23)).cell? ⟨w4.heap.size, 2, none⟩ = some (.string r.minus) := by go_simp
    have hBv : Below w.heap.size w (w4.alloc (.cells #[.int .i64 r.add, .string r.plus, .string r.minus] 23)) := hB4.alloc hB4.size _
    have hbv : Below w4.heap.size w4 (w4.alloc (.cells #[.int .i64 r.add, .string r.plus, .string r.minus] 23)) := (Below.refl _ _).alloc (Nat.le_refl _) _
    have hzv : w4.heap.size < (w4.alloc (.cells #[.int .i64 r.add, .string r.plus, .string r.minus] 23)).heap.size := by simp
    have f30 := (hbv.cell (p := ⟨b3, 0, none⟩) hz4).trans d30
    have f31 := (hbv.cell (p := ⟨b3, 1, none⟩) hz4).trans d31
    have f32 := (hbv.cell (p := ⟨b3, 2, none⟩) hz4).trans d32
    obtain ⟨u4, eu4⟩ : ∃ u4, w4.alloc (.cells #[.int .i64 r.add, .string r.plus, .string r.minus] 23) = u4 := ⟨_, rfl⟩
    rw [eu4] at c40 c41 c42 hBv hzv f30 f31 f32 ⊢
    clear eu4 hbv d30 d31 d32
    obtain ⟨b4, eb4⟩ : ∃ b4, w4.heap.size = b4 := ⟨_, rfl⟩
    rw [eb4] at c40 c41 c42 hzv hz4 ⊢
    have hz3 : b3 < u4.heap.size := by omega
    clear eb4 hB4 w4 u3
    refine (HTX.out _ hBv).mono ?_
    rintro e w5 ⟨rfl, hb5⟩
    have hB5 := below_ev hb5 hBv hBv.size
    go_wp2_with fail
    refine (HRX.out _ hB5).mono ?_
    rintro e w6 ⟨rfl, hb6⟩
    have hB6 := below_ev hb6 hB5 hB5.size
    have hb56 := below_ev hb6 hb5 hb5.size
    clear hB5 hb6 hb5
    go_wp2_with fail
    refine (HSY.out h300 _ hB6).mono ?_
    rintro e w7 ⟨B, v, rfl, hv, hS, hb7⟩
    have hB7 := below_ev hb7 hB6 hB6.size
    have hb57 := below_ev hb7 hb56 hb56.size
    have g30 := (hb57.cell (p := ⟨b3, 0, none⟩) hz3).trans f30
    have g31 := (hb57.cell (p := ⟨b3, 1, none⟩) hz3).trans f31
    have g32 := (hb57.cell (p := ⟨b3, 2, none⟩) hz3).trans f32
    have g40 := (hb57.cell (p := ⟨b4, 0, none⟩) hzv).trans c40
    have g41 := (hb57.cell (p := ⟨b4, 1, none⟩) hzv).trans c41
    have g42 := (hb57.cell (p := ⟨b4, 2, none⟩) hzv).trans c42
    clear hb7 hb56 hb57 f30 f31 f32 c40 c41 c42 hB6 hBv hzv hz4 hz3 HTX HRX HSY w5 w6 u4
    go_wp2_with fail
    refine (HC.out _ hB7).mono ?_
    rintro e w8 ⟨rfl, hb8⟩
    have hB8 := below_ev hb8 hB7 hB7.size
    go_wp2_with fail
    refine (HRC.out _ hB8).mono ?_
    rintro e w8 ⟨rfl, rfl⟩
    go_wp2_with fail
    refine (collect_any B v (symsF ts) _ ((hb8.block _ hv.lt).trans hv) ((hS.below hb8).more hb8.size) (by have := symsF_len ts; omega)).mono ?_
    rintro e w9 ⟨u, rfl, hu, hb9⟩
    have hB9 := below_ev hb9 hB8 hB8.size
    have hSu := Strs.of_row hu
    go_wp2_with fail
    refine (HRS.out h300 _ hB9).mono ?_
    rintro e w10 ⟨u', rfl, hSu', hb10⟩
    have hB10 := below_ev hb10 hB9 hB9.size
    go_wp2_with fail
    refine (eqS_any _ _ _ (symsF ts) _ ((hSu.below hb10).more hb10.size) hSu' (by have := symsF_len ts; omega)).mono ?_
    rintro e w11 ⟨rfl, hb11⟩
    have hB11 := below_ev hb11 hB10 hB10.size
    go_wp2_with fail
    go_ret
    exact ⟨rfl, hB11⟩

end Go.Proofs.Ythhlghoeapjagaa
