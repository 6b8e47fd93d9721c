/- Lines: the tests on bytes, runs, signs. Lines: bytes within quotes. Lines: quotes are read. Lines: strconv's ParseUint within. Lines: the error of strconv.ParseUint. Lines: functions that look at one number of their caller's; numbers. Lines: numbers. Lines: a token is read. Lines: all tokens of a line. Lines: Lex; which tokens may be; tokens held against each other. -/
import Derived.Test.YtnhbidpdadkcjaaGreatDoorJ11
import Derived.Test.YtnhbidpdadkcjaaGreatDoorJ29
import Derived.Test.YtnhbidpdadkcjaaGreatDoorJ12
import Derived.Test.YtnhbidpdadkcjaaGreatDoorJ01
import Derived.Lib.Bytealg
import Derived.Laws.BitsLemmas
import Derived.Shelf.Pu.RangeError
import Derived.Lib.IfaceEq
/-! ## L1 -/
set_option linter.unusedVariables false
set_option linter.unusedSimpArgs false
namespace Go.Proofs.YtnhbidpdadkcjaaGreatDoor.Ly
open Go.RowKit

set_option maxHeartbeats 400000 in
theorem Hg (n : Int) (w : World) :
    Calls Tryz.prog 147 #[.int .u8 n] w fun e w' => e = .returned (.bool (aO n)) ∧ w = w' := by
  go_enter Tryz.func147, Tryz.ntmps147
  go_wp2
  all_goals (go_ret; refine ⟨gG ?_, rfl⟩; rw [Bool.eq_iff_iff]; simp [aO]; try omega)

set_option maxHeartbeats 400000 in
theorem Jh (n : Int) (w : World) :
    Calls Tryz.prog 145 #[.int .u8 n] w fun e w' => e = .returned (.bool (hZ n)) ∧ w = w' := by
  go_enter Tryz.func145, Tryz.ntmps145
  go_wp2
  all_goals (go_ret; refine ⟨gG ?_, rfl⟩; rw [Bool.eq_iff_iff]; simp [hZ]; try omega)

theorem Cc (args : Array Value) (w : World) : (callFunc 147 args).run Tryz.prog w = .ok (.enter 147 args) w := by go_simp
theorem Je (s : ByteArray) (w : World) (hs : s.size ≤ maxLen) :
    Calls Tryz.prog 117 #[.string s, .func (.func 147) #[] #[]] w fun e w' => e = .returned (.int .i64 (sF aO s.data.toList)) ∧ w = w' :=
  GF _ _ Cc Hg s w hs

theorem lg (g : Int → Bool) : ∀ l : List UInt8, sF g l = bO g (l.map fun b => (b.toNat : Int))
  | [] => rfl
  | c :: l => by rw [List.map_cons, gH, ← lg g l]; unfold sF; rw [List.takeWhile_cons]; split <;> simp [Nat.add_comm, *]

/-! ### Bytes -/
theorem HI (args : Array Value) (w : World) : (callFunc 116 args).run Tryz.prog w = .ok (.enter 116 args) w := by go_simp
theorem KI (args : Array Value) (w : World) : (callFunc 165 args).run Tryz.prog w = .ok (.enter 165 args) w := by go_simp
theorem KN (args : Array Value) (w : World) : (callFunc 145 args).run Tryz.prog w = .ok (.enter 145 args) w := by go_simp
def Gm : bi Tryz.prog 116 := CD _ HI (bq .u8) (fun _ => True) (fun c => bv (fU c)) (fun _ => rfl) fun s hs M w v _ hv => by
  obtain rfl : v = .int .u8 s := hv
  exact (mR s w).mono fun e w' ⟨h1, h2⟩ => ⟨⟨_, h1, rfl⟩, h2 ▸ .refl _ _⟩
theorem Rv {id : Nat} {h : ah} {args : List AV} : Gm.run id h args = bT (ba (bq .u8) (fun _ => True)) (fun c => .ret (bv (fU c))) h args := rfl
theorem Ru {id : Nat} {h : ah} {args : List AV} : Gm.pan id h args = bU (ba (bq .u8) (fun _ => True)) (fun c => .ret (bv (fU c))) h args := rfl
def Ed : bi Tryz.prog 165 := CD _ KI (bq .u8) (fun _ => True) (fun c => bv (lS c)) (fun _ => rfl) fun s hs M w v _ hv => by
  obtain rfl : v = .int .u8 s := hv
  exact (ul s w).mono fun e w' ⟨h1, h2⟩ => ⟨⟨_, h1, rfl⟩, h2 ▸ .refl _ _⟩
theorem mB {id : Nat} {h : ah} {args : List AV} : Ed.run id h args = bT (ba (bq .u8) (fun _ => True)) (fun c => .ret (bv (lS c))) h args := rfl
theorem mA {id : Nat} {h : ah} {args : List AV} : Ed.pan id h args = bU (ba (bq .u8) (fun _ => True)) (fun c => .ret (bv (lS c))) h args := rfl
def Nn : bi Tryz.prog 118 := CD _ vn (bq .u8) (fun _ => True) (fun c => bv (dc c)) (fun _ => rfl) fun s hs M w v _ hv => by
  obtain rfl : v = .int .u8 s := hv
  exact (Ab s w).mono fun e w' ⟨h1, h2⟩ => ⟨⟨_, h1, rfl⟩, h2 ▸ .refl _ _⟩
theorem Tb {id : Nat} {h : ah} {args : List AV} : Nn.run id h args = bT (ba (bq .u8) (fun _ => True)) (fun c => .ret (bv (dc c))) h args := rfl
theorem Ta {id : Nat} {h : ah} {args : List AV} : Nn.pan id h args = bU (ba (bq .u8) (fun _ => True)) (fun c => .ret (bv (dc c))) h args := rfl
def Ft : bi Tryz.prog 145 := CD _ KN (bq .u8) (fun _ => True) (fun c => bv (hZ c)) (fun _ => rfl) fun s hs M w v _ hv => by
  obtain rfl : v = .int .u8 s := hv
  exact (Jh s w).mono fun e w' ⟨h1, h2⟩ => ⟨⟨_, h1, rfl⟩, h2 ▸ .refl _ _⟩
theorem rk {id : Nat} {h : ah} {args : List AV} : Ft.run id h args = bT (ba (bq .u8) (fun _ => True)) (fun c => .ret (bv (hZ c))) h args := rfl
theorem rj {id : Nat} {h : ah} {args : List AV} : Ft.pan id h args = bU (ba (bq .u8) (fun _ => True)) (fun c => .ret (bv (hZ c))) h args := rfl

theorem Ra (args : Array Value) (w : World) : (callFunc 249 args).run Tryz.prog w = .ok (.enter 249 args) w := by go_simp
def Ep : bi Tryz.prog 249 :=
  mk1 _ _ _ Tryz.func249 rfl Ra (bq .u8) ((fun c => 0 ≤ c ∧ c ≤ 255)) ((fun c => .ret (iv (bw c)))) (by rw [Tryz.ntmps249]; decide) (fun c hc => by
  refine aa (ctx := [⟨_, Ed⟩]) 4000 ?_
  rw [Tryz.ntmps249, Tryz.results249]
  simp only [Tryz.f249, Option.getD_some, aC]
  by_cases h1 : 48 ≤ c ∧ c ≤ 57
  · have hd : lS c = true := by simp [lS, h1]
    have e1 : IntKind.u8.wrap (c - 48) = c - 48 := by rw [IntKind.wrap_u8]; omega
    have e2 : IntKind.i64.wrap (c - 48) = c - 48 := by rw [IntKind.wrap_i64]; omega
    have e3 : bw c = c - 48 := by unfold bw; rw [if_pos h1]
    simp only [go_sem, mB, mA, hd, e1, e2, e3]
  · have hd : lS c = false := by simp [lS]; omega
    by_cases h2 : 97 ≤ c
    · by_cases h3 : c ≤ 102
      · have e1 : IntKind.u8.wrap (c - 97) = c - 97 := by rw [IntKind.wrap_u8]; omega
        have e2 : IntKind.i64.wrap (c - 97) = c - 97 := by rw [IntKind.wrap_i64]; omega
        have e4 : IntKind.i64.wrap (c - 97 + 10) = c - 97 + 10 := by rw [IntKind.wrap_i64]; omega
        have e3 : bw c = c - 97 + 10 := by unfold bw; rw [if_neg h1, if_pos ⟨h2, h3⟩]; omega
        simp only [go_sem, mB, mA, hd, h2, h3, e1, e2, e4, e3]
      · have h5 : (65 : Int) ≤ c := by omega
        have h6 : ¬ c ≤ 70 := by omega
        have e3 : bw c = 16 := by unfold bw; rw [if_neg h1, if_neg (by omega), if_neg (by omega)]
        simp only [go_sem, mB, mA, hd, h2, h3, h5, h6, e3]
    · by_cases h5 : 65 ≤ c
      · by_cases h6 : c ≤ 70
        · have e1 : IntKind.u8.wrap (c - 65) = c - 65 := by rw [IntKind.wrap_u8]; omega
          have e2 : IntKind.i64.wrap (c - 65) = c - 65 := by rw [IntKind.wrap_i64]; omega
          have e4 : IntKind.i64.wrap (c - 65 + 10) = c - 65 + 10 := by rw [IntKind.wrap_i64]; omega
          have e3 : bw c = c - 65 + 10 := by unfold bw; rw [if_neg h1, if_neg (by omega), if_pos ⟨h5, h6⟩]; omega
          simp only [go_sem, mB, mA, hd, h2, h5, h6, e1, e2, e4, e3]
        · have e3 : bw c = 16 := by unfold bw; rw [if_neg h1, if_neg (by omega), if_neg (by omega)]
          simp only [go_sem, mB, mA, hd, h2, h5, h6, e3]
      · have e3 : bw c = 16 := by unfold bw; rw [if_neg h1, if_neg (by omega), if_neg (by omega)]
        simp only [go_sem, mB, mA, hd, h2, h5, e3])
theorem tt {id : Nat} {h : ah} {args : List AV} : (Ep).run id h args = bT (ba (bq .u8) ((fun c => 0 ≤ c ∧ c ≤ 255))) ((fun c => .ret (iv (bw c)))) h args := rfl
theorem tr {id : Nat} {h : ah} {args : List AV} : (Ep).pan id h args = bU (ba (bq .u8) ((fun c => 0 ≤ c ∧ c ≤ 255))) ((fun c => .ret (iv (bw c)))) h args := rfl

/-! ### Runs -/
def Rj (f : FuncId) : Int → Bool := if f = 118 then dc else aO
theorem Re (args : Array Value) (w : World) : (callFunc 117 args).run Tryz.prog w = .ok (.enter 117 args) w := by go_simp
def TW : bi Tryz.prog 117 := Lv _ Re bx tFn (fun s f => s.size ≤ maxLen ∧ (f = 118 ∨ f = 147)) (fun s f => iv (bO (Rj f) (ab s))) (fun _ _ => rfl) fun s f hs M w u v _ hu hv => by
  obtain rfl : u = .string s := hu
  obtain rfl : v = .func (.func f) #[] #[] := hv
  obtain ⟨hs, rfl | rfl⟩ := hs
  · refine (uP s w hs).mono fun e w' ⟨h1, h2⟩ => ⟨⟨_, h1, ?_⟩, h2 ▸ .refl _ _⟩
    rw [lg]; rfl
  · refine (Je s w hs).mono fun e w' ⟨h1, h2⟩ => ⟨⟨_, h1, ?_⟩, h2 ▸ .refl _ _⟩
    rw [lg]; rfl
theorem run_run {id : Nat} {h : ah} {args : List AV} : TW.run id h args = bT (cg bx tFn (fun s f => s.size ≤ maxLen ∧ (f = 118 ∨ f = 147))) (fun x => .ret (iv (bO (Rj x.2) (ab x.1)))) h args := rfl
theorem run_pan {id : Nat} {h : ah} {args : List AV} : TW.pan id h args = bU (cg bx tFn (fun s f => s.size ≤ maxLen ∧ (f = 118 ∨ f = 147))) (fun x => .ret (iv (bO (Rj x.2) (ab x.1)))) h args := rfl

/-! ### Names -/
theorem nameB_nameL (s : ByteArray) : vA s = fI (ab s) := by
  have hl : (ab s).length = s.size := aW s
  rcases Nat.eq_zero_or_pos s.size with h | h
  · rw [← uA h]
    unfold fI
    rw [hl, h]; rfl
  · rw [pD h]
    unfold fI
    rw [hl, lg]
    have h0 : bAt (ab s) 0 = (s[0].toNat : Int) := by
      have := d8 h
      rw [← lu]
      unfold aj
      rw [List.getD_eq_getElem?_getD, show Int.toNat 0 = 0 from rfl, List.getElem?_eq_getElem (by simpa using h)]
      rfl
    rw [h0]
    simp [h, ab]
    rfl
theorem AI (args : Array Value) (w : World) : (callFunc 54 args).run Tryz.prog w = .ok (.enter 54 args) w := by go_simp
def nameS : bi Tryz.prog 54 := CD _ AI bx (fun s => s.size ≤ maxLen) (fun s => bv (fI (ab s))) (fun _ => rfl) fun s hs M w v _ hv => by
  obtain rfl : v = .string s := hv
  refine (xK s w hs).mono fun e w' ⟨h1, h2⟩ => ⟨⟨_, h1, ?_⟩, h2 ▸ .refl _ _⟩
  rw [nameB_nameL]; rfl
theorem name_run {id : Nat} {h : ah} {args : List AV} : nameS.run id h args = bT (ba bx (fun s => s.size ≤ maxLen)) (fun s => .ret (bv (fI (ab s)))) h args := rfl
theorem name_pan {id : Nat} {h : ah} {args : List AV} : nameS.pan id h args = bU (ba bx (fun s => s.size ≤ maxLen)) (fun s => .ret (bv (fI (ab s)))) h args := rfl

theorem QL {s : ByteArray} (h : ¬ s = emp) : 0 < s.size := by
  rcases Nat.eq_zero_or_pos s.size with h0 | h0
  · exact absurd (iY (List.eq_nil_of_length_eq_zero (by rw [aW]; exact h0))) h
  · exact h0

/-! ### Signs -/
set_option maxHeartbeats 1000000 in
set_option maxRecDepth 100000 in
theorem oe (s : ByteArray) (c : Int) (w : World) :
    Calls Tryz.prog 89 #[.string s, .int .u8 c] w fun e w' => e = .returned (.int .i64 (Lib.indexByte s.data.toList c.toNat.toUInt8)) ∧ w' = w := by
  go_enter Tryz.func89, Tryz.ntmps89
  go_wp2
  rw [run_callFunc_extern Tryz.func142 (by kernel_rfl) (by kernel_rfl) (by kernel_rfl) (e := Extern.BytealgIndexByte.indexByte) (by kernel_rfl), Lib.run_indexByteString]
  simp only [Result.andThen]
  rw [Oper.upon_value]
  go_wp2
  go_ret
  exact ⟨rfl, rfl⟩
set_option maxHeartbeats 1000000 in
set_option maxRecDepth 100000 in
theorem Ct (s : ByteArray) (c : Int) (w : World) :
    Calls Tryz.prog 38 #[.string s, .int .u8 c] w fun e w' => e = .returned (.int .i64 (Lib.indexByte s.data.toList c.toNat.toUInt8)) ∧ w' = w := by
  go_enter Tryz.func38, Tryz.ntmps38
  go_wp2_with (go_at_call 89; refine (oe _ _ _).mono ?_; rintro e w' ⟨rfl, rfl⟩)
  go_ret
  exact ⟨rfl, rfl⟩
theorem Eh (args : Array Value) (w : World) : (callFunc 38 args).run Tryz.prog w = .ok (.enter 38 args) w := by go_simp
def jU (s : ByteArray) (c : Int) : Int := Lib.indexByte s.data.toList c.toNat.toUInt8
def xq : bi Tryz.prog 38 := Lv _ Eh bx (bq .u8) (fun _ _ => True) (fun s c => iv (jU s c)) (fun _ _ => rfl) fun s c hs M w u v _ hu hv => by
  obtain rfl : u = .string s := hu
  obtain rfl : v = .int .u8 c := hv
  exact (Ct s c w).mono fun e w' ⟨h1, h2⟩ => ⟨⟨_, h1, rfl⟩, h2 ▸ .refl _ _⟩
theorem vt {id : Nat} {h : ah} {args : List AV} : xq.run id h args = bT (cg bx (bq .u8) (fun _ _ => True)) (fun x => .ret (iv (jU x.1 x.2))) h args := rfl
theorem vr {id : Nat} {h : ah} {args : List AV} : xq.pan id h args = bU (cg bx (bq .u8) (fun _ _ => True)) (fun x => .ret (iv (jU x.1 x.2))) h args := rfl
theorem Ib (c : Int) (hc : 0 ≤ c ∧ c ≤ 255) : 0 ≤ jU yh c ↔ c ∈ oV := by
  have : ∀ n : Nat, n < 256 → (0 ≤ jU yh (n : Int) ↔ (n : Int) ∈ oV) := by decide +kernel
  have := this c.toNat (by omega)
  rwa [Int.toNat_of_nonneg hc.1] at this

theorem OM (args : Array Value) (w : World) : (callFunc 98 args).run Tryz.prog w = .ok (.enter 98 args) w := by go_simp
def KX : bi Tryz.prog 98 :=
  mk2 _ _ _ Tryz.func98 rfl OM (bx) (bx) ((fun _ _ => True)) ((fun s p => .ret (bv (cM s p)))) (by rw [Tryz.ntmps98]; decide) (fun s p _ => by
  refine aa (ctx := []) 4000 ?_
  rw [Tryz.ntmps98, Tryz.results98]
  simp only [Tryz.f98, Option.getD_some, aC]
  by_cases h : p.size ≤ s.size
  · have hI : (p.size : Int) ≤ s.size := by omega
    by_cases h2 : s.extract 0 p.size = p
    · simp only [go_sem, hI, Int.toNat_zero, h2, cM, h]
    · simp only [go_sem, hI, Int.toNat_zero, h2, cM, h]
  · have hI : ¬ (p.size : Int) ≤ s.size := by omega
    simp only [go_sem, hI, cM, h, Bool.false_and])
theorem KZ {id : Nat} {h : ah} {args : List AV} : (KX).run id h args = bT (cg (bx) (bx) ((fun _ _ => True))) (fun x => ((fun s p => .ret (bv (cM s p)))) x.1 x.2) h args := rfl
theorem KY {id : Nat} {h : ah} {args : List AV} : (KX).pan id h args = bU (cg (bx) (bx) ((fun _ _ => True))) (fun x => ((fun s p => .ret (bv (cM s p)))) x.1 x.2) h args := rfl
theorem AH (args : Array Value) (w : World) : (callFunc 47 args).run Tryz.prog w = .ok (.enter 47 args) w := by go_simp
def tq : bi Tryz.prog 47 :=
  mk2 _ _ _ Tryz.func47 rfl AH (bx) (bx) ((fun _ _ => True)) ((fun s p => .ret (bv (cM s p)))) (by rw [Tryz.ntmps47]; decide) (fun s p _ => by
  refine aa (ctx := [⟨_, KX⟩]) 4000 ?_
  rw [Tryz.ntmps47, Tryz.results47]
  simp only [Tryz.f47, Option.getD_some, aC]
  simp only [go_sem, KZ, KY])
theorem eP {id : Nat} {h : ah} {args : List AV} : (tq).run id h args = bT (cg (bx) (bx) ((fun _ _ => True))) (fun x => ((fun s p => .ret (bv (cM s p)))) x.1 x.2) h args := rfl
theorem eO {id : Nat} {h : ah} {args : List AV} : (tq).pan id h args = bU (cg (bx) (bx) ((fun _ _ => True))) (fun x => ((fun s p => .ret (bv (cM s p)))) x.1 x.2) h args := rfl

theorem Gh (s : ByteArray) (c d : Int) (hc : 0 ≤ c ∧ c ≤ 255) (hd : 0 ≤ d ∧ d ≤ 255) : cM s (bu [c, d]) = decide (1 < (ab s).length ∧ bAt (ab s) 0 = c ∧ bAt (ab s) 1 = d) := by
  have hb : ab (bu [c, d]) = [c, d] := cN (by intro z hz; simp at hz; omega)
  rw [Bool.eq_iff_iff, zm, hb, decide_eq_true_eq]
  constructor
  · rintro ⟨t, ht⟩
    rw [ht]
    exact ⟨by simp, rfl, rfl⟩
  · rintro ⟨h1, h2, h3⟩
    cases hs : ab s with
    | nil => rw [hs] at h1; simp at h1
    | cons x t =>
      cases t with
      | nil => rw [hs] at h1; simp at h1
      | cons y t =>
        rw [hs] at h2 h3
        exact ⟨t, by rw [← h2, ← h3]; rfl⟩

theorem Ej (args : Array Value) (w : World) : (callFunc 232 args).run Tryz.prog w = .ok (.enter 232 args) w := by go_simp
def Fs : bi Tryz.prog 232 :=
  mk1 _ _ _ Tryz.func232 rfl Ej (bx) ((fun _ => True)) ((fun s => .ret (iv (dr (ab s))))) (by rw [Tryz.ntmps232]; decide) (fun s _ => by
  refine aa (ctx := [⟨_, tq⟩, ⟨_, xq⟩]) 4000 ?_
  rw [Tryz.ntmps232, Tryz.results232]
  simp only [Tryz.f232, Option.getD_some, aC]
  have hl : (ab s).length = s.size := aW s
  have h1 : cM s ⟨#[60, 60]⟩ = decide (1 < s.size ∧ bAt (ab s) 0 = 60 ∧ bAt (ab s) 1 = 60) := by rw [← hl]; exact Gh s 60 60 (by omega) (by omega)
  have h2 : cM s ⟨#[62, 62]⟩ = decide (1 < s.size ∧ bAt (ab s) 0 = 62 ∧ bAt (ab s) 1 = 62) := by rw [← hl]; exact Gh s 62 62 (by omega) (by omega)
  by_cases c1 : 1 < s.size ∧ bAt (ab s) 0 = 60 ∧ bAt (ab s) 1 = 60
  · have e : dr (ab s) = 2 := by unfold dr; rw [if_pos (by omega)]
    rw [decide_eq_true c1] at h1
    simp only [go_sem, eP, eO, h1, e]
  · rw [decide_eq_false c1] at h1
    by_cases c2 : 1 < s.size ∧ bAt (ab s) 0 = 62 ∧ bAt (ab s) 1 = 62
    · have e : dr (ab s) = 2 := by unfold dr; rw [if_pos (by omega)]
      rw [decide_eq_true c2] at h2
      simp only [go_sem, eP, eO, h1, h2, e]
    · rw [decide_eq_false c2] at h2
      by_cases h0 : s = emp
      · subst h0
        have e : dr (ab emp) = 0 := rfl
        simp only [go_sem, eP, eO, h1, h2, e, aR]
      · have hne : ¬ s = emp := h0
        have hp : 0 < s.size := QL h0
        have hpI : (0 : Int) < s.size := by omega
        have hr := dV s 0
        have hi := Ib (aj s 0) hr
        have hb : aj s 0 = bAt (ab s) 0 := lu s
        by_cases c3 : aj s 0 ∈ oV
        · have e : dr (ab s) = 1 := by unfold dr; rw [if_neg (by omega), if_pos ⟨by omega, by rw [← hb]; exact c3⟩]
          have hge := hi.2 c3
          unfold yh at hge
          simp only [go_sem, eP, eO, vt, vr, h1, h2, e, hne, aR, hpI, hge]
        · have e : dr (ab s) = 0 := by unfold dr; rw [if_neg (by omega), if_neg (by rw [← hb]; exact fun h => c3 h.2)]
          have hge : ¬ 0 ≤ jU yh (aj s 0) := fun h => c3 (hi.1 h)
          unfold yh at hge
          simp only [go_sem, eP, eO, vt, vr, h1, h2, e, hne, aR, hpI, hge])
theorem GI {id : Nat} {h : ah} {args : List AV} : (Fs).run id h args = bT (ba (bx) ((fun _ => True))) ((fun s => .ret (iv (dr (ab s))))) h args := rfl
theorem GH {id : Nat} {h : ah} {args : List AV} : (Fs).pan id h args = bU (ba (bx) ((fun _ => True))) ((fun s => .ret (iv (dr (ab s))))) h args := rfl

end Go.Proofs.YtnhbidpdadkcjaaGreatDoor.Ly

/-! ## L2 -/
namespace Go.Proofs.YtnhbidpdadkcjaaGreatDoor.Ly
open Go.RowKit

theorem mixed : Tryz.prog.follows .mixedOrders = true := by kernel_rfl
theorem KM (args : Array Value) (w : World) : (callFunc 144 args).run Tryz.prog w = .ok (.enter 144 args) w := by go_simp
def ou : bi Tryz.prog 144 :=
  mk1 _ _ _ Tryz.func144 rfl KM (bq .u8) ((fun _ => True)) ((fun c => .ret (.s (.l (.v (.int .u8 (dX c))))))) (by rw [Tryz.ntmps144]; decide) (fun c _ => by
  refine aa (ctx := []) 4000 ?_
  rw [Tryz.ntmps144, Tryz.results144]
  simp only [Tryz.f144, Option.getD_some, aC]
  by_cases h0 : c = 0
  · subst h0; simp only [go_sem, dX]
  by_cases h1 : c = 9
  · subst h1; simp only [go_sem, dX]
  by_cases h2 : c = 10
  · subst h2; simp only [go_sem, dX]
  by_cases h3 : c = 13
  · subst h3; simp only [go_sem, dX]
  by_cases h4 : c = 34
  · subst h4; simp only [go_sem, dX]
  by_cases h5 : c = 92
  · subst h5; simp only [go_sem, dX]
  have e : dX c = 0 := by unfold dX; simp only [h0, h1, h2, h3, h4, h5, or_self, if_false]
  simp only [go_sem, h0, h1, h2, h3, h4, h5, e])
theorem fS {id : Nat} {h : ah} {args : List AV} : (ou).run id h args = bT (ba (bq .u8) ((fun _ => True))) ((fun c => .ret (.s (.l (.v (.int .u8 (dX c))))))) h args := rfl
theorem fR {id : Nat} {h : ah} {args : List AV} : (ou).pan id h args = bU (ba (bq .u8) ((fun _ => True))) ((fun c => .ret (.s (.l (.v (.int .u8 (dX c))))))) h args := rfl

theorem snoc1 (l : List Int) (x : Int) : l.map bp ++ [[LV.v (.int .u8 x)]] = (l ++ [x]).map bp := by rw [List.map_append]; rfl
theorem takeS (l : List Int) (x : Int) : ((l ++ [x]).map bp).take (l.length + 1) = (l ++ [x]).map bp := List.take_of_length_le (by simp)
theorem uS {s : ByteArray} {i : Nat} (h : i < s.size) : (ab s).take (i + 1) = (ab s).take i ++ [aj s i] := by
  rw [List.take_add_one, d8 h]; rfl
theorem quoteB_append (a b : List Int) : oo (a ++ b) = oo a ++ oo b := by
  unfold oo; rw [List.flatMap_append]
theorem quoteB_more {s : ByteArray} {i : Nat} (h : i < s.size) : oo ((ab s).take (i + 1)) = oo ((ab s).take i) ++ iP (aj s i) := by
  rw [uS h, quoteB_append]
  simp [oo]
theorem sC (c : Int) : (iP c).length ≤ 4 := by
  unfold iP; split
  · simp
  · split <;> simp
theorem quoteB_len : ∀ l : List Int, (oo l).length ≤ 4 * l.length
  | [] => by simp [oo]
  | c :: l => by
    have h1 := quoteB_len l
    have h2 := sC c
    have : oo (c :: l) = iP c ++ oo l := rfl
    rw [this, List.length_append, List.length_cons]
    omega
theorem and15 : ∀ n : Nat, n < 256 → bits .and .u8 (n : Int) 15 = (n : Int) % 16 := by decide +kernel
theorem digAt : ∀ n : Nat, n < 16 → aj ⟨#[48, 49, 50, 51, 52, 53, 54, 55, 56, 57, 97, 98, 99, 100, 101, 102]⟩ (n : Int) = mN n := by decide +kernel

set_option maxHeartbeats 2000000 in
theorem quote_sw (s : ByteArray) (hs : s.size ≤ 1000000) : SW Tryz.prog ⟨none, 0⟩ Tryz.f93.ntmps (Tryz.f93.body.getD .skip) ⟨0, aC 0 [bx.enc s], []⟩ (es Tryz.prog Tryz.f93.results.toList (.ret (sv (bu (sD (ab s)))))) := by
  refine aa (ctx := [⟨_, ou⟩, ⟨_, Ft⟩]) 4000 ?_
  rw [Tryz.ntmps93, Tryz.results93]
  simp only [Tryz.f93, Option.getD_some, aC]
  simp only [go_sem]
  refine cW (ι := Nat × List Int) (fun p => p.1 ≤ s.size ∧ p.2 = 34 :: oo ((ab s).take p.1)) (fun p => ⟨1, [(0, sv s), (3, .s (.l (.sl 0 0 p.2.length))), (8, iv s.size), (9, iv p.1)], [(0, some (fj p.2))]⟩) (fun p => s.size - p.1) (0, [34]) ⟨Nat.zero_le _, rfl⟩ (Wk.renL [16] (by simp) (by simp) (by simp) rfl rfl) ?_
  rintro ⟨i, l⟩ ⟨hi, hl⟩
  simp only at hi hl
  refine aa (ctx := [⟨_, ou⟩, ⟨_, Ft⟩]) 4000 ?_
  have hlen : l.length ≤ 4 * i + 1 := by
    have := quoteB_len ((ab s).take i)
    rw [List.length_take] at this
    rw [hl, List.length_cons]
    omega
  have hm1 : l.length + 1 ≤ maxLen := by unfold maxLen; omega
  have hm2 : l.length + 2 ≤ maxLen := by unfold maxLen; omega
  have hm4 : l.length + 4 ≤ maxLen := by unfold maxLen; omega
  have hb1 : (l.length + 1) * 1 ≤ 140737488355328 := by omega
  have hb2 : (l.length + 2) * 1 ≤ 140737488355328 := by omega
  have hb4 : (l.length + 4) * 1 ≤ 140737488355328 := by omega
  by_cases hlt : i < s.size
  · have hltI : (i : Int) < s.size := by omega
    have hr := dV s i
    have hq := quoteB_more hlt
    have ei : IntKind.i64.wrap ((i : Int) + 1) = ((i + 1 : Nat) : Int) := by rw [IntKind.wrap_i64]; omega
    by_cases h1 : dX (aj s i) = 0
    · by_cases h2 : hZ (aj s i) = true
      · have e1 : iP (aj s i) = [aj s i] := by unfold iP; rw [if_neg (by simp [h1]), if_pos h2]
        simp only [go_sem, fj, fS, fR, rk, rj, hltI, h1, h2, hm1, hb1, ei]
        exact ⟨(i + 1, l ++ [aj s i]), ⟨hlt, by simp only; rw [hq, e1, hl]; rfl⟩, by simp only; omega, Wk.renL [273] (by simp) (by simp) (by simp) (by simp [dk, AV.ren, SV.ren, LV.ren]) (by simp [hget, Blk.ren, bp, LV.ren, Function.comp_def])⟩
      · have h2' : hZ (aj s i) = false := by simpa using h2
        have e1 : iP (aj s i) = [92, 120, mN (aj s i / 16), mN (aj s i % 16)] := by unfold iP; rw [if_neg (by simp [h1]), if_neg h2]
        have e2 : (aj s i).fdiv (2 ^ min 4 IntKind.u8.bits) = aj s i / 16 := by
          rw [show (2 : Int) ^ min 4 IntKind.u8.bits = 16 from rfl, Int.fdiv_eq_ediv_of_nonneg _ (by omega)]
        have e2' : (aj s i).fdiv (2 ^ min 4 8) = aj s i / 16 := e2
        have e3 : bits .and .u8 (aj s i) 15 = aj s i % 16 := by
          have := and15 (aj s i).toNat (by omega)
          rwa [Int.toNat_of_nonneg hr.1] at this
        have e4 : ∀ z : Int, 0 ≤ z → z < 16 → aj ⟨#[48, 49, 50, 51, 52, 53, 54, 55, 56, 57, 97, 98, 99, 100, 101, 102]⟩ z = mN z := fun z h0 h1 => by
          have := digAt z.toNat (by omega)
          rwa [Int.toNat_of_nonneg h0] at this
        have e5 := e4 (aj s i / 16) (by omega) (by omega)
        have e6 := e4 (aj s i % 16) (by omega) (by omega)
        simp only [go_sem, fj, fS, fR, rk, rj, hltI, h1, h2']
        refine bI (ctx := []) mixed [8] (by kernel_rfl) ?_
        simp only [go_sem, fj, e2, e2', e3, e5, e6, hm4, hb4, ei]
        exact ⟨⟨by omega, show _ < (16 : Int) by omega⟩, ⟨by omega, show _ < (16 : Int) by omega⟩, (i + 1, l ++ [92, 120, mN (aj s i / 16), mN (aj s i % 16)]), ⟨hlt, by simp only; rw [hq, e1, hl]; rfl⟩, by simp only; omega, Wk.renL [353] (by simp) (by simp) (by simp) (by simp [dk, AV.ren, SV.ren, LV.ren]) (by simp [hget, Blk.ren, bp, LV.ren, Function.comp_def])⟩
    · have e1 : iP (aj s i) = [92, dX (aj s i)] := by unfold iP; rw [if_pos h1]
      simp only [go_sem, fj, fS, fR, rk, rj, hltI, h1, hm2, hb2, ei]
      exact ⟨(i + 1, l ++ [92, dX (aj s i)]), ⟨hlt, by simp only; rw [hq, e1, hl]; rfl⟩, by simp only; omega, Wk.renL [241] (by simp) (by simp) (by simp) (by simp [dk, AV.ren, SV.ren, LV.ren]) (by simp [hget, Blk.ren, bp, LV.ren, Function.comp_def])⟩
  · have hI : ¬ (i : Int) < s.size := by omega
    obtain rfl : i = s.size := by omega
    have ht : (ab s).take s.size = ab s := List.take_of_length_le (by rw [aW]; exact Nat.le_refl _)
    have hF : sD (ab s) = l ++ [34] := by rw [hl, ht]; rfl
    simp only [go_sem, fj, hI, hm1, hb1, snoc1, takeS, To, hF]
    simp

theorem en_quote (args : Array Value) (w : World) : (callFunc 93 args).run Tryz.prog w = .ok (.enter 93 args) w := by go_simp
def quoteS : bi Tryz.prog 93 :=
  mk1 _ _ _ Tryz.func93 rfl en_quote (bx) ((fun s => s.size ≤ 1000000)) ((fun s => .ret (sv (bu (sD (ab s)))))) (by rw [Tryz.ntmps93]; decide) (fun s hs => quote_sw s hs)
theorem quote_run {id : Nat} {h : ah} {args : List AV} : (quoteS).run id h args = bT (ba (bx) ((fun s => s.size ≤ 1000000))) ((fun s => .ret (sv (bu (sD (ab s)))))) h args := rfl
theorem quote_pan {id : Nat} {h : ah} {args : List AV} : (quoteS).pan id h args = bU (ba (bx) ((fun s => s.size ≤ 1000000))) ((fun s => .ret (sv (bu (sD (ab s)))))) h args := rfl

/-! ### What stands behind a \ -/
def b8 (z : Int) : SV := .l (.v (.int .u8 z))
def mj (l : List Int) : AV := match lT l with
  | some p => .tup [.l (.v (.int .u8 p.1)), .l (.v (.int .i64 p.2))]
  | none => .tup [.l (.v (.int .u8 0)), .l (.v (.int .i64 0))]
theorem orAt : ∀ a : Nat, a < 16 → ∀ b : Nat, b < 16 → bits .or .i64 ((a : Int) * 16) (b : Int) = 16 * (a : Int) + (b : Int) := by decide +kernel
def Rg (b : Int) (i : Nat) : Prop := i ≤ 6 ∧ (0 < i → ¬ 48 = b) ∧ (1 < i → ¬ 116 = b) ∧ (2 < i → ¬ 110 = b) ∧ (3 < i → ¬ 114 = b) ∧ (4 < i → ¬ 34 = b) ∧ (5 < i → ¬ 92 = b)

set_option maxHeartbeats 2000000 in
theorem Rh (s : ByteArray) : SW Tryz.prog ⟨none, 0⟩ Tryz.f251.ntmps (Tryz.f251.body.getD .skip) ⟨0, aC 0 [bx.enc s], []⟩ (es Tryz.prog Tryz.f251.results.toList (.ret (mj (ab s)))) := by
  refine aa (ctx := [⟨_, ou⟩, ⟨_, Ep⟩]) 4000 ?_
  rw [Tryz.ntmps251, Tryz.results251]
  simp only [Tryz.f251, Option.getD_some, aC]
  have hl : (ab s).length = s.size := aW s
  by_cases h0 : s = emp
  · subst h0
    have e : mj (ab emp) = .tup [.l (.v (.int .u8 0)), .l (.v (.int .i64 0))] := rfl
    simp only [go_sem, aR, e]
  have hne : ¬ s = emp := h0
  have hp : 0 < s.size := QL h0
  have hpI : (0 : Int) < s.size := by omega
  have hr0 := dV s 0
  have hb0 := lu s
  have hb1 := vg s
  have hb2 := vh s
  have hz : ¬ (ab s).length = 0 := by omega
  simp only [go_sem, hne, aR]
  refine cW (ι := Nat) (Rg (aj s 0)) (fun i => ⟨1, [(0, sv s), (8, .s (.l (.sl 0 0 6))), (9, iv 6), (10, iv i)], [(0, some (fj [0, 9, 10, 13, 34, 92]))]⟩) (fun i => 6 - i) 0 ⟨by omega, by omega, by omega, by omega, by omega, by omega, by omega⟩ ?_ ?_
  · exact Wk.renL [64] (by simp) (by simp) (by simp) rfl rfl
  rintro i ⟨hi, i0, i1, i2, i3, i4, i5⟩
  refine aa (ctx := [⟨_, ou⟩, ⟨_, Ep⟩]) 4000 ?_
  have hcase : i = 0 ∨ i = 1 ∨ i = 2 ∨ i = 3 ∨ i = 4 ∨ i = 5 ∨ i = 6 := by omega
  rcases hcase with rfl | rfl | rfl | rfl | rfl | rfl | rfl
  · have e1 : dX 0 = 48 := rfl
    simp only [go_sem, fj, bp]
    refine bI (ctx := [⟨_, ou⟩]) mixed [] (by kernel_rfl) ?_
    by_cases hc : (48 : Int) = aj s 0
    · have e : mj (ab s) = .tup [.l (.v (.int .u8 0)), .l (.v (.int .i64 1))] := by unfold mj lT; rw [if_neg hz, ← hb0, ← hc]; rfl
      simp only [go_sem, fj, bp, fS, fR, e1, hpI, eq_true hc, e]
    · have ei : IntKind.i64.wrap (0 + 1) = 1 := by rfl
      simp only [go_sem, fj, bp, fS, fR, e1, hpI, hc, ei]
      exact ⟨1, ⟨by omega, fun _ => hc, fun h => absurd h (by omega), fun h => absurd h (by omega), fun h => absurd h (by omega), fun h => absurd h (by omega), fun h => absurd h (by omega)⟩, by omega, Wk.renL [0] (by simp) (by simp) (by simp) rfl rfl⟩
  · have e1 : dX 9 = 116 := rfl
    simp only [go_sem, fj, bp]
    refine bI (ctx := [⟨_, ou⟩]) mixed [] (by kernel_rfl) ?_
    by_cases hc : (116 : Int) = aj s 0
    · have e : mj (ab s) = .tup [.l (.v (.int .u8 9)), .l (.v (.int .i64 1))] := by unfold mj lT; rw [if_neg hz, ← hb0, ← hc]; rfl
      simp only [go_sem, fj, bp, fS, fR, e1, hpI, eq_true hc, e]
    · have ei : IntKind.i64.wrap (1 + 1) = 2 := by rfl
      simp only [go_sem, fj, bp, fS, fR, e1, hpI, hc, ei]
      exact ⟨2, ⟨by omega, fun _ => i0 (by omega), fun _ => hc, fun h => absurd h (by omega), fun h => absurd h (by omega), fun h => absurd h (by omega), fun h => absurd h (by omega)⟩, by omega, Wk.renL [0] (by simp) (by simp) (by simp) rfl rfl⟩
  · have e1 : dX 10 = 110 := rfl
    simp only [go_sem, fj, bp]
    refine bI (ctx := [⟨_, ou⟩]) mixed [] (by kernel_rfl) ?_
    by_cases hc : (110 : Int) = aj s 0
    · have e : mj (ab s) = .tup [.l (.v (.int .u8 10)), .l (.v (.int .i64 1))] := by unfold mj lT; rw [if_neg hz, ← hb0, ← hc]; rfl
      simp only [go_sem, fj, bp, fS, fR, e1, hpI, eq_true hc, e]
    · have ei : IntKind.i64.wrap (2 + 1) = 3 := by rfl
      simp only [go_sem, fj, bp, fS, fR, e1, hpI, hc, ei]
      exact ⟨3, ⟨by omega, fun _ => i0 (by omega), fun _ => i1 (by omega), fun _ => hc, fun h => absurd h (by omega), fun h => absurd h (by omega), fun h => absurd h (by omega)⟩, by omega, Wk.renL [0] (by simp) (by simp) (by simp) rfl rfl⟩
  · have e1 : dX 13 = 114 := rfl
    simp only [go_sem, fj, bp]
    refine bI (ctx := [⟨_, ou⟩]) mixed [] (by kernel_rfl) ?_
    by_cases hc : (114 : Int) = aj s 0
    · have e : mj (ab s) = .tup [.l (.v (.int .u8 13)), .l (.v (.int .i64 1))] := by unfold mj lT; rw [if_neg hz, ← hb0, ← hc]; rfl
      simp only [go_sem, fj, bp, fS, fR, e1, hpI, eq_true hc, e]
    · have ei : IntKind.i64.wrap (3 + 1) = 4 := by rfl
      simp only [go_sem, fj, bp, fS, fR, e1, hpI, hc, ei]
      exact ⟨4, ⟨by omega, fun _ => i0 (by omega), fun _ => i1 (by omega), fun _ => i2 (by omega), fun _ => hc, fun h => absurd h (by omega), fun h => absurd h (by omega)⟩, by omega, Wk.renL [0] (by simp) (by simp) (by simp) rfl rfl⟩
  · have e1 : dX 34 = 34 := rfl
    simp only [go_sem, fj, bp]
    refine bI (ctx := [⟨_, ou⟩]) mixed [] (by kernel_rfl) ?_
    by_cases hc : (34 : Int) = aj s 0
    · have e : mj (ab s) = .tup [.l (.v (.int .u8 34)), .l (.v (.int .i64 1))] := by unfold mj lT; rw [if_neg hz, ← hb0, ← hc]; rfl
      simp only [go_sem, fj, bp, fS, fR, e1, hpI, eq_true hc, e]
    · have ei : IntKind.i64.wrap (4 + 1) = 5 := by rfl
      simp only [go_sem, fj, bp, fS, fR, e1, hpI, hc, ei]
      exact ⟨5, ⟨by omega, fun _ => i0 (by omega), fun _ => i1 (by omega), fun _ => i2 (by omega), fun _ => i3 (by omega), fun _ => hc, fun h => absurd h (by omega)⟩, by omega, Wk.renL [0] (by simp) (by simp) (by simp) rfl rfl⟩
  · have e1 : dX 92 = 92 := rfl
    simp only [go_sem, fj, bp]
    refine bI (ctx := [⟨_, ou⟩]) mixed [] (by kernel_rfl) ?_
    by_cases hc : (92 : Int) = aj s 0
    · have e : mj (ab s) = .tup [.l (.v (.int .u8 92)), .l (.v (.int .i64 1))] := by unfold mj lT; rw [if_neg hz, ← hb0, ← hc]; rfl
      simp only [go_sem, fj, bp, fS, fR, e1, hpI, eq_true hc, e]
    · have ei : IntKind.i64.wrap (5 + 1) = 6 := by rfl
      simp only [go_sem, fj, bp, fS, fR, e1, hpI, hc, ei]
      exact ⟨6, ⟨by omega, fun _ => i0 (by omega), fun _ => i1 (by omega), fun _ => i2 (by omega), fun _ => i3 (by omega), fun _ => i4 (by omega), fun _ => hc⟩, by omega, Wk.renL [0] (by simp) (by simp) (by simp) rfl rfl⟩
  · have hL : longL (bAt (ab s) 0) = none := by
      rw [← hb0]
      have a0 := i0 (by omega)
      have a1 := i1 (by omega)
      have a2 := i2 (by omega)
      have a3 := i3 (by omega)
      have a4 := i4 (by omega)
      have a5 := i5 (by omega)
      unfold longL
      rw [if_neg (by omega), if_neg (by omega), if_neg (by omega), if_neg (by omega), if_neg (by omega)]
    have hF : lT (ab s) = if 2 < (ab s).length ∧ bAt (ab s) 0 = 120 ∧ bw (bAt (ab s) 1) < 16 ∧ bw (bAt (ab s) 2) < 16 then some (16 * bw (bAt (ab s) 1) + bw (bAt (ab s) 2), 3) else none := by
      unfold lT
      rw [if_neg hz, hL]
    by_cases c1 : s.size < 3
    · have c1I : (s.size : Int) < 3 := by omega
      have e : mj (ab s) = .tup [.l (.v (.int .u8 0)), .l (.v (.int .i64 0))] := by unfold mj; rw [hF, if_neg (by omega)]
      simp only [go_sem, fj, bp, c1I, e]
    have c1I : ¬ (s.size : Int) < 3 := by omega
    have p1 : (1 : Int) < s.size := by omega
    have p2 : (2 : Int) < s.size := by omega
    have hr1 := dV s 1
    have hr2 := dV s 2
    by_cases c2 : aj s 0 = 120
    case neg =>
      have e : mj (ab s) = .tup [.l (.v (.int .u8 0)), .l (.v (.int .i64 0))] := by unfold mj; rw [hF, if_neg (by omega)]
      simp only [go_sem, fj, bp, c1I, hpI, c2, e]
    by_cases c3 : bw (aj s 1) > 15
    · have c3' : (15 : Int) < bw (aj s 1) := by omega
      have e : mj (ab s) = .tup [.l (.v (.int .u8 0)), .l (.v (.int .i64 0))] := by unfold mj; rw [hF, if_neg (by rw [← hb1]; omega)]
      simp only [go_sem, fj, bp, c1I, hpI, p1, c2, c3', tt, tr, hr1, e]
    have c3' : ¬ (15 : Int) < bw (aj s 1) := by omega
    by_cases c4 : bw (aj s 2) > 15
    · have c4' : (15 : Int) < bw (aj s 2) := by omega
      have e : mj (ab s) = .tup [.l (.v (.int .u8 0)), .l (.v (.int .i64 0))] := by unfold mj; rw [hF, if_neg (by rw [← hb2]; omega)]
      simp only [go_sem, fj, bp, c1I, hpI, p1, p2, c2, c3', c4', tt, tr, hr1, hr2, e]
    have c4' : ¬ (15 : Int) < bw (aj s 2) := by omega
    have q1 := kV (aj s 1)
    have q2 := kV (aj s 2)
    have e : mj (ab s) = .tup [.l (.v (.int .u8 (16 * bw (aj s 1) + bw (aj s 2)))), .l (.v (.int .i64 3))] := by
      unfold mj
      rw [hF, if_pos (by rw [← hb0, ← hb1, ← hb2]; omega), hb1, hb2]
      rfl
    have g1 : IntKind.i64.wrap (bw (aj s 1) * 2 ^ min 4 IntKind.i64.bits) = bw (aj s 1) * 16 := by
      rw [show (2 : Int) ^ min 4 IntKind.i64.bits = 16 from rfl, IntKind.wrap_i64]; omega
    have g1' : IntKind.i64.wrap (bw (aj s 1) * 2 ^ min 4 64) = bw (aj s 1) * 16 := g1
    have g2 : bits .or .i64 (bw (aj s 1) * 16) (bw (aj s 2)) = 16 * bw (aj s 1) + bw (aj s 2) := by
      have := orAt (bw (aj s 1)).toNat (by omega) (bw (aj s 2)).toNat (by omega)
      rwa [Int.toNat_of_nonneg q1.1, Int.toNat_of_nonneg q2.1] at this
    have g3 : IntKind.u8.wrap (16 * bw (aj s 1) + bw (aj s 2)) = 16 * bw (aj s 1) + bw (aj s 2) := by
      rw [IntKind.wrap_u8]; omega
    simp only [go_sem, fj, bp, c1I, hpI, p1, p2, c2, c3', c4', tt, tr, hr1, hr2]
    refine bI (ctx := [⟨_, Ep⟩]) mixed [] (by kernel_rfl) ?_
    simp only [go_sem, p1, p2, tt, tr, hr1, hr2, g1, g1', g2, g3, e]

theorem en_esc (args : Array Value) (w : World) : (callFunc 251 args).run Tryz.prog w = .ok (.enter 251 args) w := by go_simp
def escS : bi Tryz.prog 251 :=
  mk1 _ _ _ Tryz.func251 rfl en_esc (bx) ((fun _ => True)) ((fun s => .ret (mj (ab s)))) (by rw [Tryz.ntmps251]; decide) (fun s _ => Rh s)
theorem esc_run {id : Nat} {h : ah} {args : List AV} : (escS).run id h args = bT (ba (bx) ((fun _ => True))) ((fun s => .ret (mj (ab s)))) h args := rfl
theorem esc_pan {id : Nat} {h : ah} {args : List AV} : (escS).pan id h args = bU (ba (bx) ((fun _ => True))) ((fun s => .ret (mj (ab s)))) h args := rfl

end Go.Proofs.YtnhbidpdadkcjaaGreatDoor.Ly

/-! ## L3 -/
namespace Go.Proofs.YtnhbidpdadkcjaaGreatDoor.Ly
open Go.RowKit

/-! ### Quotes are read -/
set_option maxHeartbeats 2000000 in
theorem quotes_sw (s : ByteArray) (hs : s.size ≤ 1099511627776) : SW Tryz.prog ⟨none, 0⟩ Tryz.f234.ntmps (Tryz.f234.body.getD .skip) ⟨0, aC 0 [bx.enc s], []⟩ (es Tryz.prog Tryz.f234.results.toList (.ret (quotO (ab s)))) := by
  refine aa (ctx := [⟨_, escS⟩, ⟨_, Ft⟩]) 4000 ?_
  rw [Tryz.ntmps234, Tryz.results234]
  simp only [Tryz.f234, Option.getD_some, aC]
  simp only [go_sem]
  refine cW (ι := Nat × List Int) (fun p => GA s p.1 p.2 ∧ p.1 ≤ 1099511627777) (fun p => ⟨1, [(0, sv s), (4, .s (.l (.sl 0 0 p.2.length))), (5, iv p.1)], [(0, some (fj p.2))]⟩) (fun p => s.size + 1 - p.1) (1, []) ⟨⟨by omega, by omega, by simp, by cases quotesL ((ab s).drop 1) <;> simp⟩, by omega⟩ ?_ ?_
  · exact (Wk.nil 4 5 1 rfl).trans (Wk.renL [64] (by simp) (by simp) (by simp) rfl rfl)
  rintro ⟨i, l⟩ ⟨hq, hi⟩
  simp only at hq hi
  refine aa (ctx := [⟨_, escS⟩, ⟨_, Ft⟩]) 4000 ?_
  have h1 := hq.1
  have h2 := hq.2.1
  have h3 := hq.2.2.1
  have hl : (ab s).length = s.size := aW s
  have ei : IntKind.i64.wrap ((i : Int) + 1) = ((i + 1 : Nat) : Int) := by rw [IntKind.wrap_i64]; omega
  have hmx : maxLen = 9223372036854775807 := rfl
  by_cases hlt : i < s.size
  · have hltI : (i : Int) < s.size := by omega
    have hr := dV s i
    have hdl : ((ab s).drop i).length = s.size - i := by rw [List.length_drop, hl]
    have hd0 : bAt ((ab s).drop i) 0 = aj s i := by rw [iF, Nat.add_zero, mH]
    by_cases c1 : aj s i = 34
    · have hst : gt ((ab s).drop i) = .stop := by unfold gt; rw [if_neg (by omega), if_pos (by rw [hd0]; exact c1)]
      have hF := RY hq hst
      have e : quotO (ab s) = .tup [.l (.v (.string (bu l))), .l (.v (.int .i64 ((i + 1 : Nat) : Int)))] := by unfold quotO; rw [hF]
      simp only [go_sem, fj, hltI, c1, ei, To, e]
    by_cases c2 : aj s i = 92
    · have hsz : ((i + 1 : Nat) : Int) ≤ s.size := by omega
      rcases he : lT ((ab s).drop (i + 1)) with _ | ⟨x, n⟩
      · have hst : gt ((ab s).drop i) = .bad := by unfold gt; rw [if_neg (by omega), if_neg (by rw [hd0]; exact c1), if_pos (by rw [hd0]; exact c2), List.drop_drop, he]
        have hF := S6 hq hst
        have e : quotO (ab s) = .tup [.l (.v (.string emp)), .l (.v (.int .i64 0))] := by unfold quotO; rw [hF]; rfl
        have e2 : mj (ab (s.extract (i + 1) s.size)) = .tup [.l (.v (.int .u8 0)), .l (.v (.int .i64 0))] := by unfold mj; rw [ji, he]
        simp only [go_sem, fj, hltI, c1, c2, ei, hsz, esc_run, esc_pan, e2, e]
        rfl
      · have hst : gt ((ab s).drop i) = .put x (n + 1) := by unfold gt; rw [if_neg (by omega), if_neg (by rw [hd0]; exact c1), if_pos (by rw [hd0]; exact c2), List.drop_drop, he]
        have hk := nj hst
        rw [hdl] at hk
        have hn := Ga he
        have hF := S7 hq hst
        have e2 : mj (ab (s.extract (i + 1) s.size)) = .tup [.l (.v (.int .u8 x)), .l (.v (.int .i64 n))] := by unfold mj; rw [ji, he]
        have hn0 : ¬ (n : Int) = 0 := by omega
        have e3 : IntKind.i64.wrap ((i : Int) + (n : Int)) = ((i + n : Nat) : Int) := by rw [IntKind.wrap_i64]; omega
        have e4 : IntKind.i64.wrap (((i + n : Nat) : Int) + 1) = ((i + n + 1 : Nat) : Int) := by rw [IntKind.wrap_i64]; omega
        have hm1 : l.length + 1 ≤ maxLen := by omega
        have hb1 : (l.length + 1) * 1 ≤ 140737488355328 := by omega
        simp only [go_sem, fj, hltI, c1, c2, ei, hsz, esc_run, esc_pan, e2, hn0, e3, e4, hm1, hb1]
        exact ⟨(i + n + 1, l ++ [x]), ⟨hF, by simp only; omega⟩, by simp only; omega, Wk.renL [465] (by simp) (by simp) (by simp) (by simp [dk, AV.ren, SV.ren, LV.ren]) (by simp [hget, Blk.ren, bp, LV.ren, Function.comp_def])⟩
    by_cases c3 : hZ (aj s i) = true
    · have hst : gt ((ab s).drop i) = .put (aj s i) 1 := by unfold gt; rw [if_neg (by omega), if_neg (by rw [hd0]; exact c1), if_neg (by rw [hd0]; exact c2), if_pos (by rw [hd0]; exact c3), hd0]
      have hF := S7 hq hst
      have hm1 : l.length + 1 ≤ maxLen := by omega
      have hb1 : (l.length + 1) * 1 ≤ 140737488355328 := by omega
      simp only [go_sem, fj, hltI, c1, c2, c3, ei, rk, rj, hm1, hb1]
      exact ⟨(i + 1, l ++ [aj s i]), ⟨hF, by simp only; omega⟩, by simp only; omega, Wk.renL [321] (by simp) (by simp) (by simp) (by simp [dk, AV.ren, SV.ren, LV.ren]) (by simp [hget, Blk.ren, bp, LV.ren, Function.comp_def])⟩
    · have c3' : hZ (aj s i) = false := by simpa using c3
      have hst : gt ((ab s).drop i) = .bad := by unfold gt; rw [if_neg (by omega), if_neg (by rw [hd0]; exact c1), if_neg (by rw [hd0]; exact c2), if_neg (by rw [hd0]; exact c3)]
      have hF := S6 hq hst
      have e : quotO (ab s) = .tup [.l (.v (.string emp)), .l (.v (.int .i64 0))] := by unfold quotO; rw [hF]; rfl
      simp only [go_sem, fj, hltI, c1, c2, c3', ei, rk, rj, e]
      rfl
  · have hltI : ¬ (i : Int) < s.size := by omega
    have hst : gt ((ab s).drop i) = .bad := by unfold gt; rw [if_pos (by rw [List.length_drop]; omega)]
    have hF := S6 hq hst
    have e : quotO (ab s) = .tup [.l (.v (.string emp)), .l (.v (.int .i64 0))] := by unfold quotO; rw [hF]; rfl
    simp only [go_sem, fj, hltI, e]
    rfl

theorem en_quotes (args : Array Value) (w : World) : (callFunc 234 args).run Tryz.prog w = .ok (.enter 234 args) w := by go_simp
def quotesS : bi Tryz.prog 234 :=
  mk1 _ _ _ Tryz.func234 rfl en_quotes (bx) ((fun s => s.size ≤ 1099511627776)) ((fun s => .ret (quotO (ab s)))) (by rw [Tryz.ntmps234]; decide) (fun s hs => quotes_sw s hs)
theorem quotes_run {id : Nat} {h : ah} {args : List AV} : (quotesS).run id h args = bT (ba (bx) ((fun s => s.size ≤ 1099511627776))) ((fun s => .ret (quotO (ab s)))) h args := rfl
theorem quotes_pan {id : Nat} {h : ah} {args : List AV} : (quotesS).pan id h args = bU (ba (bx) ((fun s => s.size ≤ 1099511627776))) ((fun s => .ret (quotO (ab s)))) h args := rfl

end Go.Proofs.YtnhbidpdadkcjaaGreatDoor.Ly

/-! ## L4 -/
namespace Go.Proofs.YtnhbidpdadkcjaaGreatDoor.Ly
open Go.RowKit

theorem A7 (base : Int) (hb : 1 ≤ base) : ∀ (l : List Int) (n : Int), 0 ≤ n → n ≤ l.foldl (fun n c => n * base + bw c) n
  | [], n, _ => Int.le_refl _
  | c :: l, n, hn => by
    have h1 := kV c
    have h2 : n ≤ n * base := by
      have := Int.mul_le_mul_of_nonneg_left hb hn
      rwa [Int.mul_one] at this
    exact Int.le_trans (show n ≤ n * base + bw c by omega) (A7 base hb l _ (by omega))
theorem LB (base : Int) (hb : 1 ≤ base) (l : List Int) : 0 ≤ cK base l := A7 base hb l 0 (Int.le_refl _)
theorem uC (base : Int) (hb : 1 ≤ base) (l : List Int) (i : Nat) : cK base (l.take i) ≤ cK base l := by
  have h : cK base l = (l.drop i).foldl (fun n c => n * base + bw c) (cK base (l.take i)) := by
    unfold cK
    rw [← List.foldl_append, List.take_append_drop]
  rw [h]
  exact A7 base hb _ _ (LB base hb _)
theorem sk {c : Int} (h : 48 ≤ c ∧ c ≤ 57) : bw c = c - 48 := by unfold bw; rw [if_pos h]
theorem sn {c : Int} (h : 97 ≤ c ∧ c ≤ 102) : bw c = c - 87 := by unfold bw; rw [if_neg (by omega), if_pos h]
theorem sm {c : Int} (h : 65 ≤ c ∧ c ≤ 70) : bw c = c - 55 := by unfold bw; rw [if_neg (by omega), if_neg (by omega), if_pos h]
theorem kU {c : Int} (h : bw c < 16) : 48 ≤ c ∧ c ≤ 57 ∨ 97 ≤ c ∧ c ≤ 102 ∨ 65 ≤ c ∧ c ≤ 70 := by
  unfold bw at h
  split at h
  · omega
  · split at h
    · omega
    · split at h <;> omega
def tF (c : Int) : Int := bits .or .u8 c 32
theorem Io : ∀ n : Nat, n < 103 → 97 ≤ n → tF (n : Int) = n := by decide +kernel
theorem In : ∀ n : Nat, n < 71 → 65 ≤ n → tF (n : Int) = n + 32 := by decide +kernel
theorem O3 {c : Int} (h : 97 ≤ c ∧ c ≤ 102 ∨ 65 ≤ c ∧ c ≤ 70) : 97 ≤ tF c ∧ tF c ≤ 102 ∧ tF c - 97 + 10 = bw c := by
  have hc : c = ((c.toNat : Nat) : Int) := (Int.toNat_of_nonneg (by omega)).symm
  rcases h with h | h
  · have h1 := Io c.toNat (by omega) (by omega)
    rw [← hc] at h1
    rw [h1, sn h]; omega
  · have h1 := In c.toNat (by omega) (by omega)
    rw [← hc] at h1
    rw [h1, sm h]; omega

theorem KK (args : Array Value) (w : World) : (callFunc 283 args).run Tryz.prog w = .ok (.enter 283 args) w := by go_simp
def ux : bi Tryz.prog 283 :=
  mk1 _ _ _ Tryz.func283 rfl KK (bq .u8) ((fun _ => True)) ((fun c => .ret (.s (.l (.v (.int .u8 (tF c))))))) (by rw [Tryz.ntmps283]; decide) (fun c _ => by
  refine aa (ctx := []) 4000 ?_
  rw [Tryz.ntmps283, Tryz.results283]
  simp only [Tryz.f283, Option.getD_some, aC]
  simp only [go_sem, tF])
theorem fM {id : Nat} {h : ah} {args : List AV} : (ux).run id h args = bT (ba (bq .u8) ((fun _ => True))) ((fun c => .ret (.s (.l (.v (.int .u8 (tF c))))))) h args := rfl
theorem fL {id : Nat} {h : ah} {args : List AV} : (ux).pan id h args = bU (ba (bq .u8) ((fun _ => True))) ((fun c => .ret (.s (.l (.v (.int .u8 (tF c))))))) h args := rfl

def pq : TypeId := 277
theorem ly : og Tryz.prog 277 = true := by kernel_rfl
/-- what it comes to -/
def j9 (n : Int) : AV := if n < 18446744073709551616 then .tup [.l (.v (.int .u64 n)), .l (.v .nilIface)] else .tup [.l (.v (.int .u64 18446744073709551615)), .l (.v (.iface pq (.int .i64 1)))]
def vD (s : ByteArray) (base : Int) : Prop := 0 < s.size ∧ s.size ≤ 1099511627776 ∧ (base = 2 ∨ base = 10 ∨ base = 16) ∧ ∀ i : Nat, i < s.size → bw (aj s i) < base

set_option maxRecDepth 100000 in
set_option maxHeartbeats 4000000 in
theorem Mq (s : ByteArray) (base : Int) (h : vD s base) : SW Tryz.prog ⟨none, 0⟩ Tryz.f265.ntmps (Tryz.f265.body.getD .skip) ⟨0, aC 0 [bx.enc s, (bq .i64).enc base, (bq .i64).enc 64], []⟩ (es Tryz.prog Tryz.f265.results.toList (.ret (j9 (cK base (ab s))))) := by
  obtain ⟨hp, hsz, hb, hx⟩ := h
  have hpI : (0 : Int) < s.size := by omega
  have hne : ¬ s = emp := by rintro rfl; exact absurd hp (by decide)
  have hb1 : (1 : Int) ≤ base := by omega
  have loop : ∀ (st : St), dk st.t 0 = sv s → True := fun _ _ => trivial
  refine aa (ctx := [⟨_, ux⟩]) 4000 ?_
  rw [Tryz.ntmps265, Tryz.results265]
  simp only [Tryz.f265, Option.getD_some, aC]
  have hz : ¬ base = 0 := by omega
  have h2 : 2 ≤ base := by omega
  have h3 : base ≤ 36 := by omega
  have w1 : IntKind.u64.wrap 64 = 64 := by rfl
  have w2 : IntKind.u64.wrap (1 * 2 ^ min 64 IntKind.u64.bits) = 0 := by rfl
  have w3 : IntKind.u64.wrap (0 - 1) = 18446744073709551615 := by rfl
  rcases hb with rfl | rfl | rfl
  · have w4 : IntKind.u64.wrap 2 = 2 := by rfl
    have w5 : IntKind.u64.wrap (Int.tdiv 18446744073709551615 2) = 9223372036854775807 := by rfl
    have w6 : IntKind.u64.wrap (9223372036854775807 + 1) = 9223372036854775808 := by rfl
    simp only [go_sem, hne, aR, hz, h2, h3, w1, w2, w3, w4, w5, w6]
    refine ⟨by unfold maxLen; omega, cW (ι := Nat × Int) (fun p => p.1 ≤ s.size ∧ p.2 = cK 2 ((ab s).take p.1) ∧ 0 ≤ p.2 ∧ p.2 < 18446744073709551616) (fun p => ⟨1, [(1, iv 2), (8, bv false), (10, .s (.l (.v (.int .u64 9223372036854775808)))), (11, .s (.l (.v (.int .u64 18446744073709551615)))), (12, bv false), (13, .s (.l (.v (.int .u64 p.2)))), (99, .s (.l (.sl 0 0 s.size))), (100, iv s.size), (101, iv p.1)], [(0, some ⟨true, 5, 1, (ab s).map bp⟩)]⟩) (fun p => s.size - p.1) (0, 0) ⟨Nat.zero_le _, rfl, by simp only; omega, by simp only; omega⟩ ?_ ?_⟩
    · exact Wk.renL [688] (by simp) (by simp) (by simp) rfl (by simp [hget, Blk.ren, bp, LV.ren, Function.comp_def])
    rintro ⟨i, n⟩ ⟨hi, hn, hn0, hn1⟩
    simp only at hi hn hn0 hn1
    refine aa (ctx := [⟨_, ux⟩]) 4000 ?_
    by_cases hlt : i < s.size
    · have hltI : (i : Int) < s.size := by omega
      have hr := dV s i
      have hgt := d8 hlt
      have hc := hx i hlt
      have hh := kV (aj s i)
      have hnx : cK 2 ((ab s).take (i + 1)) = cK 2 ((ab s).take i) * 2 + bw (aj s i) := by rw [uS hlt, uB]
      have hle := uC 2 hb1 (ab s) (i + 1)
      rw [hnx, ← hn] at hle
      have wb : IntKind.u8.wrap 2 = 2 := by rfl
      have hnb : ¬ 2 ≤ bw (aj s i) := by omega
      have c1 : ¬ aj s i = 95 := by rintro e; rw [e] at hc; exact absurd hc (by decide)
      have c2 : 48 ≤ aj s i := by have := kU (c := aj s i) (by omega); omega
      by_cases c3 : aj s i ≤ 57
      · have hd := sk ⟨c2, c3⟩
        have d1 : IntKind.u8.wrap (aj s i - 48) = bw (aj s i) := by rw [IntKind.wrap_u8, hd]; omega
        by_cases hcut : (9223372036854775808 : Int) ≤ n
        · have e : j9 (cK 2 (ab s)) = .tup [.l (.v (.int .u64 18446744073709551615)), .l (.v (.iface pq (.int .i64 1)))] := by unfold j9; rw [if_neg (by omega)]
          simp only [go_sem, bp, fM, fL, hltI, hgt, c1, c2, c3, d1, hnb, hcut, wb, e, pq, ly]
        · have e1 : IntKind.u64.wrap (n * 2) = n * 2 := by rw [IntKind.wrap_u64]; omega
          have ei : IntKind.i64.wrap ((i : Int) + 1) = ((i + 1 : Nat) : Int) := by rw [IntKind.wrap_i64]; omega
          have e2 : IntKind.u64.wrap (bw (aj s i)) = bw (aj s i) := by rw [IntKind.wrap_u64]; omega
          by_cases hov : n * 2 + bw (aj s i) < 18446744073709551616
          · have e3 : IntKind.u64.wrap (n * 2 + bw (aj s i)) = n * 2 + bw (aj s i) := by rw [IntKind.wrap_u64]; omega
            have g1 : ¬ n * 2 + bw (aj s i) < n * 2 := by omega
            have g2 : ¬ 18446744073709551615 < n * 2 + bw (aj s i) := by omega
            simp only [go_sem, bp, fM, fL, hltI, hgt, c1, c2, c3, d1, hnb, hcut, wb, w4, e1, e2, e3, ei, g1, g2]
            exact ⟨(i + 1, n * 2 + bw (aj s i)), ⟨hlt, by simp only; rw [hnx, ← hn], by simp only; omega, hov⟩, by simp only; omega, Wk.renL [0] (by simp) (by simp) (by simp) rfl (by simp [hget, Blk.ren, bp, LV.ren, Function.comp_def])⟩
          · have e3 : IntKind.u64.wrap (n * 2 + bw (aj s i)) = n * 2 + bw (aj s i) - 18446744073709551616 := by rw [IntKind.wrap_u64]; omega
            have g1 : n * 2 + bw (aj s i) - 18446744073709551616 < n * 2 := by omega
            have e : j9 (cK 2 (ab s)) = .tup [.l (.v (.int .u64 18446744073709551615)), .l (.v (.iface pq (.int .i64 1)))] := by unfold j9; rw [if_neg (by omega)]
            simp only [go_sem, bp, fM, fL, hltI, hgt, c1, c2, c3, d1, hnb, hcut, wb, w4, e1, e2, e3, g1, e, pq, ly]
      · exfalso
        have := kU (c := aj s i) (by omega)
        rcases this with h | h | h
        · omega
        · rw [sn h] at hc; omega
        · rw [sm h] at hc; omega
    · have hltI : ¬ (i : Int) < s.size := by omega
      obtain rfl : i = s.size := by omega
      have ht : (ab s).take s.size = ab s := List.take_of_length_le (by rw [aW]; exact Nat.le_refl _)
      rw [ht] at hn
      have e : j9 (cK 2 (ab s)) = .tup [.l (.v (.int .u64 n)), .l (.v .nilIface)] := by unfold j9; rw [if_pos (by omega), hn]
      simp only [go_sem, hltI, e]
  · have w4 : IntKind.u64.wrap 10 = 10 := by rfl
    simp only [go_sem, hne, aR, hz, h2, h3, w1, w2, w3, w4]
    refine ⟨by unfold maxLen; omega, cW (ι := Nat × Int) (fun p => p.1 ≤ s.size ∧ p.2 = cK 10 ((ab s).take p.1) ∧ 0 ≤ p.2 ∧ p.2 < 18446744073709551616) (fun p => ⟨1, [(1, iv 10), (8, bv false), (10, .s (.l (.v (.int .u64 1844674407370955162)))), (11, .s (.l (.v (.int .u64 18446744073709551615)))), (12, bv false), (13, .s (.l (.v (.int .u64 p.2)))), (99, .s (.l (.sl 0 0 s.size))), (100, iv s.size), (101, iv p.1)], [(0, some ⟨true, 5, 1, (ab s).map bp⟩)]⟩) (fun p => s.size - p.1) (0, 0) ⟨Nat.zero_le _, rfl, by simp only; omega, by simp only; omega⟩ ?_ ?_⟩
    · exact Wk.renL [592] (by simp) (by simp) (by simp) rfl (by simp [hget, Blk.ren, bp, LV.ren, Function.comp_def])
    rintro ⟨i, n⟩ ⟨hi, hn, hn0, hn1⟩
    simp only at hi hn hn0 hn1
    refine aa (ctx := [⟨_, ux⟩]) 4000 ?_
    by_cases hlt : i < s.size
    · have hltI : (i : Int) < s.size := by omega
      have hr := dV s i
      have hgt := d8 hlt
      have hc := hx i hlt
      have hh := kV (aj s i)
      have hnx : cK 10 ((ab s).take (i + 1)) = cK 10 ((ab s).take i) * 10 + bw (aj s i) := by rw [uS hlt, uB]
      have hle := uC 10 hb1 (ab s) (i + 1)
      rw [hnx, ← hn] at hle
      have wb : IntKind.u8.wrap 10 = 10 := by rfl
      have hnb : ¬ 10 ≤ bw (aj s i) := by omega
      have c1 : ¬ aj s i = 95 := by rintro e; rw [e] at hc; exact absurd hc (by decide)
      have c2 : 48 ≤ aj s i := by have := kU (c := aj s i) (by omega); omega
      by_cases c3 : aj s i ≤ 57
      · have hd := sk ⟨c2, c3⟩
        have d1 : IntKind.u8.wrap (aj s i - 48) = bw (aj s i) := by rw [IntKind.wrap_u8, hd]; omega
        by_cases hcut : (1844674407370955162 : Int) ≤ n
        · have e : j9 (cK 10 (ab s)) = .tup [.l (.v (.int .u64 18446744073709551615)), .l (.v (.iface pq (.int .i64 1)))] := by unfold j9; rw [if_neg (by omega)]
          simp only [go_sem, bp, fM, fL, hltI, hgt, c1, c2, c3, d1, hnb, hcut, wb, e, pq, ly]
        · have e1 : IntKind.u64.wrap (n * 10) = n * 10 := by rw [IntKind.wrap_u64]; omega
          have ei : IntKind.i64.wrap ((i : Int) + 1) = ((i + 1 : Nat) : Int) := by rw [IntKind.wrap_i64]; omega
          have e2 : IntKind.u64.wrap (bw (aj s i)) = bw (aj s i) := by rw [IntKind.wrap_u64]; omega
          by_cases hov : n * 10 + bw (aj s i) < 18446744073709551616
          · have e3 : IntKind.u64.wrap (n * 10 + bw (aj s i)) = n * 10 + bw (aj s i) := by rw [IntKind.wrap_u64]; omega
            have g1 : ¬ n * 10 + bw (aj s i) < n * 10 := by omega
            have g2 : ¬ 18446744073709551615 < n * 10 + bw (aj s i) := by omega
            simp only [go_sem, bp, fM, fL, hltI, hgt, c1, c2, c3, d1, hnb, hcut, wb, w4, e1, e2, e3, ei, g1, g2]
            exact ⟨(i + 1, n * 10 + bw (aj s i)), ⟨hlt, by simp only; rw [hnx, ← hn], by simp only; omega, hov⟩, by simp only; omega, Wk.renL [0] (by simp) (by simp) (by simp) rfl (by simp [hget, Blk.ren, bp, LV.ren, Function.comp_def])⟩
          · have e3 : IntKind.u64.wrap (n * 10 + bw (aj s i)) = n * 10 + bw (aj s i) - 18446744073709551616 := by rw [IntKind.wrap_u64]; omega
            have g1 : n * 10 + bw (aj s i) - 18446744073709551616 < n * 10 := by omega
            have e : j9 (cK 10 (ab s)) = .tup [.l (.v (.int .u64 18446744073709551615)), .l (.v (.iface pq (.int .i64 1)))] := by unfold j9; rw [if_neg (by omega)]
            simp only [go_sem, bp, fM, fL, hltI, hgt, c1, c2, c3, d1, hnb, hcut, wb, w4, e1, e2, e3, g1, e, pq, ly]
      · exfalso
        have := kU (c := aj s i) (by omega)
        rcases this with h | h | h
        · omega
        · rw [sn h] at hc; omega
        · rw [sm h] at hc; omega
    · have hltI : ¬ (i : Int) < s.size := by omega
      obtain rfl : i = s.size := by omega
      have ht : (ab s).take s.size = ab s := List.take_of_length_le (by rw [aW]; exact Nat.le_refl _)
      rw [ht] at hn
      have e : j9 (cK 10 (ab s)) = .tup [.l (.v (.int .u64 n)), .l (.v .nilIface)] := by unfold j9; rw [if_pos (by omega), hn]
      simp only [go_sem, hltI, e]
  · have w4 : IntKind.u64.wrap 16 = 16 := by rfl
    simp only [go_sem, hne, aR, hz, h2, h3, w1, w2, w3, w4]
    refine ⟨by unfold maxLen; omega, cW (ι := Nat × Int) (fun p => p.1 ≤ s.size ∧ p.2 = cK 16 ((ab s).take p.1) ∧ 0 ≤ p.2 ∧ p.2 < 18446744073709551616) (fun p => ⟨1, [(1, iv 16), (8, bv false), (10, .s (.l (.v (.int .u64 1152921504606846976)))), (11, .s (.l (.v (.int .u64 18446744073709551615)))), (12, bv false), (13, .s (.l (.v (.int .u64 p.2)))), (99, .s (.l (.sl 0 0 s.size))), (100, iv s.size), (101, iv p.1)], [(0, some ⟨true, 5, 1, (ab s).map bp⟩)]⟩) (fun p => s.size - p.1) (0, 0) ⟨Nat.zero_le _, rfl, by simp only; omega, by simp only; omega⟩ ?_ ?_⟩
    · exact Wk.renL [624] (by simp) (by simp) (by simp) rfl (by simp [hget, Blk.ren, bp, LV.ren, Function.comp_def])
    rintro ⟨i, n⟩ ⟨hi, hn, hn0, hn1⟩
    simp only at hi hn hn0 hn1
    refine aa (ctx := [⟨_, ux⟩]) 4000 ?_
    by_cases hlt : i < s.size
    · have hltI : (i : Int) < s.size := by omega
      have hr := dV s i
      have hgt := d8 hlt
      have hc := hx i hlt
      have hh := kV (aj s i)
      have hnx : cK 16 ((ab s).take (i + 1)) = cK 16 ((ab s).take i) * 16 + bw (aj s i) := by rw [uS hlt, uB]
      have hle := uC 16 hb1 (ab s) (i + 1)
      rw [hnx, ← hn] at hle
      have wb : IntKind.u8.wrap 16 = 16 := by rfl
      have hnb : ¬ 16 ≤ bw (aj s i) := by omega
      have c1 : ¬ aj s i = 95 := by rintro e; rw [e] at hc; exact absurd hc (by decide)
      have c2 : 48 ≤ aj s i := by have := kU (c := aj s i) (by omega); omega
      by_cases c3 : aj s i ≤ 57
      · have hd := sk ⟨c2, c3⟩
        have d1 : IntKind.u8.wrap (aj s i - 48) = bw (aj s i) := by rw [IntKind.wrap_u8, hd]; omega
        by_cases hcut : (1152921504606846976 : Int) ≤ n
        · have e : j9 (cK 16 (ab s)) = .tup [.l (.v (.int .u64 18446744073709551615)), .l (.v (.iface pq (.int .i64 1)))] := by unfold j9; rw [if_neg (by omega)]
          simp only [go_sem, bp, fM, fL, hltI, hgt, c1, c2, c3, d1, hnb, hcut, wb, e, pq, ly]
        · have e1 : IntKind.u64.wrap (n * 16) = n * 16 := by rw [IntKind.wrap_u64]; omega
          have ei : IntKind.i64.wrap ((i : Int) + 1) = ((i + 1 : Nat) : Int) := by rw [IntKind.wrap_i64]; omega
          have e2 : IntKind.u64.wrap (bw (aj s i)) = bw (aj s i) := by rw [IntKind.wrap_u64]; omega
          by_cases hov : n * 16 + bw (aj s i) < 18446744073709551616
          · have e3 : IntKind.u64.wrap (n * 16 + bw (aj s i)) = n * 16 + bw (aj s i) := by rw [IntKind.wrap_u64]; omega
            have g1 : ¬ n * 16 + bw (aj s i) < n * 16 := by omega
            have g2 : ¬ 18446744073709551615 < n * 16 + bw (aj s i) := by omega
            simp only [go_sem, bp, fM, fL, hltI, hgt, c1, c2, c3, d1, hnb, hcut, wb, w4, e1, e2, e3, ei, g1, g2]
            exact ⟨(i + 1, n * 16 + bw (aj s i)), ⟨hlt, by simp only; rw [hnx, ← hn], by simp only; omega, hov⟩, by simp only; omega, Wk.renL [0] (by simp) (by simp) (by simp) rfl (by simp [hget, Blk.ren, bp, LV.ren, Function.comp_def])⟩
          · have e3 : IntKind.u64.wrap (n * 16 + bw (aj s i)) = n * 16 + bw (aj s i) - 18446744073709551616 := by rw [IntKind.wrap_u64]; omega
            have g1 : n * 16 + bw (aj s i) - 18446744073709551616 < n * 16 := by omega
            have e : j9 (cK 16 (ab s)) = .tup [.l (.v (.int .u64 18446744073709551615)), .l (.v (.iface pq (.int .i64 1)))] := by unfold j9; rw [if_neg (by omega)]
            simp only [go_sem, bp, fM, fL, hltI, hgt, c1, c2, c3, d1, hnb, hcut, wb, w4, e1, e2, e3, g1, e, pq, ly]
      · have hl := O3 (c := aj s i) (by have := kU (c := aj s i) (by omega); omega)
        obtain ⟨l1, l2, l3⟩ := hl
        have l4 : tF (aj s i) ≤ 122 := by omega
        have d1 : IntKind.u8.wrap (tF (aj s i) - 97) = tF (aj s i) - 97 := by rw [IntKind.wrap_u8]; omega
        have d2 : IntKind.u8.wrap (tF (aj s i) - 97 + 10) = bw (aj s i) := by rw [IntKind.wrap_u8, l3]; omega
        by_cases hcut : (1152921504606846976 : Int) ≤ n
        · have e : j9 (cK 16 (ab s)) = .tup [.l (.v (.int .u64 18446744073709551615)), .l (.v (.iface pq (.int .i64 1)))] := by unfold j9; rw [if_neg (by omega)]
          simp only [go_sem, bp, fM, fL, hltI, hgt, c1, c2, c3, l1, l4, d1, d2, hnb, hcut, wb, e, pq, ly]
        · have e1 : IntKind.u64.wrap (n * 16) = n * 16 := by rw [IntKind.wrap_u64]; omega
          have ei : IntKind.i64.wrap ((i : Int) + 1) = ((i + 1 : Nat) : Int) := by rw [IntKind.wrap_i64]; omega
          have e2 : IntKind.u64.wrap (bw (aj s i)) = bw (aj s i) := by rw [IntKind.wrap_u64]; omega
          by_cases hov : n * 16 + bw (aj s i) < 18446744073709551616
          · have e3 : IntKind.u64.wrap (n * 16 + bw (aj s i)) = n * 16 + bw (aj s i) := by rw [IntKind.wrap_u64]; omega
            have g1 : ¬ n * 16 + bw (aj s i) < n * 16 := by omega
            have g2 : ¬ 18446744073709551615 < n * 16 + bw (aj s i) := by omega
            simp only [go_sem, bp, fM, fL, hltI, hgt, c1, c2, c3, l1, l4, d1, d2, hnb, hcut, wb, w4, e1, e2, e3, ei, g1, g2]
            exact ⟨(i + 1, n * 16 + bw (aj s i)), ⟨hlt, by simp only; rw [hnx, ← hn], by simp only; omega, hov⟩, by simp only; omega, Wk.renL [0] (by simp) (by simp) (by simp) rfl (by simp [hget, Blk.ren, bp, LV.ren, Function.comp_def])⟩
          · have e3 : IntKind.u64.wrap (n * 16 + bw (aj s i)) = n * 16 + bw (aj s i) - 18446744073709551616 := by rw [IntKind.wrap_u64]; omega
            have g1 : n * 16 + bw (aj s i) - 18446744073709551616 < n * 16 := by omega
            have e : j9 (cK 16 (ab s)) = .tup [.l (.v (.int .u64 18446744073709551615)), .l (.v (.iface pq (.int .i64 1)))] := by unfold j9; rw [if_neg (by omega)]
            simp only [go_sem, bp, fM, fL, hltI, hgt, c1, c2, c3, l1, l4, d1, d2, hnb, hcut, wb, w4, e1, e2, e3, g1, e, pq, ly]
    · have hltI : ¬ (i : Int) < s.size := by omega
      obtain rfl : i = s.size := by omega
      have ht : (ab s).take s.size = ab s := List.take_of_length_le (by rw [aW]; exact Nat.le_refl _)
      rw [ht] at hn
      have e : j9 (cK 16 (ab s)) = .tup [.l (.v (.int .u64 n)), .l (.v .nilIface)] := by unfold j9; rw [if_pos (by omega), hn]
      simp only [go_sem, hltI, e]

theorem Rc (args : Array Value) (w : World) : (callFunc 265 args).run Tryz.prog w = .ok (.enter 265 args) w := by go_simp
def RI : bi Tryz.prog 265 :=
  mk3 _ _ _ Tryz.func265 rfl Rc (bx) (bq .i64) (bq .i64) ((fun s b n => vD s b ∧ n = 64)) ((fun s b _ => .ret (j9 (cK b (ab s))))) (by rw [Tryz.ntmps265]; decide) (fun s b n h => by
  obtain ⟨h, rfl⟩ := h
  exact Mq s b h)
theorem Gy {id : Nat} {h : ah} {args : List AV} : (RI).run id h args = bT (rD (bx) (bq .i64) (bq .i64) ((fun s b n => vD s b ∧ n = 64))) (fun x => ((fun s b _ => .ret (j9 (cK b (ab s))))) x.1 x.2.1 x.2.2) h args := rfl
theorem Gx {id : Nat} {h : ah} {args : List AV} : (RI).pan id h args = bU (rD (bx) (bq .i64) (bq .i64) ((fun s b n => vD s b ∧ n = 64))) (fun x => ((fun s b _ => .ret (j9 (cK b (ab s))))) x.1 x.2.1 x.2.2) h args := rfl

end Go.Proofs.YtnhbidpdadkcjaaGreatDoor.Ly

/-! ## L5 -/
namespace Go.Proofs.YtnhbidpdadkcjaaGreatDoor.Ly
open Go.RowKit Go.Shelf

/-! ### The kit's rangeError, Rr at this program -/
def TQ : Ren := ⟨fun k => if k = 22 then 286 else if k = 25 then 294 else k,
  fun k => if k = 0 then 0 else if k = 3 then 3 else if k = 4 then 4 else if k = 5 then 5 else if k = 9 then 9 else if k = 24 then 109 else if k = 37 then 39 else if k = 39 then 278 else if k = 44 then 284 else if k = 47 then 160 else if k = 67 then 113 else k,
  fun k => if k = 1 then 3 else k⟩
theorem pu22 : Go.Proofs.LaysPu.n22 Tryz.prog TQ where
  mixed := by kernel_rfl
  f22 := by kernel_rfl
  f25 := by kernel_rfl
  t0 := by kernel_rfl
  a0 := fun w => by kernel_rfl
  z0 := fun w => by kernel_rfl
  v0 := fun w => by kernel_rfl
  i0 := by kernel_rfl
  t3 := by kernel_rfl
  a3 := fun w => by kernel_rfl
  z3 := fun w => by kernel_rfl
  v3 := fun w => by kernel_rfl
  i3 := by kernel_rfl
  t4 := by kernel_rfl
  a4 := fun w => by kernel_rfl
  z4 := fun w => by kernel_rfl
  v4 := fun w => by kernel_rfl
  i4 := by kernel_rfl
  t5 := by kernel_rfl
  a5 := fun w => by kernel_rfl
  z5 := fun w => by kernel_rfl
  v5 := fun w => by kernel_rfl
  i5 := by kernel_rfl
  t9 := by kernel_rfl
  a9 := fun w => by kernel_rfl
  z9 := fun w => by kernel_rfl
  v9 := fun w => by kernel_rfl
  i9 := by kernel_rfl
  t24 := by kernel_rfl
  a24 := fun w => by kernel_rfl
  z24 := fun w => by kernel_rfl
  v24 := fun w => by kernel_rfl
  i24 := by kernel_rfl
  t37 := by kernel_rfl
  a37 := fun w => by kernel_rfl
  z37 := fun w => by kernel_rfl
  v37 := fun w => by kernel_rfl
  i37 := by kernel_rfl
  t39 := by kernel_rfl
  a39 := fun w => by kernel_rfl
  z39 := fun w => by kernel_rfl
  v39 := fun w => by kernel_rfl
  i39 := by kernel_rfl
  t44 := by kernel_rfl
  a44 := fun w => by kernel_rfl
  z44 := fun w => by kernel_rfl
  v44 := fun w => by kernel_rfl
  i44 := by kernel_rfl
  t47 := by kernel_rfl
  a47 := fun w => by kernel_rfl
  z47 := fun w => by kernel_rfl
  v47 := fun w => by kernel_rfl
  i47 := by kernel_rfl
  t67 := by kernel_rfl
  a67 := fun w => by kernel_rfl
  z67 := fun w => by kernel_rfl
  v67 := fun w => by kernel_rfl
  i67 := by kernel_rfl
  g1 := by kernel_rfl
  m1 := by kernel_rfl

theorem Bi (fn s : ByteArray) (ev : Value) (w : World) (hlim : s.size ≤ 281474976710656) (hv : w.cell? ⟨3, 0, none⟩ = some ev) (hev : ev = .nilIface ∨ ∃ te pe, ev = .iface te pe) :
    Calls Tryz.prog 286 #[.string fn, .string s] w fun e w' => (∃ N, e = .returned (.pointer (some ⟨N, 0, none⟩))) ∧ Below w.heap.size w w' :=
  (AnyPu.strconv_rangeError pu22 fn s ev w hlim hv hev).mono fun e w' ⟨N, h1, _, _, h2⟩ => ⟨⟨N, h1⟩, h2⟩

set_option maxHeartbeats 4000000 in
set_option maxRecDepth 100000 in
theorem Jz (fn s : ByteArray) (base bits : Int) (ev : Value) (w : World) (hlim : s.size ≤ 281474976710656) (hv : w.cell? ⟨3, 0, none⟩ = some ev) (hev : ev = .nilIface ∨ ∃ te pe, ev = .iface te pe) :
    Calls Tryz.prog 266 #[.string fn, .string s, .int .i64 base, .int .i64 bits, .iface 277 (.int .i64 1)] w fun e w' => (∃ N, e = .returned (.iface 278 (.pointer (some ⟨N, 0, none⟩)))) ∧ Below w.heap.size w w' := by
  have hu : Tryz.prog.underlying 109 = some (.interface #[("Error", 113)]) := by kernel_rfl
  have hc : (Tryz.prog.info? 277).map (·.comparable) = some true := by kernel_rfl
  have hi : Tryz.prog.underlying 277 = some (.int .i64) := by kernel_rfl
  have q2 : ∀ W, (binOp .eql 109 (.iface 277 (.int .i64 1)) (.iface 277 (.int .i64 2))).run Tryz.prog W = .ok (.bool false) W := fun W => Lib.run_eql_iface_int W 1 2 hu hc hi
  have q1 : ∀ W, (binOp .eql 109 (.iface 277 (.int .i64 1)) (.iface 277 (.int .i64 1))).run Tryz.prog W = .ok (.bool true) W := fun W => Lib.run_eql_iface_int W 1 1 hu hc hi
  go_enter Tryz.func266, Tryz.ntmps266
  go_wp2_with (go_at_call 286; refine (Bi fn s ev _ hlim ?_ hev).mono ?_)
  · exact hv
  rintro e w2 ⟨⟨N, rfl⟩, h3⟩
  go_wp2
  go_ret
  exact ⟨⟨N, rfl⟩, h3⟩

end Go.Proofs.YtnhbidpdadkcjaaGreatDoor.Ly

/-! ## L6 -/
namespace Go.Proofs.YtnhbidpdadkcjaaGreatDoor.Ly
open Go.RowKit

def PL {X : Type} (dec : List AV → Option (Prop × X)) (out : X → AV) (zs : List AV) : Option Res := match dec zs with | some (q, x) => some ⟨q, out x, []⟩ | none => none
/-- a function of plain values; its result hangs on lasting memory at most -/
def mkS {P : Program} {X : Type} (f : FuncId) (hen : ∀ (args : Array Value) (w : World), (callFunc f args).run P w = .ok (.enter f args) w) (dec : List AV → Option (Prop × X)) (vs : X → List Value) (out : X → AV)
    (hdec : ∀ {zs : List AV} {q : Prop} {x : X}, dec zs = some (q, x) → ∀ (ρ : Nat → Loc) (al : Al) (vals : List Value), AsRep ρ al zs vals → vals = vs x)
    (hout : ∀ (x : X) (ρ : Nat → Loc) (al : Al) (v : Value), ARep ρ0 (al0 al.M) (out x) v → ARep ρ al (out x) v)
    (calls : ∀ {zs : List AV} {q : Prop} {x : X}, dec zs = some (q, x) → q → ∀ (M : Mem) (w : World), Gok M → (∀ b o y, M b o = some y → w.cell? ⟨b, o, none⟩ = some y) →
      Calls P f (vs x).toArray w fun e w' => (∃ v, e = .returned v ∧ ARep ρ0 (al0 M) (out x) v) ∧ Below w.heap.size w w') : bi P f where
  enter := hen
  run := fun _ _ args => PL dec out args
  mono := by
    intro id h h' args R hs hr
    exact hr
  sound := by
    intro id h args R hr hob B w0 ρ al w vals H hid hA
    unfold PL at hr
    split at hr
    case h_2 => cases hr
    rename_i q x hd
    injection hr with hr
    subst hr
    obtain rfl := hdec hd ρ al vals hA
    refine (calls hd hob al.M w H.gok (fun b o y hy => H.mem b o y hy)).mono ?_
    rintro e w' ⟨⟨v, rfl, hv⟩, hb⟩
    exact ⟨v, ρ, al, rfl, .refl _ _, fun b hb => .inl hb, hout x ρ al v hv, H.step (.refl _ _) (H.below.trans ((vx hb).mono fun k hk => H.size k hk)) (fun b k hk hc => hb.block _ (H.lt hk hc)) (fun b ⟨_, _, hb'⟩ => hb.block _ (H.memLt hb'))⟩

/-! ### Functions that look at one number of their caller's -/
structure Xb (X : Type) where
  dec : List AV → Option (Nat × X)
  enc : X → List AV
  len : Nat
  enc_len : ∀ x, (enc x).length = len
  ok : ∀ {zs : List AV} {b : Nat} {x : X}, dec zs = some (b, x) → ∀ {ρ ρ' : Nat → Loc} {al al' : Al} {vals : List Value}, (∀ y, LRep ρ al (.p b 0 0) y → LRep ρ' al' (.p 0 0 0) y) → al.M.le al'.M → AsRep ρ al zs vals → AsRep ρ' al' (enc x) vals
def d9 (T : TypeId) (z : Int) : Blk := ⟨true, T, 1, [[.v (.int .i64 z)]]⟩
def p7 {X : Type} (T : TypeId) (D : Xb X) (q : X → Int → Prop) (h : ah) (zs : List AV) : Option (Prop × List Nat × (X × Int)) :=
  match D.dec zs with
  | some (b, x) => match hget h b with
    | some ⟨true, T', 1, [[.v (.int .i64 z)]]⟩ => if T' = T then some (q x z, [b], (x, z)) else none
    | _ => none
  | none => none
theorem uj {X : Type} {T : TypeId} {D : Xb X} {q : X → Int → Prop} {h : ah} {zs : List AV} {r : Prop × List Nat × (X × Int)} (hd : p7 T D q h zs = some r) : ∃ b x z, D.dec zs = some (b, x) ∧ hget h b = some (d9 T z) ∧ r = (q x z, [b], (x, z)) := by
  unfold p7 at hd
  split at hd
  case h_2 => cases hd
  rename_i b x h1
  split at hd
  case h_2 => cases hd
  rename_i T' z h2
  split at hd
  case isFalse => cases hd
  rename_i e
  subst e
  injection hd with hd
  exact ⟨b, x, z, h1, h2, hd.symm⟩
def mkB {P : Program} {X : Type} (f : FuncId) (fn : Func) (c : Code) (hf : P.funcs[f]? = some fn) (hb : fn.body = some c)
    (hen : ∀ (args : Array Value) (w : World), (callFunc f args).run P w = .ok (.enter f args) w) (T : TypeId) (D : Xb X) (q : X → Int → Prop) (out : X → Int → AV) (hn : D.len ≤ fn.ntmps)
    (body : ∀ x z, q x z → SW P ⟨none, 1⟩ fn.ntmps c ⟨1, aC 0 (D.enc x), bB 0 [d9 T z]⟩ (dy P fn.results.toList 1 (.ret (out x z) [some (d9 T z)] []))) : bi P f :=
  mkR 1 1 (by decide) f fn c hf hb hen (p7 T D q) (fun x => D.enc x.1) (fun x => [d9 T x.2]) (fun x => .ret (out x.1 x.2) [some (d9 T x.2)] [])
    (by
      intro h h' args r hs hd
      obtain ⟨b, x, z, h1, h2, rfl⟩ := uj hd
      unfold p7
      rw [h1]
      simp only [hs _ _ h2, d9, if_true])
    (by
      intro h zs q' bs x hd hq
      obtain ⟨b, x', z, h1, h2, e⟩ := uj hd
      injection e with e1 e
      injection e with e2 e3
      subst e2
      subst e3
      refine ⟨by rw [D.enc_len]; exact hn, rfl, rfl, by simp, fun d => ⟨?_, ?_⟩⟩
      · intro j b' k hj hk
        match j, hj, hk with
        | 0, hj, hk =>
          simp at hj hk
          subst hj
          subst hk
          exact ⟨rfl, by rw [h2]; rfl⟩
      · intro ρ al vals hA
        exact D.ok (al := al) h1 (fun y hy => hy) (Mem.le_refl _) hA)
    (by
      intro h zs q' bs x hd hq
      obtain ⟨b, x', z, h1, h2, e⟩ := uj hd
      injection e with e1 e
      injection e with e2 e3
      subst e1
      subst e3
      exact body _ _ hq)

/-- number$1: a digit of a number to that base -/
def yE : Xb Int where
  dec := fun | [.s (.l (.v (.int .u8 c))), .s (.l (.p b 0 0))] => some (b, c) | _ => none
  enc := fun c => [.s (.l (.v (.int .u8 c))), pv 0 0 0]
  len := 2
  enc_len := fun _ => rfl
  ok := by
    intro zs b x h ρ ρ' al al' vals hp hM hA
    split at h
    · injection h with h
      injection h with h1 h2
      subst h1
      subst h2
      match vals, hA with
      | [v, u], ⟨a, b, _⟩ => exact ⟨a, hp u b, trivial⟩
    · cases h
theorem KJ (args : Array Value) (w : World) : (callFunc 248 args).run Tryz.prog w = .ok (.enter 248 args) w := by go_simp
theorem Lh {st : St} {r : AV} {k : Blk} (hr : r.plain = true) (hk : hget st.h 0 = some k) (ho : k.own = true) (hren : ∀ g, k.ren g = k) : oH 1 st (.ret r [some k] []) (some r) := by
  refine ⟨hr, [some k], [], rfl, rfl, by simp, by simpa using ho, by simp, Wk.ren [0] (by intro j hj; have : j = 0 := (by simpa using hj); subst this; rfl) (by simp) (by simp) (fun p hp => by cases hp) ?_⟩
  intro p hp k' hk'
  simp only [gm, bB, List.append_nil, List.mem_cons, List.not_mem_nil, or_false] at hp
  subst hp
  simp only [Option.some.injEq] at hk'
  subst hk'
  rw [hren]
  exact hk
theorem CM (T : TypeId) (z : Int) (g : Nat → Nat) : (d9 T z).ren g = d9 T z := rfl
theorem K7 (c z : Int) (h : 0 ≤ c ∧ c ≤ 255) : SW Tryz.prog ⟨none, 1⟩ Tryz.f248.ntmps (Tryz.f248.body.getD .skip) ⟨1, aC 0 [.s (.l (.v (.int .u8 c))), pv 0 0 0], bB 0 [d9 3 z]⟩ (dy Tryz.prog Tryz.f248.results.toList 1 (.ret (bv (decide (bw c < z))) [some (d9 3 z)] [])) := by
  refine aa (ctx := [⟨_, Ep⟩]) 4000 ?_
  rw [Tryz.ntmps248, Tryz.results248]
  simp only [Tryz.f248, Option.getD_some, aC]
  simp only [go_sem, d9]
  refine bI (ctx := [⟨_, Ep⟩]) mixed [] (by kernel_rfl) ?_
  simp only [go_sem, d9, tt, tr, h]
  exact Lh rfl rfl rfl (fun _ => rfl)
def AW : bi Tryz.prog 248 :=
  mkB _ _ _ Tryz.func248 rfl KJ 3 yE (fun c _ => 0 ≤ c ∧ c ≤ 255) (fun c z => bv (decide (bw c < z))) (by rw [Tryz.ntmps248]; decide) (fun c z h => K7 c z h)
theorem zz {id : Nat} {h : ah} {args : List AV} : AW.run id h args = gu 1 (p7 3 yE (fun c _ => 0 ≤ c ∧ c ≤ 255)) (fun x => .ret (bv (decide (bw x.1 < x.2))) [some (d9 3 x.2)] []) id h args := rfl
theorem zy {id : Nat} {h : ah} {args : List AV} : AW.pan id h args = fX (p7 3 yE (fun c _ => 0 ≤ c ∧ c ≤ 255)) (fun x => .ret (bv (decide (bw x.1 < x.2))) [some (d9 3 x.2)] []) h args := rfl

/-- run over digits -/
def xg : AV := .fn 248 [] [.p 0 0 0]
def qQ : Xb ByteArray where
  dec := fun | [.s (.l (.v (.string s))), .fn g [] [.p b 0 0]] => if g = 248 then some (b, s) else none | _ => none
  enc := fun s => [sv s, xg]
  len := 2
  enc_len := fun _ => rfl
  ok := by
    intro zs b x h ρ ρ' al al' vals hp hM hA
    split at h
    · split at h
      · rename_i e
        subst e
        injection h with h
        injection h with h1 h2
        subst h1
        subst h2
        match vals, hA with
        | [v, u], ⟨a, b, _⟩ =>
          refine ⟨a, ?_, trivial⟩
          obtain ⟨f, c, e1, e2, e3⟩ := b
          match c, e3 with
          | [y], ⟨o, g1, _⟩ => exact ⟨f, [y], e1, (match f, e2 with | [], _ => trivial), o, hp y g1, trivial⟩
      · cases h
    · cases h
theorem OO (args : Array Value) (w : World) : (callFunc 117 args).run Tryz.prog w = .ok (.enter 117 args) w := by go_simp
def gR (z : Int) (s : ByteArray) : Nat := cz z (ab s)
theorem Co (z : Int) {s : ByteArray} {i : Nat} (h : i < s.size) : cz z ((ab s).drop i) = if bw (aj s i) < z then 1 + cz z ((ab s).drop (i + 1)) else 0 := by
  unfold cz
  rw [Jc _ _ _ (by rw [aW]; exact h), mH]
  simp only [decide_eq_true_eq]
set_option maxHeartbeats 1000000 in
theorem PK (s : ByteArray) (z : Int) (hs : s.size ≤ 1099511627776) : SW Tryz.prog ⟨none, 1⟩ Tryz.f117.ntmps (Tryz.f117.body.getD .skip) ⟨1, aC 0 [sv s, xg], bB 0 [d9 3 z]⟩ (dy Tryz.prog Tryz.f117.results.toList 1 (.ret (iv (cz z (ab s))) [some (d9 3 z)] [])) := by
  refine aa (ctx := [⟨_, AW⟩]) 4000 ?_
  rw [Tryz.ntmps117, Tryz.results117]
  simp only [Tryz.f117, Option.getD_some, aC]
  simp only [go_sem, d9, xg]
  refine cW (ι := Nat) (fun i => i ≤ s.size ∧ cz z (ab s) = i + cz z ((ab s).drop i)) (fun i => ⟨1, [(0, sv s), (1, xg), (5, iv i)], [(0, some (d9 3 z))]⟩) (fun i => s.size - i) 0 ⟨Nat.zero_le _, by simp⟩ (Wk.renL [0] (by simp) (by simp) (by simp) rfl rfl) ?_
  rintro i ⟨hi, hr⟩
  refine aa (ctx := [⟨_, AW⟩]) 4000 ?_
  have hb := dV s i
  have hdz : ∀ d : Nat, cz z ((ab s).drop (s.size + d)) = 0 := fun d => MS _ _ _ (by rw [aW]; omega)
  by_cases hlt : i < s.size
  · have hltI : (i : Int) < s.size := by omega
    have hst := Co z hlt
    have ei : IntKind.i64.wrap ((i : Int) + 1) = ((i + 1 : Nat) : Int) := by rw [IntKind.wrap_i64]; omega
    by_cases hx : bw (aj s i) < z
    · rw [if_pos hx] at hst
      simp only [go_sem, d9, xg, zz, zy, p7, yE, hltI, hx, hb, ei]
      exact ⟨i + 1, ⟨hlt, by rw [hr, hst]; omega⟩, by omega, Wk.renL [0] (by simp) (by simp) (by simp) rfl rfl⟩
    · rw [if_neg hx] at hst
      have e : cz z (ab s) = i := by omega
      simp only [go_sem, d9, xg, zz, zy, p7, yE, hltI, hx, hb, e]
      exact Lh rfl rfl rfl (fun _ => rfl)
  · have hltI : ¬ (i : Int) < s.size := by omega
    obtain rfl : i = s.size := by omega
    have e : cz z (ab s) = s.size := by have := hdz 0; rw [Nat.add_zero] at this; omega
    simp only [go_sem, d9, xg, hltI, e]
    exact Lh rfl rfl rfl (fun _ => rfl)
def MQ : bi Tryz.prog 117 :=
  mkB _ _ _ Tryz.func117 rfl OO 3 qQ (fun s _ => s.size ≤ 1099511627776) (fun s z => iv (cz z (ab s))) (by rw [Tryz.ntmps117]; decide) (fun s z h => PK s z h)
theorem lL {id : Nat} {h : ah} {args : List AV} : MQ.run id h args = gu 1 (p7 3 qQ (fun s _ => s.size ≤ 1099511627776)) (fun x => .ret (iv (cz x.2 (ab x.1))) [some (d9 3 x.2)] []) id h args := rfl
theorem lK {id : Nat} {h : ah} {args : List AV} : MQ.pan id h args = fX (p7 3 qQ (fun s _ => s.size ≤ 1099511627776)) (fun x => .ret (iv (cz x.2 (ab x.1))) [some (d9 3 x.2)] []) h args := rfl

/-! ### interfaces that are not nil -/
theorem vP {P : Program} {t : TypeId} {u v : Value} {x y : Operand} {b : Bool} {w : World} (h1 : binOp .neq t u v = (do pure (.bool (!(← Op.equal t u v))))) (h3 : (eqGuard .neq t x y u v).run P w = .ok () w) (h4 : ∀ d, (Op.equalIn (d + 1) t u v).run P w = .ok b w) : (do eqGuard .neq t x y u v; binOp .neq t u v : Sem Value).run P w = .ok (.bool (!b)) w := by
  have h5 : (Op.equal t u v).run P w = .ok b w := by
    unfold Op.equal
    rw [show Op.maxDepth = 9999 + 1 from rfl]
    exact h4 9999
  rw [Sem.run_bind, h3, Result.andThen_ok, h1, Sem.run_bind, h5]
  rfl
theorem yU {P : Program} {t u : TypeId} {v c : Value} {x : Operand} (h : kT P t = 4) : l9 P (do eqGuard .neq t x (.const c) (.iface u v) .nilIface; binOp .neq t (.iface u v) .nilIface) = some (.bool true) := by
  obtain ⟨ms, hu⟩ := tx h
  exact lH fun w => vP (b := false) rfl rfl (fun d => by simp only [Op.equalIn, Sem.run_bind, run_underlying hu, Result.andThen_ok]; rfl)
theorem vG {P : Program} {t : TypeId} {c : Value} {x : Operand} (h : kT P t = 4) : l9 P (do eqGuard .neq t x (.const c) .nilIface .nilIface; binOp .neq t .nilIface .nilIface) = some (.bool false) := by
  obtain ⟨ms, hu⟩ := tx h
  exact lH fun w => vP (b := true) rfl (by cases x <;> rfl) (fun d => by simp only [Op.equalIn, Sem.run_bind, run_underlying hu, Result.andThen_ok]; rfl)

/-! ### strconv.ParseUint -/
theorem KO (args : Array Value) (w : World) : (callFunc 266 args).run Tryz.prog w = .ok (.enter 266 args) w := by go_simp
def tl : LV := .d (.ifc 278 (.pd []))
def AC : List AV → Option (Prop × (ByteArray × ByteArray × Int × Int))
  | [.s (.l (.v (.string a))), .s (.l (.v (.string s))), .s (.l (.v (.int .i64 x))), .s (.l (.v (.int .i64 y))), .s (.l (.v (.iface T (.int .i64 1))))] => some (s.size ≤ 281474976710656 ∧ T = 277, (a, s, x, y))
  | _ => none
def ta (zs : List AV) : Option (Prop × (List AV × (ByteArray × ByteArray × Int × Int))) := match AC zs with | some (q, x) => some (q, (zs, x)) | none => none
def FN : bi Tryz.prog 266 :=
  mkS _ KO ta (fun x => match x.1 with
      | [.s (.l (.v a)), .s (.l (.v b)), .s (.l (.v c)), .s (.l (.v d)), .s (.l (.v e))] => [a, b, c, d, e]
      | _ => []) (fun _ => .s (.l tl))
    (by
      intro zs q x hd ρ al vals hA
      unfold ta at hd
      split at hd
      case h_2 => cases hd
      rename_i q' y h1
      injection hd with hd
      injection hd with e1 e2
      subst e2
      unfold AC at h1
      split at h1
      · match vals, hA with
        | [a, b, c, d, e], ⟨h1, h2, h3, h4, h5, _⟩ =>
          obtain rfl := (show a = _ from h1)
          obtain rfl := (show b = _ from h2)
          obtain rfl := (show c = _ from h3)
          obtain rfl := (show d = _ from h4)
          obtain rfl := (show e = _ from h5)
          rfl
      · cases h1)
    (fun _ _ _ _ h => h)
    (by
      intro zs q x hd hq M w hG hM
      unfold ta at hd
      split at hd
      case h_2 => cases hd
      rename_i q' y h1
      injection hd with hd
      injection hd with e1 e2
      subst e2
      subst e1
      unfold AC at h1
      split at h1
      · injection h1 with h1
        injection h1 with e1 e2
        subst e1
        obtain ⟨hs, rfl⟩ := hq
        obtain ⟨⟨ev, he1, he2⟩, _⟩ := hG
        refine (Jz _ _ _ _ ev w hs (hM _ _ _ he1) he2).mono ?_
        rintro e w' ⟨⟨N, rfl⟩, hb⟩
        refine ⟨⟨_, rfl, ?_⟩, hb⟩
        simp only [ARep, SRep, LRep, tl, DRep, DsAt]
        exact ⟨_, rfl, N, 0, rfl, trivial⟩
      · cases h1)
theorem JB {id : Nat} {h : ah} {zs : List AV} : FN.run id h zs = PL ta (fun _ => .s (.l tl)) zs := rfl
theorem JA {id : Nat} {h : ah} {zs : List AV} : FN.pan id h zs = none := rfl

def na (n : Int) : AV := if n < 18446744073709551616 then .tup [.l (.v (.int .u64 n)), .l (.v .nilIface)] else .tup [.l (.v (.int .u64 18446744073709551615)), .l tl]
theorem w8 (args : Array Value) (w : World) : (callFunc 250 args).run Tryz.prog w = .ok (.enter 250 args) w := by go_simp
def parseS : bi Tryz.prog 250 :=
  mk3 _ _ _ Tryz.func250 rfl w8 (bx) (bq .i64) (bq .i64) ((fun s b n => vD s b ∧ n = 64)) ((fun s b _ => .ret (na (cK b (ab s))))) (by rw [Tryz.ntmps250]; decide) (fun s b n h => by
  obtain ⟨h, rfl⟩ := h
  have hsz : s.size ≤ 281474976710656 := by have := h.2.1; omega
  refine aa (ctx := [⟨_, RI⟩, ⟨_, FN⟩]) 4000 ?_
  rw [Tryz.ntmps250, Tryz.results250]
  simp only [Tryz.f250, Option.getD_some, aC]
  have hb1 := @vG Tryz.prog 109 .nilIface (.tmp 17) (by kernel_rfl)
  have hb2 : ∀ u v, _ := fun u v => @yU Tryz.prog 109 u v .nilIface (.tmp 17) (by kernel_rfl)
  by_cases hn : cK b (ab s) < 18446744073709551616
  · have e1 : j9 (cK b (ab s)) = .tup [.l (.v (.int .u64 (cK b (ab s)))), .l (.v .nilIface)] := by unfold j9; rw [if_pos hn]
    have e2 : na (cK b (ab s)) = .tup [.l (.v (.int .u64 (cK b (ab s)))), .l (.v .nilIface)] := by unfold na; rw [if_pos hn]
    simp only [go_sem, Gy, Gx, h, e1, e2, ↓hb1]
  · have e1 : j9 (cK b (ab s)) = .tup [.l (.v (.int .u64 18446744073709551615)), .l (.v (.iface pq (.int .i64 1)))] := by unfold j9; rw [if_neg hn]
    have e2 : na (cK b (ab s)) = .tup [.l (.v (.int .u64 18446744073709551615)), .l tl] := by unfold na; rw [if_neg hn]
    simp only [go_sem, Gy, Gx, h, e1, e2, pq, JB, JA, PL, ta, AC, hsz, tl, ↓hb2])
theorem parse_run {id : Nat} {h : ah} {args : List AV} : (parseS).run id h args = bT (rD (bx) (bq .i64) (bq .i64) ((fun s b n => vD s b ∧ n = 64))) (fun x => ((fun s b _ => .ret (na (cK b (ab s))))) x.1 x.2.1 x.2.2) h args := rfl
theorem parse_pan {id : Nat} {h : ah} {args : List AV} : (parseS).pan id h args = bU (rD (bx) (bq .i64) (bq .i64) ((fun s b n => vD s b ∧ n = 64))) (fun x => ((fun s b _ => .ret (na (cK b (ab s))))) x.1 x.2.1 x.2.2) h args := rfl

end Go.Proofs.YtnhbidpdadkcjaaGreatDoor.Ly

/-! ## L7 -/
namespace Go.Proofs.YtnhbidpdadkcjaaGreatDoor.Ly
open Go.RowKit
def cQ (l : List Int) : AV := .tup [.l (.v (.int .u64 (cA l).1)), .l (.v (.int .i64 (cA l).2))]

theorem tO {s : ByteArray} {base : Int} {head n : Nat} (hs : s.size ≤ 1099511627776) (hb : base = 2 ∨ base = 10 ∨ base = 16) (hn : cz base ((ab s).drop head) = n) (h0 : 0 < n) (hle : head + n ≤ s.size) : vD (s.extract head (head + n)) base := by
  have hsz : (s.extract head (head + n)).size = n := by
    rw [← aW, d7, List.length_take, List.length_drop, aW]; omega
  refine ⟨by omega, by omega, hb, fun i hi => ?_⟩
  have hi' : i < n := by omega
  have h1 := nP (fun c => decide (bw c < base)) ((ab s).drop head) i (by unfold cz at hn; omega)
  simp only [decide_eq_true_eq] at h1
  rw [mH, d7, show head + n - head = n by omega]
  have : bAt (((ab s).drop head).take n) i = bAt ((ab s).drop head) i := by
    unfold bAt
    rw [List.getD_eq_getElem?_getD, List.getD_eq_getElem?_getD, List.getElem?_take_of_lt hi']
  rw [this]
  exact h1
theorem Gb {s : ByteArray} {head n : Nat} : ab (s.extract head (head + n)) = ((ab s).drop head).take n := by
  rw [d7, show head + n - head = n by omega]

set_option maxRecDepth 100000 in
set_option maxHeartbeats 4000000 in
theorem zI (s : ByteArray) (h0 : 0 < s.size) (hs : s.size ≤ 1099511627776) : SW Tryz.prog ⟨none, 0⟩ Tryz.f233.ntmps (Tryz.f233.body.getD .skip) ⟨0, aC 0 [bx.enc s], []⟩ (es Tryz.prog Tryz.f233.results.toList (.ret (cQ (ab s)))) := by
  refine aa (ctx := [⟨_, tq⟩, ⟨_, Ft⟩, ⟨_, MQ⟩, ⟨_, parseS⟩]) 4000 ?_
  rw [Tryz.ntmps233, Tryz.results233]
  simp only [Tryz.f233, Option.getD_some, aC]
  have hl : (ab s).length = s.size := aW s
  have hpI : (0 : Int) < s.size := by omega
  have hb0 := lu s
  have hb1 := vg s
  have hb2 := vh s
  by_cases hq : aj s 0 = 39
  · have hF : cA (ab s) = if 3 ≤ s.size ∧ aj s 2 = 39 ∧ hZ (aj s 1) = true ∧ aj s 1 ≠ 39 ∧ aj s 1 ≠ 92 then (aj s 1, 3) else (0, 0) := by
      unfold cA; rw [if_pos (by rw [← hb0]; exact hq), hl, ← hb1, ← hb2]
    by_cases c1 : s.size < 3
    · have c1I : (s.size : Int) < 3 := by omega
      have e : cQ (ab s) = .tup [.l (.v (.int .u64 0)), .l (.v (.int .i64 0))] := by unfold cQ; rw [hF, if_neg (by omega)]; rfl
      simp only [go_sem, hpI, hq, c1I, e]
    have c1I : ¬ (s.size : Int) < 3 := by omega
    have p1 : (1 : Int) < s.size := by omega
    have p2 : (2 : Int) < s.size := by omega
    by_cases c2 : aj s 2 = 39
    case neg =>
      have e : cQ (ab s) = .tup [.l (.v (.int .u64 0)), .l (.v (.int .i64 0))] := by unfold cQ; rw [hF, if_neg (fun h => c2 h.2.1)]; rfl
      simp only [go_sem, hpI, hq, c1I, p2, c2, e]
    by_cases c3 : hZ (aj s 1) = true
    case neg =>
      have c3' : hZ (aj s 1) = false := by simpa using c3
      have e : cQ (ab s) = .tup [.l (.v (.int .u64 0)), .l (.v (.int .i64 0))] := by unfold cQ; rw [hF, if_neg (fun h => c3 h.2.2.1)]; rfl
      simp only [go_sem, hpI, hq, c1I, p1, p2, c2, rk, rj, c3', e]
    by_cases c4 : aj s 1 = 39
    · have e : cQ (ab s) = .tup [.l (.v (.int .u64 0)), .l (.v (.int .i64 0))] := by unfold cQ; rw [hF, if_neg (fun h => h.2.2.2.1 c4)]; rfl
      simp only [go_sem, hpI, hq, c1I, p1, p2, c2, rk, rj, c3, c4, e]
    by_cases c5 : aj s 1 = 92
    · have e : cQ (ab s) = .tup [.l (.v (.int .u64 0)), .l (.v (.int .i64 0))] := by unfold cQ; rw [hF, if_neg (fun h => h.2.2.2.2 c5)]; rfl
      simp only [go_sem, hpI, hq, c1I, p1, p2, c2, rk, rj, c3, c4, c5, e]
    have e : cQ (ab s) = .tup [.l (.v (.int .u64 (aj s 1))), .l (.v (.int .i64 3))] := by unfold cQ; rw [hF, if_pos ⟨by omega, c2, c3, c4, c5⟩]; rfl
    have hr := dV s 1
    have ew : IntKind.u64.wrap (aj s 1) = aj s 1 := by rw [IntKind.wrap_u64]; omega
    simp only [go_sem, hpI, hq, c1I, p1, p2, c2, rk, rj, c3, c4, c5, ew, e]
  have hF : ∀ base head, fe (ab s) = base → cU (ab s) = head → cA (ab s) = if cz base ((ab s).drop head) = 0 ∨ head = 0 ∧ 1 < cz base ((ab s).drop head) ∧ aj s 0 = 48 then (0, 0)
      else if 18446744073709551616 ≤ cK base (((ab s).drop head).take (cz base ((ab s).drop head))) then (0, 0)
      else (cK base (((ab s).drop head).take (cz base ((ab s).drop head))), head + cz base ((ab s).drop head)) := by
    intro base head e1 e2
    unfold cA
    rw [if_neg (by rw [← hb0]; exact hq), e1, e2, ← hb0]
  have hle : ∀ base head, cz base ((ab s).drop head) ≤ s.size - head := by
    intro base head
    have : cz base ((ab s).drop head) ≤ ((ab s).drop head).length := lp _ _
    rwa [List.length_drop, hl] at this
  have hx : cM s ⟨#[48, 120]⟩ = decide (1 < (ab s).length ∧ bAt (ab s) 0 = 48 ∧ bAt (ab s) 1 = 120) := Gh s 48 120 (by omega) (by omega)
  have hbb : cM s ⟨#[48, 98]⟩ = decide (1 < (ab s).length ∧ bAt (ab s) 0 = 48 ∧ bAt (ab s) 1 = 98) := Gh s 48 98 (by omega) (by omega)
  have nb2 := @vG Tryz.prog 109 .nilIface (.tmp 76) (by kernel_rfl)
  by_cases k1 : 1 < (ab s).length ∧ bAt (ab s) 0 = 48 ∧ bAt (ab s) 1 = 120
  · rw [decide_eq_true k1] at hx
    have hB : fe (ab s) = 16 := by unfold fe; rw [if_pos k1]
    have hH : cU (ab s) = 2 := by unfold cU; rw [if_pos ⟨k1.1, k1.2.1, .inl k1.2.2⟩]
    have hF := hF 16 2 hB hH
    have hle := hle 16 2
    have p2 : (2 : Int) ≤ s.size := by omega
    have hs2 : (s.extract 2 s.size).size ≤ 1099511627776 := by rw [← aW, ji, List.length_drop, hl]; omega
    have hR : cz 16 (ab (s.extract 2 s.size)) = cz 16 ((ab s).drop 2) := by rw [ji]
    generalize hn : cz 16 ((ab s).drop 2) = n at *
    by_cases n0 : n = 0
    · have e : cQ (ab s) = .tup [.l (.v (.int .u64 0)), .l (.v (.int .i64 0))] := by unfold cQ; rw [hF, if_pos (.inl n0)]; rfl
      have n0I : (n : Int) = 0 := by omega
      simp only [go_sem, d9, hpI, hq, hx, eP, eO, lL, lK, p7, qQ, p2, hs2, hR, n0I, e]
    · have n0I : ¬ (n : Int) = 0 := by omega
      rw [if_neg (by omega)] at hF
      have hpar := tO (head := 2) hs (by omega) hn (by omega) (by omega)
      have hnat : cK 16 (ab (s.extract 2 (2 + n))) = cK 16 (((ab s).drop 2).take n) := by rw [Gb]
      have ea : IntKind.i64.wrap (2 + (n : Int)) = ((2 + n : Nat) : Int) := by rw [IntKind.wrap_i64]; omega
      have hend : ((2 + n : Nat) : Int) ≤ s.size := by omega
      have hst : (2 : Int) ≤ ((2 + n : Nat) : Int) := by omega
      simp only [go_sem, d9, hpI, hq, hx, eP, eO, lL, lK, p7, qQ, p2, hs2, hR, n0I]
      refine bI (ctx := [⟨_, parseS⟩]) mixed [] (by kernel_rfl) ?_
      by_cases hv : cK 16 (((ab s).drop 2).take n) < 18446744073709551616
      · rw [if_neg (by omega)] at hF
        have e2 : na (cK 16 (((ab s).drop 2).take n)) = .tup [.l (.v (.int .u64 (cK 16 (((ab s).drop 2).take n)))), .l (.v .nilIface)] := by unfold na; rw [if_pos hv]
        have e : cQ (ab s) = .tup [.l (.v (.int .u64 (cK 16 (((ab s).drop 2).take n)))), .l (.v (.int .i64 ((2 + n : Nat) : Int)))] := by unfold cQ; rw [hF]
        simp only [go_sem, d9, ea, hend, hst, parse_run, parse_pan, hpar, hnat, e2, ↓nb2, e]
      · rw [if_pos (by omega)] at hF
        have e2 : na (cK 16 (((ab s).drop 2).take n)) = .tup [.l (.v (.int .u64 18446744073709551615)), .l tl] := by unfold na; rw [if_neg hv]
        have e : cQ (ab s) = .tup [.l (.v (.int .u64 0)), .l (.v (.int .i64 0))] := by unfold cQ; rw [hF]; rfl
        simp only [go_sem, d9, ea, hend, hst, parse_run, parse_pan, hpar, hnat, e2, tl, e]
  rw [decide_eq_false k1] at hx
  by_cases k2 : 1 < (ab s).length ∧ bAt (ab s) 0 = 48 ∧ bAt (ab s) 1 = 98
  · rw [decide_eq_true k2] at hbb
    have hB : fe (ab s) = 2 := by unfold fe; rw [if_neg k1, if_pos k2]
    have hH : cU (ab s) = 2 := by unfold cU; rw [if_pos ⟨k2.1, k2.2.1, .inr k2.2.2⟩]
    have hF := hF 2 2 hB hH
    have hle := hle 2 2
    have p2 : (2 : Int) ≤ s.size := by omega
    have hs2 : (s.extract 2 s.size).size ≤ 1099511627776 := by rw [← aW, ji, List.length_drop, hl]; omega
    have hR : cz 2 (ab (s.extract 2 s.size)) = cz 2 ((ab s).drop 2) := by rw [ji]
    generalize hn : cz 2 ((ab s).drop 2) = n at *
    by_cases n0 : n = 0
    · have e : cQ (ab s) = .tup [.l (.v (.int .u64 0)), .l (.v (.int .i64 0))] := by unfold cQ; rw [hF, if_pos (.inl n0)]; rfl
      have n0I : (n : Int) = 0 := by omega
      simp only [go_sem, d9, hpI, hq, hx, hbb, eP, eO, lL, lK, p7, qQ, p2, hs2, hR, n0I, e]
    · have n0I : ¬ (n : Int) = 0 := by omega
      rw [if_neg (by omega)] at hF
      have hpar := tO (head := 2) hs (by omega) hn (by omega) (by omega)
      have hnat : cK 2 (ab (s.extract 2 (2 + n))) = cK 2 (((ab s).drop 2).take n) := by rw [Gb]
      have ea : IntKind.i64.wrap (2 + (n : Int)) = ((2 + n : Nat) : Int) := by rw [IntKind.wrap_i64]; omega
      have hend : ((2 + n : Nat) : Int) ≤ s.size := by omega
      have hst : (2 : Int) ≤ ((2 + n : Nat) : Int) := by omega
      simp only [go_sem, d9, hpI, hq, hx, hbb, eP, eO, lL, lK, p7, qQ, p2, hs2, hR, n0I]
      refine bI (ctx := [⟨_, parseS⟩]) mixed [] (by kernel_rfl) ?_
      by_cases hv : cK 2 (((ab s).drop 2).take n) < 18446744073709551616
      · rw [if_neg (by omega)] at hF
        have e2 : na (cK 2 (((ab s).drop 2).take n)) = .tup [.l (.v (.int .u64 (cK 2 (((ab s).drop 2).take n)))), .l (.v .nilIface)] := by unfold na; rw [if_pos hv]
        have e : cQ (ab s) = .tup [.l (.v (.int .u64 (cK 2 (((ab s).drop 2).take n)))), .l (.v (.int .i64 ((2 + n : Nat) : Int)))] := by unfold cQ; rw [hF]
        simp only [go_sem, d9, ea, hend, hst, parse_run, parse_pan, hpar, hnat, e2, ↓nb2, e]
      · rw [if_pos (by omega)] at hF
        have e2 : na (cK 2 (((ab s).drop 2).take n)) = .tup [.l (.v (.int .u64 18446744073709551615)), .l tl] := by unfold na; rw [if_neg hv]
        have e : cQ (ab s) = .tup [.l (.v (.int .u64 0)), .l (.v (.int .i64 0))] := by unfold cQ; rw [hF]; rfl
        simp only [go_sem, d9, ea, hend, hst, parse_run, parse_pan, hpar, hnat, e2, tl, e]
  rw [decide_eq_false k2] at hbb
  have hB : fe (ab s) = 10 := by unfold fe; rw [if_neg k1, if_neg k2]
  have hH : cU (ab s) = 0 := by unfold cU; rw [if_neg (fun h => h.2.2.elim (fun h3 => k1 ⟨h.1, h.2.1, h3⟩) fun h3 => k2 ⟨h.1, h.2.1, h3⟩)]
  have hF := hF 10 0 hB hH
  have hle := hle 10 0
  have p2 : (0 : Int) ≤ s.size := by omega
  have hs2 : (s.extract 0 s.size).size ≤ 1099511627776 := by rw [← aW, ji, List.length_drop, hl]; omega
  have hR : cz 10 (ab (s.extract 0 s.size)) = cz 10 ((ab s).drop 0) := by rw [ji]
  rw [List.drop_zero] at hF hle hR
  generalize hn : cz 10 (ab s) = n at *
  rw [Nat.zero_add] at hF
  by_cases n0 : n = 0
  · have e : cQ (ab s) = .tup [.l (.v (.int .u64 0)), .l (.v (.int .i64 0))] := by unfold cQ; rw [hF, if_pos (.inl n0)]; rfl
    have n0I : (n : Int) = 0 := by omega
    simp only [go_sem, d9, hpI, hq, hx, hbb, eP, eO, lL, lK, p7, qQ, p2, hs2, hR, n0I, e]
  · have n0I : ¬ (n : Int) = 0 := by omega
    by_cases n1 : 1 < n
    · have n1I : (1 : Int) < n := by omega
      by_cases z : aj s 0 = 48
      · have e : cQ (ab s) = .tup [.l (.v (.int .u64 0)), .l (.v (.int .i64 0))] := by unfold cQ; rw [hF, if_pos (.inr ⟨rfl, n1, z⟩)]; rfl
        simp only [go_sem, d9, hpI, hq, hx, hbb, eP, eO, lL, lK, p7, qQ, p2, hs2, hR, n0I, n1I, z, e]
      · rw [if_neg (by omega)] at hF
        have hpar := tO (base := 10) (head := 0) (n := n) hs (by omega) (by rw [List.drop_zero]; exact hn) (by omega) (by omega)
        have hnat : cK 10 (ab (s.extract 0 n)) = cK 10 ((ab s).take n) := by rw [pU]
        rw [Nat.zero_add] at hpar
        have ea : IntKind.i64.wrap (0 + (n : Int)) = (n : Int) := by rw [IntKind.wrap_i64]; omega
        have hend : (n : Int) ≤ s.size := by omega
        have hst : (0 : Int) ≤ (n : Int) := by omega
        simp only [go_sem, d9, hpI, hq, hx, hbb, eP, eO, lL, lK, p7, qQ, p2, hs2, hR, n0I, n1I, z]
        refine bI (ctx := [⟨_, parseS⟩]) mixed [] (by kernel_rfl) ?_
        by_cases hv : cK 10 ((ab s).take n) < 18446744073709551616
        · rw [if_neg (by omega)] at hF
          have e2 : na (cK 10 ((ab s).take n)) = .tup [.l (.v (.int .u64 (cK 10 ((ab s).take n)))), .l (.v .nilIface)] := by unfold na; rw [if_pos hv]
          have e : cQ (ab s) = .tup [.l (.v (.int .u64 (cK 10 ((ab s).take n)))), .l (.v (.int .i64 (n : Int)))] := by unfold cQ; rw [hF]
          simp only [go_sem, d9, ea, hend, hst, parse_run, parse_pan, hpar, hnat, e2, ↓nb2, e]
        · rw [if_pos (by omega)] at hF
          have e2 : na (cK 10 ((ab s).take n)) = .tup [.l (.v (.int .u64 18446744073709551615)), .l tl] := by unfold na; rw [if_neg hv]
          have e : cQ (ab s) = .tup [.l (.v (.int .u64 0)), .l (.v (.int .i64 0))] := by unfold cQ; rw [hF]; rfl
          simp only [go_sem, d9, ea, hend, hst, parse_run, parse_pan, hpar, hnat, e2, tl, e]
    · have n1I : ¬ (1 : Int) < n := by omega
      rw [if_neg (by omega)] at hF
      have hpar := tO (base := 10) (head := 0) (n := n) hs (by omega) (by rw [List.drop_zero]; exact hn) (by omega) (by omega)
      have hnat : cK 10 (ab (s.extract 0 n)) = cK 10 ((ab s).take n) := by rw [pU]
      rw [Nat.zero_add] at hpar
      have ea : IntKind.i64.wrap (0 + (n : Int)) = (n : Int) := by rw [IntKind.wrap_i64]; omega
      have hend : (n : Int) ≤ s.size := by omega
      have hst : (0 : Int) ≤ (n : Int) := by omega
      simp only [go_sem, d9, hpI, hq, hx, hbb, eP, eO, lL, lK, p7, qQ, p2, hs2, hR, n0I, n1I]
      refine bI (ctx := [⟨_, parseS⟩]) mixed [] (by kernel_rfl) ?_
      by_cases hv : cK 10 ((ab s).take n) < 18446744073709551616
      · rw [if_neg (by omega)] at hF
        have e2 : na (cK 10 ((ab s).take n)) = .tup [.l (.v (.int .u64 (cK 10 ((ab s).take n)))), .l (.v .nilIface)] := by unfold na; rw [if_pos hv]
        have e : cQ (ab s) = .tup [.l (.v (.int .u64 (cK 10 ((ab s).take n)))), .l (.v (.int .i64 (n : Int)))] := by unfold cQ; rw [hF]
        simp only [go_sem, d9, ea, hend, hst, parse_run, parse_pan, hpar, hnat, e2, ↓nb2, e]
      · rw [if_pos (by omega)] at hF
        have e2 : na (cK 10 ((ab s).take n)) = .tup [.l (.v (.int .u64 18446744073709551615)), .l tl] := by unfold na; rw [if_neg hv]
        have e : cQ (ab s) = .tup [.l (.v (.int .u64 0)), .l (.v (.int .i64 0))] := by unfold cQ; rw [hF]; rfl
        simp only [go_sem, d9, ea, hend, hst, parse_run, parse_pan, hpar, hnat, e2, tl, e]

theorem en_num (args : Array Value) (w : World) : (callFunc 233 args).run Tryz.prog w = .ok (.enter 233 args) w := by go_simp
def numS : bi Tryz.prog 233 :=
  mk1 _ _ _ Tryz.func233 rfl en_num (bx) ((fun s => 0 < s.size ∧ s.size ≤ 1099511627776)) ((fun s => .ret (cQ (ab s)))) (by rw [Tryz.ntmps233]; decide) (fun s h => zI s h.1 h.2)
theorem num_run {id : Nat} {h : ah} {args : List AV} : (numS).run id h args = bT (ba (bx) ((fun s => 0 < s.size ∧ s.size ≤ 1099511627776))) ((fun s => .ret (cQ (ab s)))) h args := rfl
theorem num_pan {id : Nat} {h : ah} {args : List AV} : (numS).pan id h args = bU (ba (bx) ((fun s => 0 < s.size ∧ s.size ≤ 1099511627776))) ((fun s => .ret (cQ (ab s)))) h args := rfl

end Go.Proofs.YtnhbidpdadkcjaaGreatDoor.Ly

/-! ## L8 -/
namespace Go.Proofs.YtnhbidpdadkcjaaGreatDoor.Ly
open Go.RowKit
set_option maxRecDepth 100000

def zzu3 (t : Tok) (n : Int) : AV := .tup [Un t, .l (.v (.int .i64 n))]

theorem en_rdName (args : Array Value) (w : World) : (callFunc 193 args).run Tryz.prog w = .ok (.enter 193 args) w := by go_simp
def rdNameS : bi Tryz.prog 193 :=
  mk1 _ _ _ Tryz.func193 rfl en_rdName (bx) ((fun s => s.size ≤ 1099511627776)) ((fun s => .ret (zzu3 ⟨1, bu ((ab s).take (bO dc (ab s))), 0, 0⟩ (bO dc (ab s))))) (by rw [Tryz.ntmps193]; decide) (fun s hs => by
  refine aa (ctx := [⟨_, TW⟩]) 4000 ?_
  rw [Tryz.ntmps193, Tryz.results193]
  simp only [Tryz.f193, Option.getD_some, aC]
  have hm : s.size ≤ maxLen := by unfold maxLen; omega
  have hle : bO dc (ab s) ≤ (ab s).length := lp _ _
  rw [aW] at hle
  have hleI : (bO dc (ab s) : Int) ≤ s.size := by omega
  simp only [go_sem, run_run, run_pan, Rj, hm, hleI, zzu3, Un, ← OR, Int.toNat_zero])
theorem rdName_run {id : Nat} {h : ah} {args : List AV} : (rdNameS).run id h args = bT (ba (bx) ((fun s => s.size ≤ 1099511627776))) ((fun s => .ret (zzu3 ⟨1, bu ((ab s).take (bO dc (ab s))), 0, 0⟩ (bO dc (ab s))))) h args := rfl
theorem rdName_pan {id : Nat} {h : ah} {args : List AV} : (rdNameS).pan id h args = bU (ba (bx) ((fun s => s.size ≤ 1099511627776))) ((fun s => .ret (zzu3 ⟨1, bu ((ab s).take (bO dc (ab s))), 0, 0⟩ (bO dc (ab s))))) h args := rfl

theorem en_rdSign (args : Array Value) (w : World) : (callFunc 192 args).run Tryz.prog w = .ok (.enter 192 args) w := by go_simp
def rdSignS : bi Tryz.prog 192 :=
  mk1 _ _ _ Tryz.func192 rfl en_rdSign (bx) ((fun _ => True)) ((fun s => .ret (zzu3 ⟨4, bu ((ab s).take (dr (ab s))), 0, 0⟩ (dr (ab s))))) (by rw [Tryz.ntmps192]; decide) (fun s hs => by
  refine aa (ctx := [⟨_, Fs⟩]) 4000 ?_
  rw [Tryz.ntmps192, Tryz.results192]
  simp only [Tryz.f192, Option.getD_some, aC]
  have hle := ye (ab s)
  rw [aW] at hle
  have hleI : (dr (ab s) : Int) ≤ s.size := by omega
  simp only [go_sem, GI, GH, hleI, zzu3, Un, ← OR, Int.toNat_zero])
theorem rdSign_run {id : Nat} {h : ah} {args : List AV} : (rdSignS).run id h args = bT (ba (bx) ((fun _ => True))) ((fun s => .ret (zzu3 ⟨4, bu ((ab s).take (dr (ab s))), 0, 0⟩ (dr (ab s))))) h args := rfl
theorem rdSign_pan {id : Nat} {h : ah} {args : List AV} : (rdSignS).pan id h args = bU (ba (bx) ((fun _ => True))) ((fun s => .ret (zzu3 ⟨4, bu ((ab s).take (dr (ab s))), 0, 0⟩ (dr (ab s))))) h args := rfl

theorem en_rdQuotes (args : Array Value) (w : World) : (callFunc 195 args).run Tryz.prog w = .ok (.enter 195 args) w := by go_simp
def rdQuotesS : bi Tryz.prog 195 :=
  mk1 _ _ _ Tryz.func195 rfl en_rdQuotes (bx) ((fun s => s.size ≤ 1099511627776)) ((fun s => .ret (zzu3 ⟨3, bu (fq (ab s)).1, 0, 0⟩ (fq (ab s)).2))) (by rw [Tryz.ntmps195]; decide) (fun s hs => by
  refine aa (ctx := [⟨_, quotesS⟩]) 4000 ?_
  rw [Tryz.ntmps195, Tryz.results195]
  simp only [Tryz.f195, Option.getD_some, aC]
  simp only [go_sem, quotes_run, quotes_pan, quotO, hs, zzu3, Un, aR])
theorem rdQuotes_run {id : Nat} {h : ah} {args : List AV} : (rdQuotesS).run id h args = bT (ba (bx) ((fun s => s.size ≤ 1099511627776))) ((fun s => .ret (zzu3 ⟨3, bu (fq (ab s)).1, 0, 0⟩ (fq (ab s)).2))) h args := rfl
theorem rdQuotes_pan {id : Nat} {h : ah} {args : List AV} : (rdQuotesS).pan id h args = bU (ba (bx) ((fun s => s.size ≤ 1099511627776))) ((fun s => .ret (zzu3 ⟨3, bu (fq (ab s)).1, 0, 0⟩ (fq (ab s)).2))) h args := rfl

def numN (l : List Int) : Int := if (cA l).2 < l.length ∧ dc (bAt l (cA l).2) = true then 0 else (cA l).2
theorem en_rdNum (args : Array Value) (w : World) : (callFunc 194 args).run Tryz.prog w = .ok (.enter 194 args) w := by go_simp
def rdNumS : bi Tryz.prog 194 :=
  mk1 _ _ _ Tryz.func194 rfl en_rdNum (bx) ((fun s => 0 < s.size ∧ s.size ≤ 1099511627776)) ((fun s => .ret (zzu3 ⟨2, emp, (cA (ab s)).1, 0⟩ (numN (ab s))))) (by rw [Tryz.ntmps194]; decide) (fun s hs => by
  refine aa (ctx := [⟨_, numS⟩, ⟨_, Nn⟩]) 4000 ?_
  rw [Tryz.ntmps194, Tryz.results194]
  simp only [Tryz.f194, Option.getD_some, aC]
  have hl : (ab s).length = s.size := aW s
  have hbb := mH s (cA (ab s)).2
  by_cases h1 : (cA (ab s)).2 < s.size
  · have h1I : ((cA (ab s)).2 : Int) < s.size := by omega
    cases h2 : dc (aj s (cA (ab s)).2) with
    | true =>
      have e : numN (ab s) = 0 := by unfold numN; rw [hl, ← hbb, if_pos ⟨h1, h2⟩]
      simp only [go_sem, num_run, num_pan, Tb, Ta, cQ, hs, h1I, h2, zzu3, Un, e, aR]
    | false =>
      have e : numN (ab s) = (cA (ab s)).2 := by unfold numN; rw [hl, ← hbb, h2, if_neg (by simp)]
      simp only [go_sem, num_run, num_pan, Tb, Ta, cQ, hs, h1I, h2, zzu3, Un, e, aR]
  · have h1I : ¬ ((cA (ab s)).2 : Int) < s.size := by omega
    have e : numN (ab s) = (cA (ab s)).2 := by unfold numN; rw [hl, if_neg (by omega)]
    simp only [go_sem, num_run, num_pan, Tb, Ta, cQ, hs, h1I, zzu3, Un, e, aR])
theorem rdNum_run {id : Nat} {h : ah} {args : List AV} : (rdNumS).run id h args = bT (ba (bx) ((fun s => 0 < s.size ∧ s.size ≤ 1099511627776))) ((fun s => .ret (zzu3 ⟨2, emp, (cA (ab s)).1, 0⟩ (numN (ab s))))) h args := rfl
theorem rdNum_pan {id : Nat} {h : ah} {args : List AV} : (rdNumS).pan id h args = bU (ba (bx) ((fun s => 0 < s.size ∧ s.size ≤ 1099511627776))) ((fun s => .ret (zzu3 ⟨2, emp, (cA (ab s)).1, 0⟩ (numN (ab s))))) h args := rfl

set_option maxRecDepth 100000 in
set_option maxHeartbeats 4000000 in
theorem one_sw (s : ByteArray) (h0 : 0 < s.size) (hs : s.size ≤ 1099511627776) : SW Tryz.prog ⟨none, 0⟩ Tryz.f148.ntmps (Tryz.f148.body.getD .skip) ⟨0, aC 0 [bx.enc s], []⟩ (es Tryz.prog Tryz.f148.results.toList (.ret (oneO (lF (ab s))))) := by
  refine aa (ctx := [⟨_, Gm⟩, ⟨_, Ed⟩, ⟨_, rdNameS⟩, ⟨_, rdSignS⟩, ⟨_, rdQuotesS⟩, ⟨_, rdNumS⟩]) 4000 ?_
  rw [Tryz.ntmps148, Tryz.results148]
  simp only [Tryz.f148, Option.getD_some, aC]
  have hl : (ab s).length = s.size := aW s
  have hpI : (0 : Int) < s.size := by omega
  have hb0 := lu s
  by_cases c1 : fU (aj s 0) = true
  · have e : lF (ab s) = .ok (⟨1, bu ((ab s).take (bO dc (ab s))), 0, 0⟩, bO dc (ab s)) := by unfold lF; rw [if_pos (by rw [← hb0]; exact c1)]
    have hn := lm (by omega) e
    have hn0 : ¬ (bO dc (ab s) : Int) = 0 := by omega
    simp only [go_sem, Rv, Ru, hpI, c1, rdName_run, rdName_pan, hs, zzu3, Un, hn0, e, oneO]
  have k1 : fU (aj s 0) = false := by simpa using c1
  by_cases c2 : lS (aj s 0) = true ∨ aj s 0 = 39
  · have hO : lF (ab s) = if (cA (ab s)).2 = 0 ∨ (cA (ab s)).2 < (ab s).length ∧ dc (bAt (ab s) (cA (ab s)).2) = true then .error 81 else .ok (⟨2, emp, (cA (ab s)).1, 0⟩, (cA (ab s)).2) := by
      unfold lF; rw [if_neg (by rw [← hb0]; exact c1), if_pos (by rw [← hb0]; exact c2)]
    have hz : numN (ab s) = 0 ↔ (cA (ab s)).2 = 0 ∨ (cA (ab s)).2 < (ab s).length ∧ dc (bAt (ab s) (cA (ab s)).2) = true := by
      unfold numN; split
      · rename_i h; exact ⟨fun _ => .inr h, fun _ => rfl⟩
      · rename_i h; exact ⟨fun e => .inl (by omega), fun e => e.elim (fun e => by omega) fun e => absurd e h⟩
    by_cases hn : numN (ab s) = 0
    · have e : lF (ab s) = .error 81 := by rw [hO, if_pos (hz.1 hn)]
      cases k2 : lS (aj s 0) with
      | true =>
        simp only [go_sem, Rv, Ru, mB, mA, hpI, k1, k2, rdNum_run, rdNum_pan, h0, hs, zzu3, Un, hn, e, oneO]
        refine du (ctx := []) mixed ⟨[], [(3, [0])], [(1, [0]), (2, [0])]⟩ (by kernel_rfl) ?_
        simp only [go_sem, e, oneO, Un, aR]
      | false =>
        have k3 : aj s 0 = 39 := c2.resolve_left (by rw [k2]; simp)
        simp only [go_sem, Rv, Ru, mB, mA, hpI, k1, k2, k3, show fU 39 = false from rfl, show lS 39 = false from rfl, rdNum_run, rdNum_pan, h0, hs, zzu3, Un, hn, e, oneO]
        refine du (ctx := []) mixed ⟨[], [(3, [0])], [(1, [0]), (2, [0])]⟩ (by kernel_rfl) ?_
        simp only [go_sem, e, oneO, Un, aR]
    · have e : lF (ab s) = .ok (⟨2, emp, (cA (ab s)).1, 0⟩, (cA (ab s)).2) := by rw [hO, if_neg (fun h => hn (hz.2 h))]
      have e4 : numN (ab s) = (cA (ab s)).2 := by
        unfold numN; rw [if_neg (fun h => hn (hz.2 (.inr h)))]
      rw [e4] at hn
      cases k2 : lS (aj s 0) with
      | true => simp only [go_sem, Rv, Ru, mB, mA, hpI, k1, k2, rdNum_run, rdNum_pan, h0, hs, zzu3, Un, hn, e4, e, oneO]
      | false =>
        have k3 : aj s 0 = 39 := c2.resolve_left (by rw [k2]; simp)
        simp only [go_sem, Rv, Ru, mB, mA, hpI, k1, k2, k3, show fU 39 = false from rfl, show lS 39 = false from rfl, rdNum_run, rdNum_pan, h0, hs, zzu3, Un, hn, e4, e, oneO]
  have k2 : lS (aj s 0) = false := by simpa using fun h => c2 (.inl h)
  have k3 : ¬ aj s 0 = 39 := fun h => c2 (.inr h)
  by_cases c3 : aj s 0 = 34
  · have hO : lF (ab s) = if (fq (ab s)).2 = 0 then .error 82 else .ok (⟨3, bu (fq (ab s)).1, 0, 0⟩, (fq (ab s)).2) := by
      unfold lF; rw [if_neg (by rw [← hb0]; exact c1), if_neg (by rw [← hb0]; exact c2), if_pos (by rw [← hb0]; exact c3)]
    by_cases hn : (fq (ab s)).2 = 0
    · have e : lF (ab s) = .error 82 := by rw [hO, if_pos hn]
      have hnI : ((fq (ab s)).2 : Int) = 0 := by omega
      simp only [go_sem, Rv, Ru, mB, mA, hpI, k1, k2, k3, c3, show fU 34 = false from rfl, show lS 34 = false from rfl, rdQuotes_run, rdQuotes_pan, hs, zzu3, Un, hnI, e, oneO]
      refine du (ctx := []) mixed ⟨[], [(3, [0])], [(1, [0]), (2, [0])]⟩ (by kernel_rfl) ?_
      simp only [go_sem, e, oneO, Un, aR]
    · have e : lF (ab s) = .ok (⟨3, bu (fq (ab s)).1, 0, 0⟩, (fq (ab s)).2) := by rw [hO, if_neg hn]
      have hnI : ¬ ((fq (ab s)).2 : Int) = 0 := by omega
      simp only [go_sem, Rv, Ru, mB, mA, hpI, k1, k2, k3, c3, show fU 34 = false from rfl, show lS 34 = false from rfl, rdQuotes_run, rdQuotes_pan, hs, zzu3, Un, hnI, e, oneO]
  · have hO : lF (ab s) = if dr (ab s) = 0 then .error 80 else .ok (⟨4, bu ((ab s).take (dr (ab s))), 0, 0⟩, dr (ab s)) := by
      unfold lF; rw [if_neg (by rw [← hb0]; exact c1), if_neg (by rw [← hb0]; exact c2), if_neg (by rw [← hb0]; exact c3)]
    by_cases hn : dr (ab s) = 0
    · have e : lF (ab s) = .error 80 := by rw [hO, if_pos hn]
      have hnI : (dr (ab s) : Int) = 0 := by omega
      simp only [go_sem, Rv, Ru, mB, mA, hpI, k1, k2, k3, c3, rdSign_run, rdSign_pan, zzu3, Un, hnI, e, oneO]
      refine du (ctx := []) mixed ⟨[], [(3, [0])], [(1, [0]), (2, [0])]⟩ (by kernel_rfl) ?_
      simp only [go_sem, e, oneO, Un, aR]
    · have e : lF (ab s) = .ok (⟨4, bu ((ab s).take (dr (ab s))), 0, 0⟩, dr (ab s)) := by rw [hO, if_neg hn]
      have hnI : ¬ (dr (ab s) : Int) = 0 := by omega
      simp only [go_sem, Rv, Ru, mB, mA, hpI, k1, k2, k3, c3, rdSign_run, rdSign_pan, zzu3, Un, hnI, e, oneO]

theorem en_one (args : Array Value) (w : World) : (callFunc 148 args).run Tryz.prog w = .ok (.enter 148 args) w := by go_simp
def oneS : bi Tryz.prog 148 :=
  mk1 _ _ _ Tryz.func148 rfl en_one (bx) ((fun s => 0 < s.size ∧ s.size ≤ 1099511627776)) ((fun s => .ret (oneO (lF (ab s))))) (by rw [Tryz.ntmps148]; decide) (fun s h => one_sw s h.1 h.2)
theorem one_run {id : Nat} {h : ah} {args : List AV} : (oneS).run id h args = bT (ba (bx) ((fun s => 0 < s.size ∧ s.size ≤ 1099511627776))) ((fun s => .ret (oneO (lF (ab s))))) h args := rfl
theorem one_pan {id : Nat} {h : ah} {args : List AV} : (oneS).pan id h args = bU (ba (bx) ((fun s => 0 < s.size ∧ s.size ≤ 1099511627776))) ((fun s => .ret (oneO (lF (ab s))))) h args := rfl

end Go.Proofs.YtnhbidpdadkcjaaGreatDoor.Ly

/-! ## L9 -/
namespace Go.Proofs.YtnhbidpdadkcjaaGreatDoor.Ly
open Go.RowKit
set_option maxRecDepth 100000

set_option maxHeartbeats 4000000 in
theorem tokens_sw (s : ByteArray) : SW Tryz.prog ⟨none, 0⟩ Tryz.f95.ntmps (Tryz.f95.body.getD .skip) ⟨0, aC 0 [bx.enc s], []⟩ (es Tryz.prog Tryz.f95.results.toList (.ret (tokensO (kr (ab s)) (TC (ab s))))) := by
  refine aa (ctx := [⟨_, TW⟩, ⟨_, tq⟩, ⟨_, oneS⟩]) 4000 ?_
  rw [Tryz.ntmps95, Tryz.results95]
  simp only [Tryz.f95, Option.getD_some, aC]
  have hl : (ab s).length = s.size := aW s
  by_cases h5 : 512 < s.size
  · have h5I : (512 : Int) < s.size := by omega
    have e1 : kr (ab s) = ([], 0, 3) := by unfold kr; rw [if_pos (by omega)]
    have e2 : TC (ab s) = true := by unfold TC; rw [hl]; exact decide_eq_true h5
    simp only [go_sem, h5I, e1, e2, tokensO, LC]
  have h5I : ¬ (512 : Int) < s.size := by omega
  have hs : s.size ≤ 1099511627776 := by omega
  have e1 : kr (ab s) = ci 0 (ab s) := by unfold kr; rw [if_neg (by omega)]
  have e2 : TC (ab s) = false := by unfold TC; rw [hl]; exact decide_eq_false h5
  simp only [go_sem, h5I, e1, e2, tokensO]
  refine cW (ι := Nat × List Tok) (tkInv s) (fun p => ⟨1, [(0, sv s), (5, .s (.l (.sl 0 0 p.2.length))), (6, iv p.1)], [(0, some (toksK p.2))]⟩) (fun p => s.size - p.1) (0, []) ⟨Nat.zero_le _, Nat.le_refl _, by simp⟩ ?_ ?_
  · exact (Wk.nil 5 137 4 rfl).trans (Wk.renL [128] (by simp) (by simp) (by simp) rfl rfl)
  rintro ⟨p, l⟩ ⟨hp, hlp, hinv⟩
  simp only at hp hlp hinv
  refine aa (ctx := [⟨_, TW⟩, ⟨_, tq⟩, ⟨_, oneS⟩]) 4000 ?_
  obtain ⟨k, hk⟩ : ∃ k, bO aO ((ab s).drop p) = k := ⟨_, rfl⟩
  have hkl : k ≤ s.size - p := by
    have : bO aO ((ab s).drop p) ≤ ((ab s).drop p).length := lp _ _
    rw [List.length_drop, hl] at this
    omega
  have hpI : (p : Int) ≤ s.size := by omega
  have hx1 : (s.extract p s.size).size ≤ maxLen := by rw [← aW, ji, List.length_drop, hl]; unfold maxLen; omega
  have hx2 : bO aO (ab (s.extract p s.size)) = k := by rw [ji, hk]
  have ew : IntKind.i64.wrap ((p : Int) + (k : Int)) = ((p + k : Nat) : Int) := by rw [IntKind.wrap_i64]; omega
  have hpk : ((p + k : Nat) : Int) ≤ s.size := by omega
  have hdd : ((ab s).drop p).drop k = (ab s).drop (p + k) := by rw [List.drop_drop]
  by_cases hend : p + k = s.size
  · have hendI : ((p + k : Nat) : Int) = s.size := by omega
    have hd : ci p ((ab s).drop p) = ([], p + ((ab s).drop p).length, 0) := eM (by rw [hk, hdd]; unfold eI; rw [List.length_drop, hl, hend]; simp)
    have hF : ci 0 (ab s) = (l, s.size, 0) := by rw [hinv, hd, List.append_nil, List.length_drop, hl]; exact Prod.ext rfl (Prod.ext (show p + (s.size - p) = s.size by omega) rfl)
    simp only [go_sem, toksK, run_run, run_pan, Rj, hpI, hx1, hx2, ew, hendI, hF, Nd]
  have hendI : ¬ ((p + k : Nat) : Int) = s.size := by omega
  obtain ⟨m, hm⟩ : ∃ m, (ab s).drop (p + k) = m := ⟨_, rfl⟩
  have hml : m.length = s.size - (p + k) := by rw [← hm, List.length_drop, hl]
  have hx3 : ab (s.extract (p + k) s.size) = m := by rw [ji, hm]
  have hx4 : (s.extract (p + k) s.size).size = s.size - (p + k) := by rw [← aW, hx3, hml]
  have hx5 : 0 < (s.extract (p + k) s.size).size ∧ (s.extract (p + k) s.size).size ≤ 1099511627776 := by omega
  have hP : cM (s.extract (p + k) s.size) ⟨#[47, 47]⟩ = decide (1 < m.length ∧ bAt m 0 = 47 ∧ bAt m 1 = 47) := by rw [← hx3]; exact Gh _ 47 47 (by omega) (by omega)
  have hD : eI m = decide (1 < m.length ∧ bAt m 0 = 47 ∧ bAt m 1 = 47) := by
    unfold eI
    rw [decide_eq_false (show ¬ m.length = 0 by omega), Bool.false_or, Bool.eq_iff_iff]
    simp [and_assoc]
  by_cases hc : 1 < m.length ∧ bAt m 0 = 47 ∧ bAt m 1 = 47
  · rw [decide_eq_true hc] at hP hD
    have hd : ci p ((ab s).drop p) = ([], p + ((ab s).drop p).length, 0) := eM (by rw [hk, hdd, hm]; exact hD)
    have hF : ci 0 (ab s) = (l, s.size, 0) := by rw [hinv, hd, List.append_nil, List.length_drop, hl]; exact Prod.ext rfl (Prod.ext (show p + (s.size - p) = s.size by omega) rfl)
    simp only [go_sem, toksK, run_run, run_pan, Rj, hpI, hx1, hx2, ew, hendI, hpk, eP, eO, hP, hF, Nd]
  rw [decide_eq_false hc] at hP hD
  have hD' : eI (((ab s).drop p).drop k) = false := by rw [hdd, hm]; exact hD
  rcases ho : lF m with e | ⟨t, n⟩
  · have hd : ci p ((ab s).drop p) = ([], p + k, e) := by
      have := fx (p := p) (l := (ab s).drop p) (e := e) (by rw [hk]; exact hD') (by rw [hk, hdd, hm]; exact ho)
      rw [hk] at this; exact this
    have hF : ci 0 (ab s) = (l, p + k, e) := by rw [hinv, hd, List.append_nil]
    have he : ¬ e = 0 := by have := TD ho; omega
    simp only [go_sem, toksK, run_run, run_pan, Rj, hpI, hx1, hx2, hx3, hx5, ew, hendI, hpk, eP, eO, hP, one_run, one_pan, ho, oneO, Un, he, hF, Nd]
  · have hn := lm (by omega) ho
    have hd : ci p ((ab s).drop p) = ({ t with pos := ((p + k : Nat) : Int) } :: (ci (p + k + n) ((ab s).drop (p + k + n))).1, (ci (p + k + n) ((ab s).drop (p + k + n))).2) := by
      have := ia (p := p) (l := (ab s).drop p) (t := t) (n := n) (by rw [hk]; exact hD') (by rw [hk, hdd, hm]; exact ho)
      rw [hk, List.drop_drop, ← Nat.add_assoc] at this; exact this
    have e3 : IntKind.i64.wrap (((p + k : Nat) : Int) + (n : Int)) = ((p + k + n : Nat) : Int) := by rw [IntKind.wrap_i64]; omega
    have hsn := S9 l { t with pos := ((p + k : Nat) : Int) }
    simp only at hsn
    have hm1 : l.length + 1 ≤ maxLen := by unfold maxLen; omega
    have hb1 : (l.length + 1) * 40 ≤ 140737488355328 := by omega
    simp only [go_sem, toksK, run_run, run_pan, Rj, hpI, hx1, hx2, hx3, hx5, ew, hendI, hpk, eP, eO, hP, one_run, one_pan, ho, oneO, Un, hm1, hb1, e3, hsn]
    exact ⟨(p + k + n, l ++ [{ t with pos := ((p + k : Nat) : Int) }]), ⟨by simp only; omega, by simp only [List.length_append, List.length_cons, List.length_nil]; omega, by rw [hinv, hd]; simp⟩, by simp only; omega, Wk.renL [593] (by simp) (by simp) (by simp) (by simp [dk, AV.ren, SV.ren, LV.ren]) (by simp only [hget, List.map_cons, List.map_nil, Option.map_some, Blk.ren, jF]; rfl)⟩

theorem en_tokens (args : Array Value) (w : World) : (callFunc 95 args).run Tryz.prog w = .ok (.enter 95 args) w := by go_simp
def tokensS : bi Tryz.prog 95 :=
  mk1 _ _ _ Tryz.func95 rfl en_tokens (bx) ((fun _ => True)) ((fun s => .ret (tokensO (kr (ab s)) (TC (ab s))))) (by rw [Tryz.ntmps95]; decide) (fun s _ => tokens_sw s)
theorem tokens_run {id : Nat} {h : ah} {args : List AV} : (tokensS).run id h args = bT (ba (bx) ((fun _ => True))) ((fun s => .ret (tokensO (kr (ab s)) (TC (ab s))))) h args := rfl
theorem tokens_pan {id : Nat} {h : ah} {args : List AV} : (tokensS).pan id h args = bU (ba (bx) ((fun _ => True))) ((fun s => .ret (tokensO (kr (ab s)) (TC (ab s))))) h args := rfl

end Go.Proofs.YtnhbidpdadkcjaaGreatDoor.Ly

/-! ## LA -/
namespace Go.Proofs.YtnhbidpdadkcjaaGreatDoor.Ly
open Go.RowKit
set_option maxRecDepth 100000

/-! ### Lex -/
theorem en_lex (args : Array Value) (w : World) : (callFunc 43 args).run Tryz.prog w = .ok (.enter 43 args) w := by go_simp
def lexS : bi Tryz.prog 43 :=
  mk1 _ _ _ Tryz.func43 rfl en_lex (bx) ((fun _ => True)) ((fun s => .ret (TA (kr (ab s))))) (by rw [Tryz.ntmps43]; decide) (fun s _ => by
  refine aa (ctx := [⟨_, tokensS⟩]) 4000 ?_
  rw [Tryz.ntmps43, Tryz.results43]
  simp only [Tryz.f43, Option.getD_some, aC]
  by_cases h0 : (kr (ab s)).2.2 = 0
  · have hl : TC (ab s) = false := by
      unfold TC
      refine decide_eq_false fun h => ?_
      unfold kr at h0
      rw [if_pos h] at h0
      cases h0
    simp only [go_sem, tokens_run, tokens_pan, tokensO, Nd, TA, h0, hl]
  · cases hl : TC (ab s) <;> simp only [go_sem, tokens_run, tokens_pan, tokensO, Nd, LC, TA, h0, hl])
theorem lex_run {id : Nat} {h : ah} {args : List AV} : (lexS).run id h args = bT (ba (bx) ((fun _ => True))) ((fun s => .ret (TA (kr (ab s))))) h args := rfl
theorem lex_pan {id : Nat} {h : ah} {args : List AV} : (lexS).pan id h args = bU (ba (bx) ((fun _ => True))) ((fun s => .ret (TA (kr (ab s))))) h args := rfl

end Go.Proofs.YtnhbidpdadkcjaaGreatDoor.Ly
