/- Texts, line by line: IndexByte, Index and Cut at a newline; the iterator of a text's lines. -/
import Derived.Test.YtpdjaabjfhjppaaGreatDoorH1
import Derived.Lib.Bytealg
set_option linter.unusedVariables false
set_option linter.unusedSimpArgs false
namespace Go.Proofs.YtpdjaabjfhjppaaGreatDoor
open Go.RowKit
set_option maxRecDepth 100000

/-! ### Where a byte stands -/
def hdU (p : ByteArray) : UInt8 := p.data.toList.headD 0
theorem one_byte {p : ByteArray} (h : p.size = 1) : p = ⟨#[hdU p]⟩ := by
  have h1 : p.data.toList.length = 1 := by simpa using h
  apply ByteArray.ext
  rw [← Array.toList_inj]
  unfold hdU
  cases hd : p.data.toList with
  | nil => rw [hd] at h1; cases h1
  | cons x l =>
    cases l with
    | nil => rfl
    | cons _ _ => rw [hd] at h1; simp at h1
theorem ixb_lt (c : UInt8) : ∀ l : List UInt8, Lib.indexByte l c < l.length ∧ -1 ≤ Lib.indexByte l c
  | [] => by simp [Lib.indexByte]
  | x :: l => by
    have ih := ixb_lt c l
    rw [Lib.indexByte, List.length_cons]
    split
    · omega
    · split
      · omega
      · rename_i h
        rw [beq_iff_eq] at h
        omega

set_option maxHeartbeats 1000000 in
theorem indexByte_any (s : ByteArray) (c : Int) (w : World) :
    Calls Tryz.prog 53 #[.string s, .int .u8 c] w fun e w' => e = .returned (.int .i64 (Lib.indexByte s.data.toList c.toNat.toUInt8)) ∧ w' = w := by
  go_enter Tryz.func53, Tryz.ntmps53
  go_wp2
  rw [run_callFunc_extern Tryz.func84 (by kernel_rfl) (by kernel_rfl) (by kernel_rfl) (e := Extern.BytealgIndexByte.indexByte) (by kernel_rfl), Lib.run_indexByteString]
  simp only [Result.andThen]
  rw [Oper.upon_value]
  go_wp2
  go_ret
  exact ⟨rfl, rfl⟩

set_option maxHeartbeats 2000000 in
theorem indexLite_any (s : ByteArray) (c : UInt8) (w : World) :
    Calls Tryz.prog 41 #[.string s, .string ⟨#[c]⟩] w fun e w' => e = .returned (.int .i64 (Lib.indexByte s.data.toList c)) ∧ w' = w := by
  go_enter Tryz.func41, Tryz.ntmps41
  go_wp2_with (go_at_call 53; refine (indexByte_any _ _ _).mono ?_; rintro e w' ⟨rfl, rfl⟩)
  · have h : ([c] == s.toList) = true := by assumption
    go_ret
    refine ⟨?_, rfl⟩
    have e : s.data.toList = [c] := by rw [← Lib.toList_data]; exact (beq_iff_eq.1 h).symm
    rw [e]
    simp [Lib.indexByte]
  · go_ret
    exact ⟨rfl, rfl⟩

theorem en_ixb (args : Array Value) (w : World) : (callFunc 53 args).run Tryz.prog w = .ok (.enter 53 args) w := by go_simp
def ixbF (s : ByteArray) (c : Int) : Int := Lib.indexByte s.data.toList c.toNat.toUInt8
def ixbS : Spec Tryz.prog 53 :=
  mk2C _ en_ixb tStr (tInt .u8) (fun _ _ => True) (fun s c => iv (ixbF s c)) (fun _ _ => rfl) (fun s p hp M w u v _ hu hv => by
    have hu' : u = .string s := hu
    have hv' : v = .int .u8 p := hv
    subst hu'
    subst hv'
    refine (indexByte_any s p w).mono ?_
    rintro e w' ⟨rfl, rfl⟩
    exact ⟨⟨_, rfl, rfl⟩, .refl _ _⟩)
theorem ixb_run {id : Nat} {h : Heap} {args : List AV} : ixbS.run id h args = runP (args2 tStr (tInt .u8) (fun _ _ => True)) (fun x => .ret (iv (ixbF x.1 x.2))) h args := rfl
theorem en_ixl (args : Array Value) (w : World) : (callFunc 41 args).run Tryz.prog w = .ok (.enter 41 args) w := by go_simp
def ixlS : Spec Tryz.prog 41 :=
  mk2C _ en_ixl tStr tStr (fun _ p => p.size = 1) (fun s p => iv (Lib.indexByte s.data.toList (hdU p))) (fun _ _ => rfl) (fun s p hp M w u v _ hu hv => by
    have hu' : u = .string s := hu
    have hv' : v = .string p := hv
    subst hu'
    subst hv'
    have e1 := one_byte hp
    generalize hdU p = c at *
    subst e1
    refine (indexLite_any s c w).mono ?_
    rintro e w' ⟨rfl, rfl⟩
    exact ⟨⟨_, rfl, rfl⟩, .refl _ _⟩)
theorem ixl_run {id : Nat} {h : Heap} {args : List AV} : ixlS.run id h args = runP (args2 tStr tStr (fun _ p => p.size = 1)) (fun x => .ret (iv (Lib.indexByte x.1.data.toList (hdU x.2)))) h args := rfl
theorem ixl_pan {id : Nat} {h : Heap} {args : List AV} : ixlS.pan id h args = panP (args2 tStr tStr (fun _ p => p.size = 1)) (fun x => .ret (iv (Lib.indexByte x.1.data.toList (hdU x.2)))) h args := rfl

/-! ### Cut -/
def cutB (s p : ByteArray) : ByteArray × ByteArray × Bool := if 0 ≤ Lib.indexByte s.data.toList (hdU p) then (s.extract 0 (Lib.indexByte s.data.toList (hdU p)).toNat, s.extract ((Lib.indexByte s.data.toList (hdU p)).toNat + 1) s.size, true) else (s, ⟨#[]⟩, false)
def cutBO (r : ByteArray × ByteArray × Bool) : AV := .tup [.l (.v (.string r.1)), .l (.v (.string r.2.1)), .l (.v (.bool r.2.2))]
set_option maxHeartbeats 2000000 in
theorem cutL_sw (s p : ByteArray) (hp : p.size = 1 ∧ s.size ≤ 1099511627776) : SW Tryz.prog ⟨none, 0⟩ Tryz.f23.ntmps (Tryz.f23.body.getD .skip) ⟨0, zipT 0 [tStr.enc s, tStr.enc p], []⟩ (outQ Tryz.prog Tryz.f23.results.toList (.ret (cutBO (cutB s p)))) := by
  refine aRun_sound (ctx := [⟨_, ixlS⟩]) 4000 ?_
  rw [Tryz.ntmps23, Tryz.results23]
  simp only [Tryz.f23, Option.getD_some, zipT]
  obtain ⟨hp, hs⟩ := hp
  have hlt := ixb_lt (hdU p) s.data.toList
  have hsz : s.data.toList.length = s.size := by simp
  rw [hsz] at hlt
  obtain ⟨i, hi⟩ : ∃ i, Lib.indexByte s.data.toList (hdU p) = i := ⟨_, rfl⟩
  have hF : cutB s p = if 0 ≤ i then (s.extract 0 i.toNat, s.extract (i.toNat + 1) s.size, true) else (s, ⟨#[]⟩, false) := by unfold cutB; rw [hi]
  rw [hi] at hlt
  by_cases h0 : 0 ≤ i
  · rw [if_pos h0] at hF
    obtain ⟨n, rfl⟩ : ∃ n : Nat, i = n := ⟨i.toNat, by omega⟩
    have e1 : IntKind.i64.wrap ((n : Int) + 1) = ((n + 1 : Nat) : Int) := by rw [IntKind.wrap_i64]; omega
    have h2 : n + 1 ≤ s.size := by omega
    have h3 : (n : Int) ≤ (s.size : Int) := by omega
    have h5 : n ≤ s.size := by omega
    have h4 : ((n + 1 : Nat) : Int) ≤ (s.size : Int) := by omega
    have h6 : (0 : Int) ≤ ((n + 1 : Nat) : Int) := by omega
    simp only [Int.toNat_natCast] at hF
    simp only [go_sem, ixl_run, ixl_pan, hp, hi, h0]
    refine sw_draw (ctx := []) mixed [] (by kernel_rfl) ?_
    simp only [go_sem, hp, h0, e1, h2, h3, h4, h5, h6, hF, cutBO, Int.toNat_natCast]
  · rw [if_neg h0] at hF
    simp only [go_sem, ixl_run, ixl_pan, hp, hi, h0, hF, cutBO]
theorem en_cutL (args : Array Value) (w : World) : (callFunc 23 args).run Tryz.prog w = .ok (.enter 23 args) w := by go_simp
def cutLS : Spec Tryz.prog 23 :=
  mk2 _ _ _ Tryz.func23 rfl en_cutL (tStr) (tStr) ((fun s p => p.size = 1 ∧ s.size ≤ 1099511627776)) ((fun s p => .ret (cutBO (cutB s p)))) (by rw [Tryz.ntmps23]; decide) (fun s p hp => cutL_sw s p hp)
theorem cutL_run {id : Nat} {h : Heap} {args : List AV} : (cutLS).run id h args = runP (args2 (tStr) (tStr) ((fun s p => p.size = 1 ∧ s.size ≤ 1099511627776))) (fun x => ((fun s p => .ret (cutBO (cutB s p)))) x.1 x.2) h args := rfl
theorem cutL_pan {id : Nat} {h : Heap} {args : List AV} : (cutLS).pan id h args = panP (args2 (tStr) (tStr) ((fun s p => p.size = 1 ∧ s.size ≤ 1099511627776))) (fun x => ((fun s p => .ret (cutBO (cutB s p)))) x.1 x.2) h args := rfl
theorem en_cut (args : Array Value) (w : World) : (callFunc 14 args).run Tryz.prog w = .ok (.enter 14 args) w := by go_simp
def cutS : Spec Tryz.prog 14 :=
  mk2 _ _ _ Tryz.func14 rfl en_cut (tStr) (tStr) ((fun s p => p.size = 1 ∧ s.size ≤ 1099511627776)) ((fun s p => .ret (cutBO (cutB s p)))) (by rw [Tryz.ntmps14]; decide) (fun s p hp => by
  refine aRun_sound (ctx := [⟨_, cutLS⟩]) 4000 ?_
  rw [Tryz.ntmps14, Tryz.results14]
  simp only [Tryz.f14, Option.getD_some, zipT]
  simp only [go_sem, cutL_run, cutL_pan, hp, cutBO])
theorem cut_run {id : Nat} {h : Heap} {args : List AV} : (cutS).run id h args = runP (args2 (tStr) (tStr) ((fun s p => p.size = 1 ∧ s.size ≤ 1099511627776))) (fun x => ((fun s p => .ret (cutBO (cutB s p)))) x.1 x.2) h args := rfl
theorem cut_pan {id : Nat} {h : Heap} {args : List AV} : (cutS).pan id h args = panP (args2 (tStr) (tStr) ((fun s p => p.size = 1 ∧ s.size ≤ 1099511627776))) (fun x => ((fun s p => .ret (cutBO (cutB s p)))) x.1 x.2) h args := rfl

/-! ### Lines -/
def nlS : ByteArray := ⟨#[10]⟩
def rowsN : Nat → Nat → ByteArray → List (Int × ByteArray)
  | 0, _, _ => []
  | f + 1, n, s => if s.size = 0 then [] else ((n : Int), (cutB s nlS).1) :: rowsN f (n + 1) (cutB s nlS).2.1
def linesR (s : ByteArray) : List (Int × ByteArray) := rowsN (s.size + 1) 1 s
theorem cutB_lt {s : ByteArray} (h : ¬ s.size = 0) : (cutB s nlS).2.1.size < s.size := by
  have hlt := ixb_lt (hdU nlS) s.data.toList
  have hsz : s.data.toList.length = s.size := by simp
  rw [hsz] at hlt
  unfold cutB
  split
  · simp only [ByteArray.size_extract]
    omega
  · show 0 < s.size
    omega
theorem rowsN_eq : ∀ (f g n : Nat) (s : ByteArray), s.size < f → s.size < g → rowsN f n s = rowsN g n s
  | 0, g, n, s, h, _ => absurd h (Nat.not_lt_zero _)
  | f + 1, 0, n, s, _, h => absurd h (Nat.not_lt_zero _)
  | f + 1, g + 1, n, s, h1, h2 => by
    rw [rowsN, rowsN]
    by_cases h : s.size = 0
    · rw [if_pos h, if_pos h]
    · rw [if_neg h, if_neg h, rowsN_eq f g (n + 1) _ (by have := cutB_lt h; omega) (by have := cutB_lt h; omega)]
def lineA (r : Int × ByteArray) : List AV := [iv r.1, sv r.2]
def decLn : List D → Option (Prop × List (List AV))
  | [.pd [.v (.string s)]] => some (s.size ≤ 1099511627776, (linesR s).map lineA)
  | _ => none

set_option maxHeartbeats 8000000 in
theorem lines1_sw (l : Nat) (s : ByteArray) (hs : s.size ≤ 1099511627776) : SWy Tryz.prog l ((linesR s).map lineA) ⟨none, 0⟩ Tryz.f13.ntmps (Tryz.f13.body.getD .skip) ⟨0, zipT 0 [.s (.l (.v (.func (.yield l) #[] #[]))), .s (.l (.d (.pd [.v (.string s)])))], []⟩ (0, true) (itQ ((linesR s).map lineA)) := by
  refine yRun_sound (ctx := []) 4000 ?_
  rw [Tryz.ntmps13]
  simp only [Tryz.f13, Option.getD_some, zipT]
  simp only [go_sem]
  refine swy_loop (ι := Nat × ByteArray) (fun p => (linesR s).drop p.1 = rowsN (p.2.size + 1) (p.1 + 1) p.2 ∧ p.2.size ≤ 1099511627776 ∧ p.1 + p.2.size ≤ s.size ∧ p.1 ≤ (linesR s).length) (fun p => ⟨0, [(0, .s (.l (.v (.func (.yield l) #[] #[])))), (3, iv ((p.1 : Int) + 1)), (4, sv p.2)], []⟩) (fun p => (p.1, true)) (fun p => p.2.size) (0, s) ⟨rfl, hs, by simp, Nat.zero_le _⟩ rfl (fun p _ b k hk => by cases hk) (Wk.renL [] (by simp) (by simp) (by simp) rfl rfl) ?_
  rintro ⟨k, r⟩ ⟨h1, h2, h3, h4⟩
  simp only at h1 h2 h3 h4
  refine yRun_sound (ctx := [⟨_, cutS⟩]) 4000 ?_
  by_cases hz : r = ⟨#[]⟩
  · subst hz
    have e : (linesR s).drop k = [] := by rw [h1]; rfl
    rw [List.drop_eq_nil_iff] at e
    have e2 : k = (linesR s).length := by omega
    simp only [go_sem, List.length_map, e2]
  · have hr : ¬ r.size = 0 := by
      intro h
      apply hz
      apply ByteArray.ext
      exact Array.eq_empty_of_size_eq_zero h
    have hlt := cutB_lt hr
    have hN : (linesR s).drop k = (((k + 1 : Nat) : Int), (cutB r nlS).1) :: rowsN ((cutB r nlS).2.1.size + 1) (k + 1 + 1) (cutB r nlS).2.1 := by
      rw [h1, rowsN, if_neg hr, rowsN_eq _ ((cutB r nlS).2.1.size + 1) _ _ hlt (Nat.lt_succ_self _)]
    have hg : (linesR s)[k]? = some (((k + 1 : Nat) : Int), (cutB r nlS).1) := by
      have : ((linesR s).drop k)[0]? = some (((k + 1 : Nat) : Int), (cutB r nlS).1) := by rw [hN]; rfl
      rw [List.getElem?_drop, Nat.add_zero] at this
      exact this
    have hkl : k < (linesR s).length := (List.getElem?_eq_some_iff.1 hg).1
    have hd : (linesR s).drop (k + 1) = rowsN ((cutB r nlS).2.1.size + 1) (k + 1 + 1) (cutB r nlS).2.1 := by
      have : ((linesR s).drop k).drop 1 = rowsN ((cutB r nlS).2.1.size + 1) (k + 1 + 1) (cutB r nlS).2.1 := by rw [hN]; rfl
      rw [List.drop_drop] at this
      exact this
    have ei : IntKind.i64.wrap ((k : Int) + 1 + 1) = ((k + 1 : Nat) : Int) + 1 := by rw [IntKind.wrap_i64]; omega
    have hp1 : (⟨#[10]⟩ : ByteArray).size = 1 := rfl
    obtain ⟨c, hc⟩ : ∃ c, cutB r nlS = c := ⟨_, rfl⟩
    have hc' : cutB r ⟨#[10]⟩ = c := hc
    rw [hc] at hlt hg hd
    simp only [go_sem, hz, cut_run, cut_pan, hp1, h2, hc', cutBO, ei]
    refine ⟨?_, (k + 1, c.2.1), ⟨hd, by simp only; omega, by simp only; omega, hkl⟩, hlt, rfl, Wk.renL [] (by simp) (by simp) (by simp) rfl rfl⟩
    rw [hg]
    rfl

theorem en_lines1 (args : Array Value) (w : World) : (callFunc 13 args).run Tryz.prog w = .ok (.enter 13 args) w := by go_simp
noncomputable def lines1It : It Tryz.prog 13 :=
  mkIt _ _ _ Tryz.func13 rfl rfl en_lines1 decLn (by
    intro ds q L hd hq l
    unfold decLn at hd
    split at hd
    case h_2 => cases hd
    rename_i s
    injection hd with hd
    injection hd with h1 hd
    subst h1
    subst hd
    exact ⟨by rw [Tryz.ntmps13]; show 1 + 1 ≤ 25; decide, lines1_sw l s hq⟩)
theorem lines1_dec {s : ByteArray} : lines1It.dec [.pd [.v (.string s)]] = some (s.size ≤ 1099511627776, (linesR s).map lineA) := rfl

theorem en_lines (args : Array Value) (w : World) : (callFunc 11 args).run Tryz.prog w = .ok (.enter 11 args) w := by go_simp
def linesS : Spec Tryz.prog 11 :=
  mk1 _ _ _ Tryz.func11 rfl en_lines (tStr) ((fun _ => True)) ((fun s => .ret (.fn 13 [] [.d (.pd [.v (.string s)])]))) (by rw [Tryz.ntmps11]; decide) (fun s _ => by
  refine aRun_sound (ctx := []) 4000 ?_
  rw [Tryz.ntmps11, Tryz.results11]
  simp only [Tryz.f11, Option.getD_some, zipT]
  simp only [go_sem])
theorem lines_run {id : Nat} {h : Heap} {args : List AV} : (linesS).run id h args = runP (args1 (tStr) ((fun _ => True))) ((fun s => .ret (.fn 13 [] [.d (.pd [.v (.string s)])]))) h args := rfl
theorem lines_pan {id : Nat} {h : Heap} {args : List AV} : (linesS).pan id h args = panP (args1 (tStr) ((fun _ => True))) ((fun s => .ret (.fn 13 [] [.d (.pd [.v (.string s)])]))) h args := rfl

end Go.Proofs.YtpdjaabjfhjppaaGreatDoor
