/- Contracts of the reference's IsSym and decimal (package cooperref09): they compute what package expr computes. Contract of the reference's decimal (package cooperref09): it computes what package expr's does. Contract of the reference's Print (package cooperref09): it computes what package expr's does. The reference's Print, whatever the value. -/
import Derived.Test.YthcoegkfpinlfaaGreatDoorO23
/-! ## Rb -/
set_option linter.unusedVariables false
set_option linter.unusedSimpArgs false
namespace Go.Proofs.YthcoegkfpinlfaaGreatDoor.Ex
open Go.RowKit

set_option maxRecDepth 100000 in
set_option maxHeartbeats 1000000 in
theorem eW (s : ByteArray) (w : World) (hs : s.size ≤ maxLen) :
    Calls Tryz.prog 87 #[.string s] w fun e w' => e = .returned (.bool (iP s)) ∧ w = w' := by
  unfold maxLen at hs
  have HR := Lib.hid (X8 s)
  go_enter Tryz.func87, Tryz.ntmps87
  go_wp2_with fail
  go_loop [3] (fun n => ∃ k : Nat, k ≤ s.size ∧ n = .int .i64 k ∧ Hid (Lf k (s.data.toList.drop k) = Lf 0 s.data.toList)) (fun n => s.size - (intOf n).toNat)
  case atStart => exact ⟨0, Nat.zero_le _, rfl, show _ = _ by simp⟩
  case round =>
    obtain ⟨k, hk, rfl, hr⟩ := hrel
    by_cases hlt : k < s.size
    · have hd := Lib.hid (Nf s k hlt)
      have hc : (0 : Int) ≤ (s[k].toNat : Int) := by omega
      go_wp2_with fail
      all_goals first
        | (go_ret
           refine ⟨j1 ?_, rfl⟩
           have ok : okB k (s[k].toNat : Int) = false := by ((unfold okB nl MX; simp) <;> (try simp at *) <;> omega)
           rw [HR.out, ← hr.out, hd.out, Lf, ok]; rfl)
        | (have ok : okB k (s[k].toNat : Int) = true := by ((unfold okB nl MX; simp) <;> (try simp at *) <;> omega)
           go_round
           case rel => exact ⟨k + 1, by omega, by go_num, show _ = _ by rw [← hr.out, hd.out, Lf, ok, Bool.true_and]⟩
           case measure => simp [intOf]; omega)
    · have hd := Lib.hid (Ts s k (by omega))
      by_cases h0 : s.size = 0
      · have h1 : s.toList = [] := Ls h0
        go_wp2_with fail
        go_ret
        exact ⟨j1 (by rw [HR.out, ← hr.out, hd.out]; simp [h0]), rfl⟩
      · have h1 : ¬ s.toList = [] := D2 h0
        have h2 : s.toList.isEmpty = false := Dp h0
        go_wp2_with fail
        go_ret
        exact ⟨j1 (by rw [HR.out, ← hr.out, hd.out, Bool.eq_iff_iff]; simp [Lf, h0]; omega), rfl⟩

end Go.Proofs.YthcoegkfpinlfaaGreatDoor.Ex

/-! ## Rc -/
namespace Go.Proofs.YthcoegkfpinlfaaGreatDoor.Ex
open Go.RowKit

set_option maxRecDepth 100000 in
set_option maxHeartbeats 1000000 in
theorem MD (N : Nat) (w : World) (hN : N < 18446744073709551616) :
    Calls Tryz.prog 88 #[.int .u64 N] w fun e w' => e = .returned (.string (decS N)) ∧ w = w' := by
  have hN' := Lib.hid hN
  go_enter Tryz.func88, Tryz.ntmps88
  go_wp2_with fail
  go_loop [0, 3] (fun nv sv => ∃ (p m : Nat) (tail : ByteArray), nv = .int .u64 m ∧ sv = .string tail ∧ Hid (decG 20 N = decG p m ++ tail.data.toList) ∧ Hid (m < 10 ^ p) ∧ m ≤ N ∧ 0 < p ∧ p + tail.size = 20) (fun nv _ => (intOf nv).toNat)
  case atStart => exact ⟨20, N, ⟨#[]⟩, rfl, rfl, show _ = _ by simp, show N < 10 ^ 20 by have := hN'.out; omega, Nat.le_refl _, by omega, rfl⟩
  case round =>
    obtain ⟨p, m, tail, rfl, rfl, hd, hm, hmN, h0, ht⟩ := hrel
    obtain ⟨q, rfl⟩ : ∃ q, p = q + 1 := ⟨p - 1, by omega⟩
    have hts : tail.size ≤ 20 := by omega
    have hm10 : m % 10 < 10 := Nat.mod_lt _ (by omega)
    have hx := Lib.hid (Yw (m % 10) hm10)
    by_cases h10 : m < 10
    · have h10' : ((m : Int) / 10 == 0) = true := by simp; omega
      have hs : Hid (decS N = ⟨#[UInt8.ofNat (48 + m % 10)]⟩ ++ tail) := show _ = _ by
        apply ByteArray.ext
        rw [ByteArray.data_append]
        apply Array.ext'
        show (decG 20 N).toArray.toList = _
        rw [hd.out, decG, if_pos h10, Nat.mod_eq_of_lt h10]
        simp
      go_wp2_with fail
      go_ret
      exact ⟨by rw [hx.out, hs.out]; rfl, rfl⟩
    · have h10' : ((m : Int) / 10 == 0) = false := by simp; omega
      go_wp2_with fail
      go_round
      case rel =>
        refine ⟨q, m / 10, _, by go_num, rfl, ?_, show _ < _ from VS hm.out, by omega, VL hm.out h10, ?_⟩
        · show _ = _
          rw [hx.out, hd.out, decG, if_neg h10, ByteArray.data_append]
          simp
        · rw [hx.out, ByteArray.size_append]
          show q + (1 + tail.size) = 20
          omega
      case measure => simp [intOf]; omega

end Go.Proofs.YthcoegkfpinlfaaGreatDoor.Ex

/-! ## Rd -/
namespace Go.Proofs.YthcoegkfpinlfaaGreatDoor.Ex
open Go.RowKit

set_option maxRecDepth 100000 in
set_option maxHeartbeats 1000000 in
theorem SE (a : Int) (p m : ByteArray) (w : World) (p1 : ¬ p.toList = []) (p2 : p.toList.isEmpty = false) (p4 : p.size ≤ maxLen) (p3 : iP p = false) (hx : printF ⟨a, p, m⟩ = (⟨#[]⟩, 90)) :
    Calls Tryz.prog 42 #[.agg #[.int .i64 a, .string p, .string m]] w (PrintPost ⟨a, p, m⟩ w) := by
  have HX := Lib.hid hx
  clear hx
  go_enter Tryz.func42, Tryz.ntmps42
  go_wp2_with (first | (go_at_call 87; refine (eW _ _ (by assumption)).mono ?_; rintro e w' ⟨rfl, rfl⟩))
  (go_ret2; exact PrintPost.mk HX.out (by ((repeat (first | with_reducible refine Below.drew ?_ | (with_reducible refine Below.alloc ?_ ?_ _; rotate_left; (focus (first | (simp; done) | (simp; omega) | omega))) | (with_reducible refine Below.setCell ?_ ?_ _; rotate_left; (focus (first | (simp; done) | (simp; omega) | omega))))); (first | with_reducible exact Below.refl _ _ | with_reducible assumption))))

set_option maxRecDepth 100000 in
set_option maxHeartbeats 1000000 in
theorem Q8 (a : Int) (m : ByteArray) (w : World) (m1 : ¬ m.toList = []) (m2 : m.toList.isEmpty = false) (m4 : m.size ≤ maxLen) (m3 : iP m = false) (hx : printF ⟨a, ⟨#[]⟩, m⟩ = (⟨#[]⟩, 90)) :
    Calls Tryz.prog 42 #[.agg #[.int .i64 a, .string ⟨#[]⟩, .string m]] w (PrintPost ⟨a, ⟨#[]⟩, m⟩ w) := by
  have HX := Lib.hid hx
  clear hx
  go_enter Tryz.func42, Tryz.ntmps42
  go_wp2_with (first | (go_at_call 87; refine (eW _ _ (by assumption)).mono ?_; rintro e w' ⟨rfl, rfl⟩))
  (go_ret2; exact PrintPost.mk HX.out (by ((repeat (first | with_reducible refine Below.drew ?_ | (with_reducible refine Below.alloc ?_ ?_ _; rotate_left; (focus (first | (simp; done) | (simp; omega) | omega))) | (with_reducible refine Below.setCell ?_ ?_ _; rotate_left; (focus (first | (simp; done) | (simp; omega) | omega))))); (first | with_reducible exact Below.refl _ _ | with_reducible assumption))))

set_option maxRecDepth 100000 in
set_option maxHeartbeats 1000000 in
theorem So (a : Int) (p m : ByteArray) (w : World) (p1 : ¬ p.toList = []) (p2 : p.toList.isEmpty = false) (p4 : p.size ≤ maxLen) (p3 : iP p = true) (p5 : p.size ≤ 512) (m1 : ¬ m.toList = []) (m2 : m.toList.isEmpty = false) (m4 : m.size ≤ maxLen) (m3 : iP m = false) (hx : printF ⟨a, p, m⟩ = (⟨#[]⟩, 90)) :
    Calls Tryz.prog 42 #[.agg #[.int .i64 a, .string p, .string m]] w (PrintPost ⟨a, p, m⟩ w) := by
  have HX := Lib.hid hx
  clear hx
  go_enter Tryz.func42, Tryz.ntmps42
  go_wp2_with (first | (go_at_call 87; refine (eW _ _ (by assumption)).mono ?_; rintro e w' ⟨rfl, rfl⟩))
  (go_ret2; exact PrintPost.mk HX.out (by ((repeat (first | with_reducible refine Below.drew ?_ | (with_reducible refine Below.alloc ?_ ?_ _; rotate_left; (focus (first | (simp; done) | (simp; omega) | omega))) | (with_reducible refine Below.setCell ?_ ?_ _; rotate_left; (focus (first | (simp; done) | (simp; omega) | omega))))); (first | with_reducible exact Below.refl _ _ | with_reducible assumption))))

set_option maxRecDepth 100000 in
set_option maxHeartbeats 1000000 in
theorem RN (a : Int) (p : ByteArray) (w : World) (p1 : ¬ p.toList = []) (p2 : p.toList.isEmpty = false) (p4 : p.size ≤ maxLen) (p3 : iP p = true) (p5 : p.size ≤ 512) (hx : printF ⟨a, p, p⟩ = (⟨#[]⟩, 90)) :
    Calls Tryz.prog 42 #[.agg #[.int .i64 a, .string p, .string p]] w (PrintPost ⟨a, p, p⟩ w) := by
  have HX := Lib.hid hx
  clear hx
  go_enter Tryz.func42, Tryz.ntmps42
  go_wp2_with (first | (go_at_call 87; refine (eW _ _ (by assumption)).mono ?_; rintro e w' ⟨rfl, rfl⟩))
  (go_ret2; exact PrintPost.mk HX.out (by ((repeat (first | with_reducible refine Below.drew ?_ | (with_reducible refine Below.alloc ?_ ?_ _; rotate_left; (focus (first | (simp; done) | (simp; omega) | omega))) | (with_reducible refine Below.setCell ?_ ?_ _; rotate_left; (focus (first | (simp; done) | (simp; omega) | omega))))); (first | with_reducible exact Below.refl _ _ | with_reducible assumption))))

set_option maxRecDepth 100000 in
set_option maxHeartbeats 1000000 in
theorem M2 (a : Int) (w : World) (ha : a < 0) (hd : ∀ W, Calls Tryz.prog 88 #[.int .u64 ((((-a).toNat : Nat)) : Int)] W fun e w' => e = .returned (.string (decS (-a).toNat)) ∧ W = w') (hu : IntKind.u64.wrap (-IntKind.u64.wrap a) = (((-a).toNat : Nat) : Int)) (hz : (decS (-a).toNat).size ≤ 20) (hx : printF ⟨a, ⟨#[]⟩, ⟨#[]⟩⟩ = ((⟨#[]⟩ ++ (⟨#[45]⟩ ++ decS (-a).toNat)), 0)) :
    Calls Tryz.prog 42 #[.agg #[.int .i64 a, .string ⟨#[]⟩, .string ⟨#[]⟩]] w (PrintPost ⟨a, ⟨#[]⟩, ⟨#[]⟩⟩ w) := by
  have HX := Lib.hid hx
  clear hx
  have HDD := Lib.hid hd
  have HU := Lib.hid hu
  clear hd hu
  go_enter Tryz.func42, Tryz.ntmps42
  go_wp2_with (first | (go_at_call 87; refine (eW _ _ (by assumption)).mono ?_; rintro e w' ⟨rfl, rfl⟩) | (go_at_call 88; rw [HU.out]; refine (HDD.out _).mono ?_; rintro e w2 ⟨rfl, rfl⟩))
  (go_ret2; exact PrintPost.mk HX.out (by ((repeat (first | with_reducible refine Below.drew ?_ | (with_reducible refine Below.alloc ?_ ?_ _; rotate_left; (focus (first | (simp; done) | (simp; omega) | omega))) | (with_reducible refine Below.setCell ?_ ?_ _; rotate_left; (focus (first | (simp; done) | (simp; omega) | omega))))); (first | with_reducible exact Below.refl _ _ | with_reducible assumption))))

set_option maxRecDepth 100000 in
set_option maxHeartbeats 1000000 in
theorem MY (a : Int) (w : World) (ha : 0 ≤ a) (hd : ∀ W, Calls Tryz.prog 88 #[.int .u64 (((a.toNat : Nat)) : Int)] W fun e w' => e = .returned (.string (decS a.toNat)) ∧ W = w') (hu : IntKind.u64.wrap a = ((a.toNat : Nat) : Int)) (hz : (decS a.toNat).size ≤ 20) (hx : printF ⟨a, ⟨#[]⟩, ⟨#[]⟩⟩ = ((decS a.toNat), 0)) :
    Calls Tryz.prog 42 #[.agg #[.int .i64 a, .string ⟨#[]⟩, .string ⟨#[]⟩]] w (PrintPost ⟨a, ⟨#[]⟩, ⟨#[]⟩⟩ w) := by
  have HX := Lib.hid hx
  clear hx
  have HDD := Lib.hid hd
  have HU := Lib.hid hu
  clear hd hu
  go_enter Tryz.func42, Tryz.ntmps42
  go_wp2_with (first | (go_at_call 87; refine (eW _ _ (by assumption)).mono ?_; rintro e w' ⟨rfl, rfl⟩) | (go_at_call 88; rw [HU.out]; refine (HDD.out _).mono ?_; rintro e w2 ⟨rfl, rfl⟩))
  (go_ret2; exact PrintPost.mk HX.out (by ((repeat (first | with_reducible refine Below.drew ?_ | (with_reducible refine Below.alloc ?_ ?_ _; rotate_left; (focus (first | (simp; done) | (simp; omega) | omega))) | (with_reducible refine Below.setCell ?_ ?_ _; rotate_left; (focus (first | (simp; done) | (simp; omega) | omega))))); (first | with_reducible exact Below.refl _ _ | with_reducible assumption))))

set_option maxRecDepth 100000 in
set_option maxHeartbeats 1000000 in
theorem Up (m : ByteArray) (w : World) (m1 : ¬ m.toList = []) (m2 : m.toList.isEmpty = false) (m4 : m.size ≤ maxLen) (m3 : iP m = true) (m5 : m.size ≤ 512) (b1 : (⟨#[48]⟩ ++ (⟨#[45]⟩ ++ m)).toList.isEmpty = false) (b2 : ¬ (⟨#[48]⟩ ++ (⟨#[45]⟩ ++ m)).toList = []) (hx : printF ⟨0, ⟨#[]⟩, m⟩ = ((⟨#[48]⟩ ++ (⟨#[45]⟩ ++ m)), 0)) :
    Calls Tryz.prog 42 #[.agg #[.int .i64 0, .string ⟨#[]⟩, .string m]] w (PrintPost ⟨0, ⟨#[]⟩, m⟩ w) := by
  have HX := Lib.hid hx
  clear hx
  go_enter Tryz.func42, Tryz.ntmps42
  go_wp2_with (first | (go_at_call 87; refine (eW _ _ (by assumption)).mono ?_; rintro e w' ⟨rfl, rfl⟩))
  (go_ret2; exact PrintPost.mk HX.out (by ((repeat (first | with_reducible refine Below.drew ?_ | (with_reducible refine Below.alloc ?_ ?_ _; rotate_left; (focus (first | (simp; done) | (simp; omega) | omega))) | (with_reducible refine Below.setCell ?_ ?_ _; rotate_left; (focus (first | (simp; done) | (simp; omega) | omega))))); (first | with_reducible exact Below.refl _ _ | with_reducible assumption))))

set_option maxRecDepth 100000 in
set_option maxHeartbeats 1000000 in
theorem UJ (a : Int) (m : ByteArray) (w : World) (m1 : ¬ m.toList = []) (m2 : m.toList.isEmpty = false) (m4 : m.size ≤ maxLen) (m3 : iP m = true) (m5 : m.size ≤ 512) (b1 : (⟨#[48]⟩ ++ (⟨#[45]⟩ ++ m)).toList.isEmpty = false) (b2 : ¬ (⟨#[48]⟩ ++ (⟨#[45]⟩ ++ m)).toList = []) (ha : a < 0) (hd : ∀ W, Calls Tryz.prog 88 #[.int .u64 ((((-a).toNat : Nat)) : Int)] W fun e w' => e = .returned (.string (decS (-a).toNat)) ∧ W = w') (hu : IntKind.u64.wrap (-IntKind.u64.wrap a) = (((-a).toNat : Nat) : Int)) (hz : (decS (-a).toNat).size ≤ 20) (hx : printF ⟨a, ⟨#[]⟩, m⟩ = (((⟨#[48]⟩ ++ (⟨#[45]⟩ ++ m)) ++ (⟨#[45]⟩ ++ decS (-a).toNat)), 0)) :
    Calls Tryz.prog 42 #[.agg #[.int .i64 a, .string ⟨#[]⟩, .string m]] w (PrintPost ⟨a, ⟨#[]⟩, m⟩ w) := by
  have HX := Lib.hid hx
  clear hx
  have HDD := Lib.hid hd
  have HU := Lib.hid hu
  clear hd hu
  go_enter Tryz.func42, Tryz.ntmps42
  go_wp2_with (first | (go_at_call 87; refine (eW _ _ (by assumption)).mono ?_; rintro e w' ⟨rfl, rfl⟩) | (go_at_call 88; rw [HU.out]; refine (HDD.out _).mono ?_; rintro e w2 ⟨rfl, rfl⟩))
  (go_ret2; exact PrintPost.mk HX.out (by ((repeat (first | with_reducible refine Below.drew ?_ | (with_reducible refine Below.alloc ?_ ?_ _; rotate_left; (focus (first | (simp; done) | (simp; omega) | omega))) | (with_reducible refine Below.setCell ?_ ?_ _; rotate_left; (focus (first | (simp; done) | (simp; omega) | omega))))); (first | with_reducible exact Below.refl _ _ | with_reducible assumption))))

set_option maxRecDepth 100000 in
set_option maxHeartbeats 1000000 in
theorem Ur (a : Int) (m : ByteArray) (w : World) (m1 : ¬ m.toList = []) (m2 : m.toList.isEmpty = false) (m4 : m.size ≤ maxLen) (m3 : iP m = true) (m5 : m.size ≤ 512) (b1 : (⟨#[48]⟩ ++ (⟨#[45]⟩ ++ m)).toList.isEmpty = false) (b2 : ¬ (⟨#[48]⟩ ++ (⟨#[45]⟩ ++ m)).toList = []) (ha : 0 < a) (hd : ∀ W, Calls Tryz.prog 88 #[.int .u64 (((a.toNat : Nat)) : Int)] W fun e w' => e = .returned (.string (decS a.toNat)) ∧ W = w') (hu : IntKind.u64.wrap a = ((a.toNat : Nat) : Int)) (hz : (decS a.toNat).size ≤ 20) (hx : printF ⟨a, ⟨#[]⟩, m⟩ = (((⟨#[48]⟩ ++ (⟨#[45]⟩ ++ m)) ++ (⟨#[43]⟩ ++ decS a.toNat)), 0)) :
    Calls Tryz.prog 42 #[.agg #[.int .i64 a, .string ⟨#[]⟩, .string m]] w (PrintPost ⟨a, ⟨#[]⟩, m⟩ w) := by
  have HX := Lib.hid hx
  clear hx
  have HDD := Lib.hid hd
  have HU := Lib.hid hu
  clear hd hu
  go_enter Tryz.func42, Tryz.ntmps42
  go_wp2_with (first | (go_at_call 87; refine (eW _ _ (by assumption)).mono ?_; rintro e w' ⟨rfl, rfl⟩) | (go_at_call 88; rw [HU.out]; refine (HDD.out _).mono ?_; rintro e w2 ⟨rfl, rfl⟩))
  (go_ret2; exact PrintPost.mk HX.out (by ((repeat (first | with_reducible refine Below.drew ?_ | (with_reducible refine Below.alloc ?_ ?_ _; rotate_left; (focus (first | (simp; done) | (simp; omega) | omega))) | (with_reducible refine Below.setCell ?_ ?_ _; rotate_left; (focus (first | (simp; done) | (simp; omega) | omega))))); (first | with_reducible exact Below.refl _ _ | with_reducible assumption))))

set_option maxRecDepth 100000 in
set_option maxHeartbeats 1000000 in
theorem U5 (p : ByteArray) (w : World) (p1 : ¬ p.toList = []) (p2 : p.toList.isEmpty = false) (p4 : p.size ≤ maxLen) (p3 : iP p = true) (p5 : p.size ≤ 512) (hx : printF ⟨0, p, ⟨#[]⟩⟩ = (p, 0)) :
    Calls Tryz.prog 42 #[.agg #[.int .i64 0, .string p, .string ⟨#[]⟩]] w (PrintPost ⟨0, p, ⟨#[]⟩⟩ w) := by
  have HX := Lib.hid hx
  clear hx
  go_enter Tryz.func42, Tryz.ntmps42
  go_wp2_with (first | (go_at_call 87; refine (eW _ _ (by assumption)).mono ?_; rintro e w' ⟨rfl, rfl⟩))
  (go_ret2; exact PrintPost.mk HX.out (by ((repeat (first | with_reducible refine Below.drew ?_ | (with_reducible refine Below.alloc ?_ ?_ _; rotate_left; (focus (first | (simp; done) | (simp; omega) | omega))) | (with_reducible refine Below.setCell ?_ ?_ _; rotate_left; (focus (first | (simp; done) | (simp; omega) | omega))))); (first | with_reducible exact Below.refl _ _ | with_reducible assumption))))

set_option maxRecDepth 100000 in
set_option maxHeartbeats 1000000 in
theorem Uq (a : Int) (p : ByteArray) (w : World) (p1 : ¬ p.toList = []) (p2 : p.toList.isEmpty = false) (p4 : p.size ≤ maxLen) (p3 : iP p = true) (p5 : p.size ≤ 512) (ha : a < 0) (hd : ∀ W, Calls Tryz.prog 88 #[.int .u64 ((((-a).toNat : Nat)) : Int)] W fun e w' => e = .returned (.string (decS (-a).toNat)) ∧ W = w') (hu : IntKind.u64.wrap (-IntKind.u64.wrap a) = (((-a).toNat : Nat) : Int)) (hz : (decS (-a).toNat).size ≤ 20) (hx : printF ⟨a, p, ⟨#[]⟩⟩ = ((p ++ (⟨#[45]⟩ ++ decS (-a).toNat)), 0)) :
    Calls Tryz.prog 42 #[.agg #[.int .i64 a, .string p, .string ⟨#[]⟩]] w (PrintPost ⟨a, p, ⟨#[]⟩⟩ w) := by
  have HX := Lib.hid hx
  clear hx
  have HDD := Lib.hid hd
  have HU := Lib.hid hu
  clear hd hu
  go_enter Tryz.func42, Tryz.ntmps42
  go_wp2_with (first | (go_at_call 87; refine (eW _ _ (by assumption)).mono ?_; rintro e w' ⟨rfl, rfl⟩) | (go_at_call 88; rw [HU.out]; refine (HDD.out _).mono ?_; rintro e w2 ⟨rfl, rfl⟩))
  (go_ret2; exact PrintPost.mk HX.out (by ((repeat (first | with_reducible refine Below.drew ?_ | (with_reducible refine Below.alloc ?_ ?_ _; rotate_left; (focus (first | (simp; done) | (simp; omega) | omega))) | (with_reducible refine Below.setCell ?_ ?_ _; rotate_left; (focus (first | (simp; done) | (simp; omega) | omega))))); (first | with_reducible exact Below.refl _ _ | with_reducible assumption))))

set_option maxRecDepth 100000 in
set_option maxHeartbeats 1000000 in
theorem Uf (a : Int) (p : ByteArray) (w : World) (p1 : ¬ p.toList = []) (p2 : p.toList.isEmpty = false) (p4 : p.size ≤ maxLen) (p3 : iP p = true) (p5 : p.size ≤ 512) (ha : 0 < a) (hd : ∀ W, Calls Tryz.prog 88 #[.int .u64 (((a.toNat : Nat)) : Int)] W fun e w' => e = .returned (.string (decS a.toNat)) ∧ W = w') (hu : IntKind.u64.wrap a = ((a.toNat : Nat) : Int)) (hz : (decS a.toNat).size ≤ 20) (hx : printF ⟨a, p, ⟨#[]⟩⟩ = ((p ++ (⟨#[43]⟩ ++ decS a.toNat)), 0)) :
    Calls Tryz.prog 42 #[.agg #[.int .i64 a, .string p, .string ⟨#[]⟩]] w (PrintPost ⟨a, p, ⟨#[]⟩⟩ w) := by
  have HX := Lib.hid hx
  clear hx
  have HDD := Lib.hid hd
  have HU := Lib.hid hu
  clear hd hu
  go_enter Tryz.func42, Tryz.ntmps42
  go_wp2_with (first | (go_at_call 87; refine (eW _ _ (by assumption)).mono ?_; rintro e w' ⟨rfl, rfl⟩) | (go_at_call 88; rw [HU.out]; refine (HDD.out _).mono ?_; rintro e w2 ⟨rfl, rfl⟩))
  (go_ret2; exact PrintPost.mk HX.out (by ((repeat (first | with_reducible refine Below.drew ?_ | (with_reducible refine Below.alloc ?_ ?_ _; rotate_left; (focus (first | (simp; done) | (simp; omega) | omega))) | (with_reducible refine Below.setCell ?_ ?_ _; rotate_left; (focus (first | (simp; done) | (simp; omega) | omega))))); (first | with_reducible exact Below.refl _ _ | with_reducible assumption))))

set_option maxRecDepth 100000 in
set_option maxHeartbeats 1000000 in
theorem Sy (p m : ByteArray) (w : World) (p1 : ¬ p.toList = []) (p2 : p.toList.isEmpty = false) (p4 : p.size ≤ maxLen) (p3 : iP p = true) (p5 : p.size ≤ 512) (m1 : ¬ m.toList = []) (m2 : m.toList.isEmpty = false) (m4 : m.size ≤ maxLen) (m3 : iP m = true) (m5 : m.size ≤ 512) (ne : (p.toList == m.toList) = false) (b1 : (p ++ (⟨#[45]⟩ ++ m)).toList.isEmpty = false) (b2 : ¬ (p ++ (⟨#[45]⟩ ++ m)).toList = []) (hx : printF ⟨0, p, m⟩ = ((p ++ (⟨#[45]⟩ ++ m)), 0)) :
    Calls Tryz.prog 42 #[.agg #[.int .i64 0, .string p, .string m]] w (PrintPost ⟨0, p, m⟩ w) := by
  have HX := Lib.hid hx
  clear hx
  go_enter Tryz.func42, Tryz.ntmps42
  go_wp2_with (first | (go_at_call 87; refine (eW _ _ (by assumption)).mono ?_; rintro e w' ⟨rfl, rfl⟩))
  (go_ret2; exact PrintPost.mk HX.out (by ((repeat (first | with_reducible refine Below.drew ?_ | (with_reducible refine Below.alloc ?_ ?_ _; rotate_left; (focus (first | (simp; done) | (simp; omega) | omega))) | (with_reducible refine Below.setCell ?_ ?_ _; rotate_left; (focus (first | (simp; done) | (simp; omega) | omega))))); (first | with_reducible exact Below.refl _ _ | with_reducible assumption))))

set_option maxRecDepth 100000 in
set_option maxHeartbeats 1000000 in
theorem Tp (a : Int) (p m : ByteArray) (w : World) (p1 : ¬ p.toList = []) (p2 : p.toList.isEmpty = false) (p4 : p.size ≤ maxLen) (p3 : iP p = true) (p5 : p.size ≤ 512) (m1 : ¬ m.toList = []) (m2 : m.toList.isEmpty = false) (m4 : m.size ≤ maxLen) (m3 : iP m = true) (m5 : m.size ≤ 512) (ne : (p.toList == m.toList) = false) (b1 : (p ++ (⟨#[45]⟩ ++ m)).toList.isEmpty = false) (b2 : ¬ (p ++ (⟨#[45]⟩ ++ m)).toList = []) (ha : a < 0) (hd : ∀ W, Calls Tryz.prog 88 #[.int .u64 ((((-a).toNat : Nat)) : Int)] W fun e w' => e = .returned (.string (decS (-a).toNat)) ∧ W = w') (hu : IntKind.u64.wrap (-IntKind.u64.wrap a) = (((-a).toNat : Nat) : Int)) (hz : (decS (-a).toNat).size ≤ 20) (hx : printF ⟨a, p, m⟩ = (((p ++ (⟨#[45]⟩ ++ m)) ++ (⟨#[45]⟩ ++ decS (-a).toNat)), 0)) :
    Calls Tryz.prog 42 #[.agg #[.int .i64 a, .string p, .string m]] w (PrintPost ⟨a, p, m⟩ w) := by
  have HX := Lib.hid hx
  clear hx
  have HDD := Lib.hid hd
  have HU := Lib.hid hu
  clear hd hu
  go_enter Tryz.func42, Tryz.ntmps42
  go_wp2_with (first | (go_at_call 87; refine (eW _ _ (by assumption)).mono ?_; rintro e w' ⟨rfl, rfl⟩) | (go_at_call 88; rw [HU.out]; refine (HDD.out _).mono ?_; rintro e w2 ⟨rfl, rfl⟩))
  (go_ret2; exact PrintPost.mk HX.out (by ((repeat (first | with_reducible refine Below.drew ?_ | (with_reducible refine Below.alloc ?_ ?_ _; rotate_left; (focus (first | (simp; done) | (simp; omega) | omega))) | (with_reducible refine Below.setCell ?_ ?_ _; rotate_left; (focus (first | (simp; done) | (simp; omega) | omega))))); (first | with_reducible exact Below.refl _ _ | with_reducible assumption))))

set_option maxRecDepth 100000 in
set_option maxHeartbeats 1000000 in
theorem Ta (a : Int) (p m : ByteArray) (w : World) (p1 : ¬ p.toList = []) (p2 : p.toList.isEmpty = false) (p4 : p.size ≤ maxLen) (p3 : iP p = true) (p5 : p.size ≤ 512) (m1 : ¬ m.toList = []) (m2 : m.toList.isEmpty = false) (m4 : m.size ≤ maxLen) (m3 : iP m = true) (m5 : m.size ≤ 512) (ne : (p.toList == m.toList) = false) (b1 : (p ++ (⟨#[45]⟩ ++ m)).toList.isEmpty = false) (b2 : ¬ (p ++ (⟨#[45]⟩ ++ m)).toList = []) (ha : 0 < a) (hd : ∀ W, Calls Tryz.prog 88 #[.int .u64 (((a.toNat : Nat)) : Int)] W fun e w' => e = .returned (.string (decS a.toNat)) ∧ W = w') (hu : IntKind.u64.wrap a = ((a.toNat : Nat) : Int)) (hz : (decS a.toNat).size ≤ 20) (hx : printF ⟨a, p, m⟩ = (((p ++ (⟨#[45]⟩ ++ m)) ++ (⟨#[43]⟩ ++ decS a.toNat)), 0)) :
    Calls Tryz.prog 42 #[.agg #[.int .i64 a, .string p, .string m]] w (PrintPost ⟨a, p, m⟩ w) := by
  have HX := Lib.hid hx
  clear hx
  have HDD := Lib.hid hd
  have HU := Lib.hid hu
  clear hd hu
  go_enter Tryz.func42, Tryz.ntmps42
  go_wp2_with (first | (go_at_call 87; refine (eW _ _ (by assumption)).mono ?_; rintro e w' ⟨rfl, rfl⟩) | (go_at_call 88; rw [HU.out]; refine (HDD.out _).mono ?_; rintro e w2 ⟨rfl, rfl⟩))
  (go_ret2; exact PrintPost.mk HX.out (by ((repeat (first | with_reducible refine Below.drew ?_ | (with_reducible refine Below.alloc ?_ ?_ _; rotate_left; (focus (first | (simp; done) | (simp; omega) | omega))) | (with_reducible refine Below.setCell ?_ ?_ _; rotate_left; (focus (first | (simp; done) | (simp; omega) | omega))))); (first | with_reducible exact Below.refl _ _ | with_reducible assumption))))

end Go.Proofs.YthcoegkfpinlfaaGreatDoor.Ex

/-! ## Re -/
namespace Go.Proofs.YthcoegkfpinlfaaGreatDoor.Ex
open Go.RowKit

theorem lit_app (s : ByteArray) (c : UInt8) : (⟨#[c]⟩ ++ s).toList.isEmpty = false ∧ ¬ (⟨#[c]⟩ ++ s).toList = [] := by
  have h : ¬ (⟨#[c]⟩ ++ s : ByteArray).size = 0 := by
    rw [ByteArray.size_append]
    have : (⟨#[c]⟩ : ByteArray).size = 1 := rfl
    omega
  exact ⟨Dp h, D2 h⟩
theorem app_lit {s : ByteArray} (hs : ¬ s.toList = []) (t : ByteArray) : (s ++ t).toList.isEmpty = false ∧ ¬ (s ++ t).toList = [] := by
  have h0 : ¬ s.size = 0 := fun e => hs (Ls e)
  have h : ¬ (s ++ t : ByteArray).size = 0 := by rw [ByteArray.size_append]; omega
  exact ⟨Dp h, D2 h⟩
theorem Rp (s : ByteArray) : emp ++ s = s := by
  apply ByteArray.ext; simp [emp, ByteArray.data_append]

theorem KK {a : Int} (h : a < 0) : signS a = ⟨#[45]⟩ ++ decS (-a).toNat := by rw [signS, if_pos h]
theorem Jx {a : Int} (h : 0 < a) : signS a = ⟨#[43]⟩ ++ decS a.toNat := by rw [signS, if_neg (by omega)]

theorem rprint_any (a : Int) (p m : ByteArray) (w : World) (hp : p.size ≤ maxLen) (hm : m.size ≤ maxLen) (hl : -9223372036854775808 ≤ a) (hu : a ≤ 9223372036854775807) :
    Calls Tryz.prog 42 #[.agg #[.int .i64 a, .string p, .string m]] w (PrintPost ⟨a, p, m⟩ w) := by
  have dn := fun W => MD (-a).toNat W (by omega)
  have dp := fun W => MD a.toNat W (by omega)
  have zn := decS_size (-a).toNat
  have zp := decS_size a.toNat
  have un := fun (h : a < 0) => VY h hl
  have up := fun (h : 0 ≤ a) => QP h hu
  by_cases hp0 : p = emp
  · subst hp0
    by_cases hm0 : m = emp
    · subst hm0
      by_cases ha : a < 0
      · exact M2 a w ha dn (un ha) zn (by simp only [aS]; rw [Rp, ← KK ha]; simp [printF, ha])
      · exact MY a w (by omega) dp (up (by omega)) zp (by simp [printF, aS, ha])
    · have m1 := mt Jl.1 hm0
      have m2 : m.toList.isEmpty = false := by simpa using m1
      cases m3 : iP m with
      | false => exact Q8 a m w m1 m2 hm m3 (by simp [printF, aS, hm0, m3]; try rfl)
      | true =>
        have m5 := DT m3
        have bb := lit_app (⟨#[45]⟩ ++ m) 48
        rcases Int.lt_trichotomy a 0 with ha | ha | ha
        · exact UJ a m w m1 m2 hm m3 m5 bb.1 bb.2 ha dn (un ha) zn (by rw [← KK ha]; simp [printF, aS, hm0, m3, Int.ne_of_lt ha, Pi hm0])
        · subst ha; exact Up m w m1 m2 hm m3 m5 bb.1 bb.2 (by simp [printF, aS, hm0, m3, Pi hm0])
        · exact Ur a m w m1 m2 hm m3 m5 bb.1 bb.2 ha dp (up (by omega)) zp (by rw [← Jx ha]; simp [printF, aS, hm0, m3, (Int.ne_of_lt ha).symm, Pi hm0])
  · have p1 := mt Jl.1 hp0
    have p2 : p.toList.isEmpty = false := by simpa using p1
    cases p3 : iP p with
    | false => exact SE a p m w p1 p2 hp p3 (by simp [printF, aS, hp0, p3]; try rfl)
    | true =>
      have p5 := DT p3
      by_cases hm0 : m = emp
      · subst hm0
        rcases Int.lt_trichotomy a 0 with ha | ha | ha
        · exact Uq a p w p1 p2 hp p3 p5 ha dn (un ha) zn (by rw [← KK ha]; simp [printF, aS, hp0, p3, Int.ne_of_lt ha])
        · subst ha; exact U5 p w p1 p2 hp p3 p5 (by simp [printF, aS, hp0, p3])
        · exact Uf a p w p1 p2 hp p3 p5 ha dp (up (by omega)) zp (by rw [← Jx ha]; simp [printF, aS, hp0, p3, (Int.ne_of_lt ha).symm])
      · have m1 := mt Jl.1 hm0
        have m2 : m.toList.isEmpty = false := by simpa using m1
        cases m3 : iP m with
        | false => exact So a p m w p1 p2 hp p3 p5 m1 m2 hm m3 (by simp [printF, aS, hm0, m3]; try rfl)
        | true =>
          have m5 := DT m3
          have bb := app_lit p1 (⟨#[45]⟩ ++ m)
          by_cases e : p = m
          · subst e; exact RN a p w p1 p2 hp p3 p5 (by simp [printF, aS, hp0, p3]; try rfl)
          · have ne : (p.toList == m.toList) = false := by simpa [Oq] using e
            rcases Int.lt_trichotomy a 0 with ha | ha | ha
            · exact Tp a p m w p1 p2 hp p3 p5 m1 m2 hm m3 m5 ne bb.1 bb.2 ha dn (un ha) zn (by rw [← KK ha]; simp [printF, aS, hp0, hm0, p3, m3, e, Int.ne_of_lt ha])
            · subst ha; exact Sy p m w p1 p2 hp p3 p5 m1 m2 hm m3 m5 ne bb.1 bb.2 (by simp [printF, aS, hp0, hm0, p3, m3, e])
            · exact Ta a p m w p1 p2 hp p3 p5 m1 m2 hm m3 m5 ne bb.1 bb.2 ha dp (up (by omega)) zp (by rw [← Jx ha]; simp [printF, aS, hp0, hm0, p3, m3, e, (Int.ne_of_lt ha).symm])

end Go.Proofs.YthcoegkfpinlfaaGreatDoor.Ex
