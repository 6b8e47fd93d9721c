/- Contract of the reference's Print (package cooperref09): it computes what package expr's does. -/
import Derived.Test.YthhlghoeapjagaaRb
import Derived.Test.YthhlghoeapjagaaRc
import Derived.Test.YthhlghoeapjagaaEh
set_option linter.unusedVariables false
set_option linter.unusedSimpArgs false
namespace Go.Proofs.Ythhlghoeapjagaa
open Go.RowKit

set_option maxRecDepth 100000 in
set_option maxHeartbeats 1000000 in
theorem rprint_badP (a : Int) (p m : ByteArray) (w : World) (p1 : ¬ p.toList = []) (p2 : p.toList.isEmpty = false) (p4 : p.size ≤ maxLen) (p3 : symB p = false) (hx : printF ⟨a, p, m⟩ = (⟨#[]⟩, 90)) :
    Calls Try.prog 11 #[.agg #[.int .i64 a, .string p, .string m]] w (PrintPost ⟨a, p, m⟩ w) := by
  have HX := Lib.hid hx
  clear hx
  go_enter Try.func11, Try.ntmps11
  go_wp2_with (first | (go_at_call 15; refine (risSym_any _ _ (by assumption)).mono ?_; rintro e w' ⟨rfl, rfl⟩))
  (go_ret2; exact PrintPost.mk HX.out (by ((repeat (first | with_reducible refine Below.drew ?_ | (with_reducible refine Below.alloc ?_ ?_ _; rotate_left; (focus (first | (simp; done) | (simp; omega) | omega))) | (with_reducible refine Below.setCell ?_ ?_ _; rotate_left; (focus (first | (simp; done) | (simp; omega) | omega))))); (first | with_reducible exact Below.refl _ _ | with_reducible assumption))))

set_option maxRecDepth 100000 in
set_option maxHeartbeats 1000000 in
theorem rprint_badM0 (a : Int) (m : ByteArray) (w : World) (m1 : ¬ m.toList = []) (m2 : m.toList.isEmpty = false) (m4 : m.size ≤ maxLen) (m3 : symB m = false) (hx : printF ⟨a, ⟨#[]⟩, m⟩ = (⟨#[]⟩, 90)) :
    Calls Try.prog 11 #[.agg #[.int .i64 a, .string ⟨#[]⟩, .string m]] w (PrintPost ⟨a, ⟨#[]⟩, m⟩ w) := by
  have HX := Lib.hid hx
  clear hx
  go_enter Try.func11, Try.ntmps11
  go_wp2_with (first | (go_at_call 15; refine (risSym_any _ _ (by assumption)).mono ?_; rintro e w' ⟨rfl, rfl⟩))
  (go_ret2; exact PrintPost.mk HX.out (by ((repeat (first | with_reducible refine Below.drew ?_ | (with_reducible refine Below.alloc ?_ ?_ _; rotate_left; (focus (first | (simp; done) | (simp; omega) | omega))) | (with_reducible refine Below.setCell ?_ ?_ _; rotate_left; (focus (first | (simp; done) | (simp; omega) | omega))))); (first | with_reducible exact Below.refl _ _ | with_reducible assumption))))

set_option maxRecDepth 100000 in
set_option maxHeartbeats 1000000 in
theorem rprint_badM (a : Int) (p m : ByteArray) (w : World) (p1 : ¬ p.toList = []) (p2 : p.toList.isEmpty = false) (p4 : p.size ≤ maxLen) (p3 : symB p = true) (p5 : p.size ≤ 512) (m1 : ¬ m.toList = []) (m2 : m.toList.isEmpty = false) (m4 : m.size ≤ maxLen) (m3 : symB m = false) (hx : printF ⟨a, p, m⟩ = (⟨#[]⟩, 90)) :
    Calls Try.prog 11 #[.agg #[.int .i64 a, .string p, .string m]] w (PrintPost ⟨a, p, m⟩ w) := by
  have HX := Lib.hid hx
  clear hx
  go_enter Try.func11, Try.ntmps11
  go_wp2_with (first | (go_at_call 15; refine (risSym_any _ _ (by assumption)).mono ?_; rintro e w' ⟨rfl, rfl⟩))
  (go_ret2; exact PrintPost.mk HX.out (by ((repeat (first | with_reducible refine Below.drew ?_ | (with_reducible refine Below.alloc ?_ ?_ _; rotate_left; (focus (first | (simp; done) | (simp; omega) | omega))) | (with_reducible refine Below.setCell ?_ ?_ _; rotate_left; (focus (first | (simp; done) | (simp; omega) | omega))))); (first | with_reducible exact Below.refl _ _ | with_reducible assumption))))

set_option maxRecDepth 100000 in
set_option maxHeartbeats 1000000 in
theorem rprint_same (a : Int) (p : ByteArray) (w : World) (p1 : ¬ p.toList = []) (p2 : p.toList.isEmpty = false) (p4 : p.size ≤ maxLen) (p3 : symB p = true) (p5 : p.size ≤ 512) (hx : printF ⟨a, p, p⟩ = (⟨#[]⟩, 90)) :
    Calls Try.prog 11 #[.agg #[.int .i64 a, .string p, .string p]] w (PrintPost ⟨a, p, p⟩ w) := by
  have HX := Lib.hid hx
  clear hx
  go_enter Try.func11, Try.ntmps11
  go_wp2_with (first | (go_at_call 15; refine (risSym_any _ _ (by assumption)).mono ?_; rintro e w' ⟨rfl, rfl⟩))
  (go_ret2; exact PrintPost.mk HX.out (by ((repeat (first | with_reducible refine Below.drew ?_ | (with_reducible refine Below.alloc ?_ ?_ _; rotate_left; (focus (first | (simp; done) | (simp; omega) | omega))) | (with_reducible refine Below.setCell ?_ ?_ _; rotate_left; (focus (first | (simp; done) | (simp; omega) | omega))))); (first | with_reducible exact Below.refl _ _ | with_reducible assumption))))

set_option maxRecDepth 100000 in
set_option maxHeartbeats 1000000 in
theorem rprint_plain_neg (a : Int) (w : World) (ha : a < 0) (hd : ∀ W, Calls Try.prog 35 #[.int .u64 ((((-a).toNat : Nat)) : Int)] W fun e w' => e = .returned (.string (decS (-a).toNat)) ∧ W = w') (hu : IntKind.u64.wrap (-IntKind.u64.wrap a) = (((-a).toNat : Nat) : Int)) (hz : (decS (-a).toNat).size ≤ 20) (hx : printF ⟨a, ⟨#[]⟩, ⟨#[]⟩⟩ = ((⟨#[]⟩ ++ (⟨#[45]⟩ ++ decS (-a).toNat)), 0)) :
    Calls Try.prog 11 #[.agg #[.int .i64 a, .string ⟨#[]⟩, .string ⟨#[]⟩]] w (PrintPost ⟨a, ⟨#[]⟩, ⟨#[]⟩⟩ w) := by
  have HX := Lib.hid hx
  clear hx
  have HDD := Lib.hid hd
  have HU := Lib.hid hu
  clear hd hu
  go_enter Try.func11, Try.ntmps11
  go_wp2_with (first | (go_at_call 15; refine (risSym_any _ _ (by assumption)).mono ?_; rintro e w' ⟨rfl, rfl⟩) | (go_at_call 35; rw [HU.out]; refine (HDD.out _).mono ?_; rintro e w2 ⟨rfl, rfl⟩))
  (go_ret2; exact PrintPost.mk HX.out (by ((repeat (first | with_reducible refine Below.drew ?_ | (with_reducible refine Below.alloc ?_ ?_ _; rotate_left; (focus (first | (simp; done) | (simp; omega) | omega))) | (with_reducible refine Below.setCell ?_ ?_ _; rotate_left; (focus (first | (simp; done) | (simp; omega) | omega))))); (first | with_reducible exact Below.refl _ _ | with_reducible assumption))))

set_option maxRecDepth 100000 in
set_option maxHeartbeats 1000000 in
theorem rprint_plain_pos (a : Int) (w : World) (ha : 0 ≤ a) (hd : ∀ W, Calls Try.prog 35 #[.int .u64 (((a.toNat : Nat)) : Int)] W fun e w' => e = .returned (.string (decS a.toNat)) ∧ W = w') (hu : IntKind.u64.wrap a = ((a.toNat : Nat) : Int)) (hz : (decS a.toNat).size ≤ 20) (hx : printF ⟨a, ⟨#[]⟩, ⟨#[]⟩⟩ = ((decS a.toNat), 0)) :
    Calls Try.prog 11 #[.agg #[.int .i64 a, .string ⟨#[]⟩, .string ⟨#[]⟩]] w (PrintPost ⟨a, ⟨#[]⟩, ⟨#[]⟩⟩ w) := by
  have HX := Lib.hid hx
  clear hx
  have HDD := Lib.hid hd
  have HU := Lib.hid hu
  clear hd hu
  go_enter Try.func11, Try.ntmps11
  go_wp2_with (first | (go_at_call 15; refine (risSym_any _ _ (by assumption)).mono ?_; rintro e w' ⟨rfl, rfl⟩) | (go_at_call 35; rw [HU.out]; refine (HDD.out _).mono ?_; rintro e w2 ⟨rfl, rfl⟩))
  (go_ret2; exact PrintPost.mk HX.out (by ((repeat (first | with_reducible refine Below.drew ?_ | (with_reducible refine Below.alloc ?_ ?_ _; rotate_left; (focus (first | (simp; done) | (simp; omega) | omega))) | (with_reducible refine Below.setCell ?_ ?_ _; rotate_left; (focus (first | (simp; done) | (simp; omega) | omega))))); (first | with_reducible exact Below.refl _ _ | with_reducible assumption))))

set_option maxRecDepth 100000 in
set_option maxHeartbeats 1000000 in
theorem rprint_m_0 (m : ByteArray) (w : World) (m1 : ¬ m.toList = []) (m2 : m.toList.isEmpty = false) (m4 : m.size ≤ maxLen) (m3 : symB m = true) (m5 : m.size ≤ 512) (b1 : (⟨#[48]⟩ ++ (⟨#[45]⟩ ++ m)).toList.isEmpty = false) (b2 : ¬ (⟨#[48]⟩ ++ (⟨#[45]⟩ ++ m)).toList = []) (hx : printF ⟨0, ⟨#[]⟩, m⟩ = ((⟨#[48]⟩ ++ (⟨#[45]⟩ ++ m)), 0)) :
    Calls Try.prog 11 #[.agg #[.int .i64 0, .string ⟨#[]⟩, .string m]] w (PrintPost ⟨0, ⟨#[]⟩, m⟩ w) := by
  have HX := Lib.hid hx
  clear hx
  go_enter Try.func11, Try.ntmps11
  go_wp2_with (first | (go_at_call 15; refine (risSym_any _ _ (by assumption)).mono ?_; rintro e w' ⟨rfl, rfl⟩))
  (go_ret2; exact PrintPost.mk HX.out (by ((repeat (first | with_reducible refine Below.drew ?_ | (with_reducible refine Below.alloc ?_ ?_ _; rotate_left; (focus (first | (simp; done) | (simp; omega) | omega))) | (with_reducible refine Below.setCell ?_ ?_ _; rotate_left; (focus (first | (simp; done) | (simp; omega) | omega))))); (first | with_reducible exact Below.refl _ _ | with_reducible assumption))))

set_option maxRecDepth 100000 in
set_option maxHeartbeats 1000000 in
theorem rprint_m_n (a : Int) (m : ByteArray) (w : World) (m1 : ¬ m.toList = []) (m2 : m.toList.isEmpty = false) (m4 : m.size ≤ maxLen) (m3 : symB m = true) (m5 : m.size ≤ 512) (b1 : (⟨#[48]⟩ ++ (⟨#[45]⟩ ++ m)).toList.isEmpty = false) (b2 : ¬ (⟨#[48]⟩ ++ (⟨#[45]⟩ ++ m)).toList = []) (ha : a < 0) (hd : ∀ W, Calls Try.prog 35 #[.int .u64 ((((-a).toNat : Nat)) : Int)] W fun e w' => e = .returned (.string (decS (-a).toNat)) ∧ W = w') (hu : IntKind.u64.wrap (-IntKind.u64.wrap a) = (((-a).toNat : Nat) : Int)) (hz : (decS (-a).toNat).size ≤ 20) (hx : printF ⟨a, ⟨#[]⟩, m⟩ = (((⟨#[48]⟩ ++ (⟨#[45]⟩ ++ m)) ++ (⟨#[45]⟩ ++ decS (-a).toNat)), 0)) :
    Calls Try.prog 11 #[.agg #[.int .i64 a, .string ⟨#[]⟩, .string m]] w (PrintPost ⟨a, ⟨#[]⟩, m⟩ w) := by
  have HX := Lib.hid hx
  clear hx
  have HDD := Lib.hid hd
  have HU := Lib.hid hu
  clear hd hu
  go_enter Try.func11, Try.ntmps11
  go_wp2_with (first | (go_at_call 15; refine (risSym_any _ _ (by assumption)).mono ?_; rintro e w' ⟨rfl, rfl⟩) | (go_at_call 35; rw [HU.out]; refine (HDD.out _).mono ?_; rintro e w2 ⟨rfl, rfl⟩))
  (go_ret2; exact PrintPost.mk HX.out (by ((repeat (first | with_reducible refine Below.drew ?_ | (with_reducible refine Below.alloc ?_ ?_ _; rotate_left; (focus (first | (simp; done) | (simp; omega) | omega))) | (with_reducible refine Below.setCell ?_ ?_ _; rotate_left; (focus (first | (simp; done) | (simp; omega) | omega))))); (first | with_reducible exact Below.refl _ _ | with_reducible assumption))))

set_option maxRecDepth 100000 in
set_option maxHeartbeats 1000000 in
theorem rprint_m_p (a : Int) (m : ByteArray) (w : World) (m1 : ¬ m.toList = []) (m2 : m.toList.isEmpty = false) (m4 : m.size ≤ maxLen) (m3 : symB m = true) (m5 : m.size ≤ 512) (b1 : (⟨#[48]⟩ ++ (⟨#[45]⟩ ++ m)).toList.isEmpty = false) (b2 : ¬ (⟨#[48]⟩ ++ (⟨#[45]⟩ ++ m)).toList = []) (ha : 0 < a) (hd : ∀ W, Calls Try.prog 35 #[.int .u64 (((a.toNat : Nat)) : Int)] W fun e w' => e = .returned (.string (decS a.toNat)) ∧ W = w') (hu : IntKind.u64.wrap a = ((a.toNat : Nat) : Int)) (hz : (decS a.toNat).size ≤ 20) (hx : printF ⟨a, ⟨#[]⟩, m⟩ = (((⟨#[48]⟩ ++ (⟨#[45]⟩ ++ m)) ++ (⟨#[43]⟩ ++ decS a.toNat)), 0)) :
    Calls Try.prog 11 #[.agg #[.int .i64 a, .string ⟨#[]⟩, .string m]] w (PrintPost ⟨a, ⟨#[]⟩, m⟩ w) := by
  have HX := Lib.hid hx
  clear hx
  have HDD := Lib.hid hd
  have HU := Lib.hid hu
  clear hd hu
  go_enter Try.func11, Try.ntmps11
  go_wp2_with (first | (go_at_call 15; refine (risSym_any _ _ (by assumption)).mono ?_; rintro e w' ⟨rfl, rfl⟩) | (go_at_call 35; rw [HU.out]; refine (HDD.out _).mono ?_; rintro e w2 ⟨rfl, rfl⟩))
  (go_ret2; exact PrintPost.mk HX.out (by ((repeat (first | with_reducible refine Below.drew ?_ | (with_reducible refine Below.alloc ?_ ?_ _; rotate_left; (focus (first | (simp; done) | (simp; omega) | omega))) | (with_reducible refine Below.setCell ?_ ?_ _; rotate_left; (focus (first | (simp; done) | (simp; omega) | omega))))); (first | with_reducible exact Below.refl _ _ | with_reducible assumption))))

set_option maxRecDepth 100000 in
set_option maxHeartbeats 1000000 in
theorem rprint_p_0 (p : ByteArray) (w : World) (p1 : ¬ p.toList = []) (p2 : p.toList.isEmpty = false) (p4 : p.size ≤ maxLen) (p3 : symB p = true) (p5 : p.size ≤ 512) (hx : printF ⟨0, p, ⟨#[]⟩⟩ = (p, 0)) :
    Calls Try.prog 11 #[.agg #[.int .i64 0, .string p, .string ⟨#[]⟩]] w (PrintPost ⟨0, p, ⟨#[]⟩⟩ w) := by
  have HX := Lib.hid hx
  clear hx
  go_enter Try.func11, Try.ntmps11
  go_wp2_with (first | (go_at_call 15; refine (risSym_any _ _ (by assumption)).mono ?_; rintro e w' ⟨rfl, rfl⟩))
  (go_ret2; exact PrintPost.mk HX.out (by ((repeat (first | with_reducible refine Below.drew ?_ | (with_reducible refine Below.alloc ?_ ?_ _; rotate_left; (focus (first | (simp; done) | (simp; omega) | omega))) | (with_reducible refine Below.setCell ?_ ?_ _; rotate_left; (focus (first | (simp; done) | (simp; omega) | omega))))); (first | with_reducible exact Below.refl _ _ | with_reducible assumption))))

set_option maxRecDepth 100000 in
set_option maxHeartbeats 1000000 in
theorem rprint_p_n (a : Int) (p : ByteArray) (w : World) (p1 : ¬ p.toList = []) (p2 : p.toList.isEmpty = false) (p4 : p.size ≤ maxLen) (p3 : symB p = true) (p5 : p.size ≤ 512) (ha : a < 0) (hd : ∀ W, Calls Try.prog 35 #[.int .u64 ((((-a).toNat : Nat)) : Int)] W fun e w' => e = .returned (.string (decS (-a).toNat)) ∧ W = w') (hu : IntKind.u64.wrap (-IntKind.u64.wrap a) = (((-a).toNat : Nat) : Int)) (hz : (decS (-a).toNat).size ≤ 20) (hx : printF ⟨a, p, ⟨#[]⟩⟩ = ((p ++ (⟨#[45]⟩ ++ decS (-a).toNat)), 0)) :
    Calls Try.prog 11 #[.agg #[.int .i64 a, .string p, .string ⟨#[]⟩]] w (PrintPost ⟨a, p, ⟨#[]⟩⟩ w) := by
  have HX := Lib.hid hx
  clear hx
  have HDD := Lib.hid hd
  have HU := Lib.hid hu
  clear hd hu
  go_enter Try.func11, Try.ntmps11
  go_wp2_with (first | (go_at_call 15; refine (risSym_any _ _ (by assumption)).mono ?_; rintro e w' ⟨rfl, rfl⟩) | (go_at_call 35; rw [HU.out]; refine (HDD.out _).mono ?_; rintro e w2 ⟨rfl, rfl⟩))
  (go_ret2; exact PrintPost.mk HX.out (by ((repeat (first | with_reducible refine Below.drew ?_ | (with_reducible refine Below.alloc ?_ ?_ _; rotate_left; (focus (first | (simp; done) | (simp; omega) | omega))) | (with_reducible refine Below.setCell ?_ ?_ _; rotate_left; (focus (first | (simp; done) | (simp; omega) | omega))))); (first | with_reducible exact Below.refl _ _ | with_reducible assumption))))

set_option maxRecDepth 100000 in
set_option maxHeartbeats 1000000 in
theorem rprint_p_p (a : Int) (p : ByteArray) (w : World) (p1 : ¬ p.toList = []) (p2 : p.toList.isEmpty = false) (p4 : p.size ≤ maxLen) (p3 : symB p = true) (p5 : p.size ≤ 512) (ha : 0 < a) (hd : ∀ W, Calls Try.prog 35 #[.int .u64 (((a.toNat : Nat)) : Int)] W fun e w' => e = .returned (.string (decS a.toNat)) ∧ W = w') (hu : IntKind.u64.wrap a = ((a.toNat : Nat) : Int)) (hz : (decS a.toNat).size ≤ 20) (hx : printF ⟨a, p, ⟨#[]⟩⟩ = ((p ++ (⟨#[43]⟩ ++ decS a.toNat)), 0)) :
    Calls Try.prog 11 #[.agg #[.int .i64 a, .string p, .string ⟨#[]⟩]] w (PrintPost ⟨a, p, ⟨#[]⟩⟩ w) := by
  have HX := Lib.hid hx
  clear hx
  have HDD := Lib.hid hd
  have HU := Lib.hid hu
  clear hd hu
  go_enter Try.func11, Try.ntmps11
  go_wp2_with (first | (go_at_call 15; refine (risSym_any _ _ (by assumption)).mono ?_; rintro e w' ⟨rfl, rfl⟩) | (go_at_call 35; rw [HU.out]; refine (HDD.out _).mono ?_; rintro e w2 ⟨rfl, rfl⟩))
  (go_ret2; exact PrintPost.mk HX.out (by ((repeat (first | with_reducible refine Below.drew ?_ | (with_reducible refine Below.alloc ?_ ?_ _; rotate_left; (focus (first | (simp; done) | (simp; omega) | omega))) | (with_reducible refine Below.setCell ?_ ?_ _; rotate_left; (focus (first | (simp; done) | (simp; omega) | omega))))); (first | with_reducible exact Below.refl _ _ | with_reducible assumption))))

set_option maxRecDepth 100000 in
set_option maxHeartbeats 1000000 in
theorem rprint_pm_0 (p m : ByteArray) (w : World) (p1 : ¬ p.toList = []) (p2 : p.toList.isEmpty = false) (p4 : p.size ≤ maxLen) (p3 : symB p = true) (p5 : p.size ≤ 512) (m1 : ¬ m.toList = []) (m2 : m.toList.isEmpty = false) (m4 : m.size ≤ maxLen) (m3 : symB m = true) (m5 : m.size ≤ 512) (ne : (p.toList == m.toList) = false) (b1 : (p ++ (⟨#[45]⟩ ++ m)).toList.isEmpty = false) (b2 : ¬ (p ++ (⟨#[45]⟩ ++ m)).toList = []) (hx : printF ⟨0, p, m⟩ = ((p ++ (⟨#[45]⟩ ++ m)), 0)) :
    Calls Try.prog 11 #[.agg #[.int .i64 0, .string p, .string m]] w (PrintPost ⟨0, p, m⟩ w) := by
  have HX := Lib.hid hx
  clear hx
  go_enter Try.func11, Try.ntmps11
  go_wp2_with (first | (go_at_call 15; refine (risSym_any _ _ (by assumption)).mono ?_; rintro e w' ⟨rfl, rfl⟩))
  (go_ret2; exact PrintPost.mk HX.out (by ((repeat (first | with_reducible refine Below.drew ?_ | (with_reducible refine Below.alloc ?_ ?_ _; rotate_left; (focus (first | (simp; done) | (simp; omega) | omega))) | (with_reducible refine Below.setCell ?_ ?_ _; rotate_left; (focus (first | (simp; done) | (simp; omega) | omega))))); (first | with_reducible exact Below.refl _ _ | with_reducible assumption))))

set_option maxRecDepth 100000 in
set_option maxHeartbeats 1000000 in
theorem rprint_pm_n (a : Int) (p m : ByteArray) (w : World) (p1 : ¬ p.toList = []) (p2 : p.toList.isEmpty = false) (p4 : p.size ≤ maxLen) (p3 : symB p = true) (p5 : p.size ≤ 512) (m1 : ¬ m.toList = []) (m2 : m.toList.isEmpty = false) (m4 : m.size ≤ maxLen) (m3 : symB m = true) (m5 : m.size ≤ 512) (ne : (p.toList == m.toList) = false) (b1 : (p ++ (⟨#[45]⟩ ++ m)).toList.isEmpty = false) (b2 : ¬ (p ++ (⟨#[45]⟩ ++ m)).toList = []) (ha : a < 0) (hd : ∀ W, Calls Try.prog 35 #[.int .u64 ((((-a).toNat : Nat)) : Int)] W fun e w' => e = .returned (.string (decS (-a).toNat)) ∧ W = w') (hu : IntKind.u64.wrap (-IntKind.u64.wrap a) = (((-a).toNat : Nat) : Int)) (hz : (decS (-a).toNat).size ≤ 20) (hx : printF ⟨a, p, m⟩ = (((p ++ (⟨#[45]⟩ ++ m)) ++ (⟨#[45]⟩ ++ decS (-a).toNat)), 0)) :
    Calls Try.prog 11 #[.agg #[.int .i64 a, .string p, .string m]] w (PrintPost ⟨a, p, m⟩ w) := by
  have HX := Lib.hid hx
  clear hx
  have HDD := Lib.hid hd
  have HU := Lib.hid hu
  clear hd hu
  go_enter Try.func11, Try.ntmps11
  go_wp2_with (first | (go_at_call 15; refine (risSym_any _ _ (by assumption)).mono ?_; rintro e w' ⟨rfl, rfl⟩) | (go_at_call 35; rw [HU.out]; refine (HDD.out _).mono ?_; rintro e w2 ⟨rfl, rfl⟩))
  (go_ret2; exact PrintPost.mk HX.out (by ((repeat (first | with_reducible refine Below.drew ?_ | (with_reducible refine Below.alloc ?_ ?_ _; rotate_left; (focus (first | (simp; done) | (simp; omega) | omega))) | (with_reducible refine Below.setCell ?_ ?_ _; rotate_left; (focus (first | (simp; done) | (simp; omega) | omega))))); (first | with_reducible exact Below.refl _ _ | with_reducible assumption))))

set_option maxRecDepth 100000 in
set_option maxHeartbeats 1000000 in
theorem rprint_pm_p (a : Int) (p m : ByteArray) (w : World) (p1 : ¬ p.toList = []) (p2 : p.toList.isEmpty = false) (p4 : p.size ≤ maxLen) (p3 : symB p = true) (p5 : p.size ≤ 512) (m1 : ¬ m.toList = []) (m2 : m.toList.isEmpty = false) (m4 : m.size ≤ maxLen) (m3 : symB m = true) (m5 : m.size ≤ 512) (ne : (p.toList == m.toList) = false) (b1 : (p ++ (⟨#[45]⟩ ++ m)).toList.isEmpty = false) (b2 : ¬ (p ++ (⟨#[45]⟩ ++ m)).toList = []) (ha : 0 < a) (hd : ∀ W, Calls Try.prog 35 #[.int .u64 (((a.toNat : Nat)) : Int)] W fun e w' => e = .returned (.string (decS a.toNat)) ∧ W = w') (hu : IntKind.u64.wrap a = ((a.toNat : Nat) : Int)) (hz : (decS a.toNat).size ≤ 20) (hx : printF ⟨a, p, m⟩ = (((p ++ (⟨#[45]⟩ ++ m)) ++ (⟨#[43]⟩ ++ decS a.toNat)), 0)) :
    Calls Try.prog 11 #[.agg #[.int .i64 a, .string p, .string m]] w (PrintPost ⟨a, p, m⟩ w) := by
  have HX := Lib.hid hx
  clear hx
  have HDD := Lib.hid hd
  have HU := Lib.hid hu
  clear hd hu
  go_enter Try.func11, Try.ntmps11
  go_wp2_with (first | (go_at_call 15; refine (risSym_any _ _ (by assumption)).mono ?_; rintro e w' ⟨rfl, rfl⟩) | (go_at_call 35; rw [HU.out]; refine (HDD.out _).mono ?_; rintro e w2 ⟨rfl, rfl⟩))
  (go_ret2; exact PrintPost.mk HX.out (by ((repeat (first | with_reducible refine Below.drew ?_ | (with_reducible refine Below.alloc ?_ ?_ _; rotate_left; (focus (first | (simp; done) | (simp; omega) | omega))) | (with_reducible refine Below.setCell ?_ ?_ _; rotate_left; (focus (first | (simp; done) | (simp; omega) | omega))))); (first | with_reducible exact Below.refl _ _ | with_reducible assumption))))

end Go.Proofs.Ythhlghoeapjagaa
