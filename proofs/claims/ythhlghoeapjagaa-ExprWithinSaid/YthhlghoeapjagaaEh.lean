/- Contract of Print of package expr. -/
import Derived.Test.YthhlghoeapjagaaEb
import Derived.Test.YthhlghoeapjagaaEd
import Derived.Test.YthhlghoeapjagaaEg
set_option linter.unusedVariables false
set_option linter.unusedSimpArgs false
namespace Go.Proofs.Ythhlghoeapjagaa
open Go.RowKit

theorem below_on {w W w2 : World} (h : Below W.heap.size W w2) (h0 : Below w.heap.size w W) : Below w.heap.size w w2 := h0.trans (h.mono h0.size)

def PrintPost (v : Val) (w : World) (e : Ending) (w' : World) : Prop := ∃ s x, printF v = (s, x) ∧ e = .returned (.tuple #[.string s, .int .i64 x]) ∧ Below w.heap.size w w'
theorem PrintPost.mk {v : Val} {w w' : World} {s : ByteArray} {x : Int} (h : printF v = (s, x)) (hb : Below w.heap.size w w') : PrintPost v w (.returned (.tuple #[.string s, .int .i64 x])) w' := ⟨_, _, h, rfl, hb⟩

set_option maxRecDepth 100000 in
set_option maxHeartbeats 1000000 in
theorem print_badP (a : Int) (p m : ByteArray) (w : World) (p1 : ¬ p.toList = []) (p2 : p.toList.isEmpty = false) (p4 : p.size ≤ maxLen) (p3 : symB p = false) (hx : printF ⟨a, p, m⟩ = (⟨#[]⟩, 90)) :
    Calls Try.prog 10 #[.agg #[.int .i64 a, .string p, .string m]] w (PrintPost ⟨a, p, m⟩ w) := by
  have HX := Lib.hid hx
  clear hx
  have i0 : ∀ w, (Instr.index 62 (.agg #[.string p, .string m]) (.int .i64 0)).run Try.prog w = .ok (.string p) w := fun _ => by kernel_rfl
  have i1 : ∀ w, (Instr.index 62 (.agg #[.string p, .string m]) (.int .i64 1)).run Try.prog w = .ok (.string m) w := fun _ => by kernel_rfl
  go_enter Try.func10, Try.ntmps10
  go_wp2_with fail
  go_loop [12] (fun i => i = .int .i64 0) (fun i => 2 - (intOf i).toNat)
  case atStart => exact rfl
  case round =>
    obtain rfl := hrel
    go_wp2_with (first | (go_at_call 14; refine (isSym_any _ _ (by assumption)).mono ?_; rintro e w' ⟨rfl, rfl⟩) | (go_at_call 32; refine (plain_any _ _ _ _).mono ?_; rintro e w1 ⟨rfl, o3, rfl⟩))
    (go_ret2; exact PrintPost.mk HX.out (by ((repeat (first | with_reducible refine Below.drew ?_ | (with_reducible refine Below.alloc ?_ ?_ _; rotate_left; (focus (first | (simp; done) | (simp; omega) | omega))) | (with_reducible refine Below.setCell ?_ ?_ _; rotate_left; (focus (first | (simp; done) | (simp; omega) | omega))))); (first | with_reducible exact Below.refl _ _ | with_reducible assumption))))

set_option maxRecDepth 100000 in
set_option maxHeartbeats 1000000 in
theorem print_badM0 (a : Int) (m : ByteArray) (w : World) (m1 : ¬ m.toList = []) (m2 : m.toList.isEmpty = false) (m4 : m.size ≤ maxLen) (m3 : symB m = false) (hx : printF ⟨a, ⟨#[]⟩, m⟩ = (⟨#[]⟩, 90)) :
    Calls Try.prog 10 #[.agg #[.int .i64 a, .string ⟨#[]⟩, .string m]] w (PrintPost ⟨a, ⟨#[]⟩, m⟩ w) := by
  have HX := Lib.hid hx
  clear hx
  have i0 : ∀ w, (Instr.index 62 (.agg #[.string ⟨#[]⟩, .string m]) (.int .i64 0)).run Try.prog w = .ok (.string ⟨#[]⟩) w := fun _ => by kernel_rfl
  have i1 : ∀ w, (Instr.index 62 (.agg #[.string ⟨#[]⟩, .string m]) (.int .i64 1)).run Try.prog w = .ok (.string m) w := fun _ => by kernel_rfl
  go_enter Try.func10, Try.ntmps10
  go_wp2_with fail
  go_loop [12] (fun i => i = .int .i64 0 ∨ i = .int .i64 1) (fun i => 2 - (intOf i).toNat)
  case atStart => exact .inl rfl
  case round =>
    rcases hrel with rfl | rfl
    · go_wp2_with (first | (go_at_call 14; refine (isSym_any _ _ (by assumption)).mono ?_; rintro e w' ⟨rfl, rfl⟩))
      go_round
      case rel => exact .inr rfl
      case measure => simp [intOf]
    · go_wp2_with (first | (go_at_call 14; refine (isSym_any _ _ (by assumption)).mono ?_; rintro e w' ⟨rfl, rfl⟩) | (go_at_call 32; refine (plain_any _ _ _ _).mono ?_; rintro e w1 ⟨rfl, o3, rfl⟩))
      (go_ret2; exact PrintPost.mk HX.out (by ((repeat (first | with_reducible refine Below.drew ?_ | (with_reducible refine Below.alloc ?_ ?_ _; rotate_left; (focus (first | (simp; done) | (simp; omega) | omega))) | (with_reducible refine Below.setCell ?_ ?_ _; rotate_left; (focus (first | (simp; done) | (simp; omega) | omega))))); (first | with_reducible exact Below.refl _ _ | with_reducible assumption))))

set_option maxRecDepth 100000 in
set_option maxHeartbeats 1000000 in
theorem print_badM (a : Int) (p m : ByteArray) (w : World) (p1 : ¬ p.toList = []) (p2 : p.toList.isEmpty = false) (p4 : p.size ≤ maxLen) (p3 : symB p = true) (m1 : ¬ m.toList = []) (m2 : m.toList.isEmpty = false) (m4 : m.size ≤ maxLen) (m3 : symB m = false) (hx : printF ⟨a, p, m⟩ = (⟨#[]⟩, 90)) :
    Calls Try.prog 10 #[.agg #[.int .i64 a, .string p, .string m]] w (PrintPost ⟨a, p, m⟩ w) := by
  have HX := Lib.hid hx
  clear hx
  have i0 : ∀ w, (Instr.index 62 (.agg #[.string p, .string m]) (.int .i64 0)).run Try.prog w = .ok (.string p) w := fun _ => by kernel_rfl
  have i1 : ∀ w, (Instr.index 62 (.agg #[.string p, .string m]) (.int .i64 1)).run Try.prog w = .ok (.string m) w := fun _ => by kernel_rfl
  go_enter Try.func10, Try.ntmps10
  go_wp2_with fail
  go_loop [12] (fun i => i = .int .i64 0 ∨ i = .int .i64 1) (fun i => 2 - (intOf i).toNat)
  case atStart => exact .inl rfl
  case round =>
    rcases hrel with rfl | rfl
    · go_wp2_with (first | (go_at_call 14; refine (isSym_any _ _ (by assumption)).mono ?_; rintro e w' ⟨rfl, rfl⟩))
      go_round
      case rel => exact .inr rfl
      case measure => simp [intOf]
    · go_wp2_with (first | (go_at_call 14; refine (isSym_any _ _ (by assumption)).mono ?_; rintro e w' ⟨rfl, rfl⟩) | (go_at_call 32; refine (plain_any _ _ _ _).mono ?_; rintro e w1 ⟨rfl, o3, rfl⟩))
      (go_ret2; exact PrintPost.mk HX.out (by ((repeat (first | with_reducible refine Below.drew ?_ | (with_reducible refine Below.alloc ?_ ?_ _; rotate_left; (focus (first | (simp; done) | (simp; omega) | omega))) | (with_reducible refine Below.setCell ?_ ?_ _; rotate_left; (focus (first | (simp; done) | (simp; omega) | omega))))); (first | with_reducible exact Below.refl _ _ | with_reducible assumption))))

set_option maxRecDepth 100000 in
set_option maxHeartbeats 1000000 in
theorem print_same (a : Int) (p : ByteArray) (w : World) (p1 : ¬ p.toList = []) (p2 : p.toList.isEmpty = false) (p4 : p.size ≤ maxLen) (p3 : symB p = true) (hx : printF ⟨a, p, p⟩ = (⟨#[]⟩, 90)) :
    Calls Try.prog 10 #[.agg #[.int .i64 a, .string p, .string p]] w (PrintPost ⟨a, p, p⟩ w) := by
  have HX := Lib.hid hx
  clear hx
  have i0 : ∀ w, (Instr.index 62 (.agg #[.string p, .string p]) (.int .i64 0)).run Try.prog w = .ok (.string p) w := fun _ => by kernel_rfl
  have i1 : ∀ w, (Instr.index 62 (.agg #[.string p, .string p]) (.int .i64 1)).run Try.prog w = .ok (.string p) w := fun _ => by kernel_rfl
  go_enter Try.func10, Try.ntmps10
  go_wp2_with fail
  go_loop [12] (fun i => i = .int .i64 0 ∨ i = .int .i64 1 ∨ i = .int .i64 2) (fun i => 2 - (intOf i).toNat)
  case atStart => exact .inl rfl
  case round =>
    rcases hrel with rfl | rfl | rfl
    · go_wp2_with (first | (go_at_call 14; refine (isSym_any _ _ (by assumption)).mono ?_; rintro e w' ⟨rfl, rfl⟩))
      go_round
      case rel => exact .inr (.inl rfl)
      case measure => simp [intOf]
    · go_wp2_with (first | (go_at_call 14; refine (isSym_any _ _ (by assumption)).mono ?_; rintro e w' ⟨rfl, rfl⟩))
      go_round
      case rel => exact .inr (.inr rfl)
      case measure => simp [intOf]
    · go_wp2_with (first | (go_at_call 14; refine (isSym_any _ _ (by assumption)).mono ?_; rintro e w' ⟨rfl, rfl⟩) | (go_at_call 32; refine (plain_any _ _ _ _).mono ?_; rintro e w1 ⟨rfl, o3, rfl⟩))
      (go_ret2; exact PrintPost.mk HX.out (by ((repeat (first | with_reducible refine Below.drew ?_ | (with_reducible refine Below.alloc ?_ ?_ _; rotate_left; (focus (first | (simp; done) | (simp; omega) | omega))) | (with_reducible refine Below.setCell ?_ ?_ _; rotate_left; (focus (first | (simp; done) | (simp; omega) | omega))))); (first | with_reducible exact Below.refl _ _ | with_reducible assumption))))

set_option maxRecDepth 100000 in
set_option maxHeartbeats 1000000 in
theorem print_plain_neg (a : Int) (w : World) (ha : a < 0) (pl : plainB ⟨#[]⟩ ⟨#[]⟩ = true) (hs : ∀ W, Calls Try.prog 33 #[.int .i64 a] W fun e w' => e = .returned (.string (signS a)) ∧ Below W.heap.size W w') (hx : printF ⟨a, ⟨#[]⟩, ⟨#[]⟩⟩ = ((signS a), 0)) :
    Calls Try.prog 10 #[.agg #[.int .i64 a, .string ⟨#[]⟩, .string ⟨#[]⟩]] w (PrintPost ⟨a, ⟨#[]⟩, ⟨#[]⟩⟩ w) := by
  have HX := Lib.hid hx
  clear hx
  have HSS := Lib.hid hs
  clear hs
  have i0 : ∀ w, (Instr.index 62 (.agg #[.string ⟨#[]⟩, .string ⟨#[]⟩]) (.int .i64 0)).run Try.prog w = .ok (.string ⟨#[]⟩) w := fun _ => by kernel_rfl
  have i1 : ∀ w, (Instr.index 62 (.agg #[.string ⟨#[]⟩, .string ⟨#[]⟩]) (.int .i64 1)).run Try.prog w = .ok (.string ⟨#[]⟩) w := fun _ => by kernel_rfl
  go_enter Try.func10, Try.ntmps10
  go_wp2_with fail
  go_loop [12] (fun i => i = .int .i64 0 ∨ i = .int .i64 1 ∨ i = .int .i64 2) (fun i => 2 - (intOf i).toNat)
  case atStart => exact .inl rfl
  case round =>
    rcases hrel with rfl | rfl | rfl
    · go_wp2_with (first | (go_at_call 14; refine (isSym_any _ _ (by assumption)).mono ?_; rintro e w' ⟨rfl, rfl⟩))
      go_round
      case rel => exact .inr (.inl rfl)
      case measure => simp [intOf]
    · go_wp2_with (first | (go_at_call 14; refine (isSym_any _ _ (by assumption)).mono ?_; rintro e w' ⟨rfl, rfl⟩))
      go_round
      case rel => exact .inr (.inr rfl)
      case measure => simp [intOf]
    · go_wp2_with (first | (go_at_call 14; refine (isSym_any _ _ (by assumption)).mono ?_; rintro e w' ⟨rfl, rfl⟩) | (go_at_call 32; refine (plain_any _ _ _ _).mono ?_; rintro e w1 ⟨rfl, o3, rfl⟩) | (go_at_call 33; refine (HSS.out _).mono ?_; rintro e w2 ⟨rfl, hb2⟩; replace hb2 : Below w.heap.size w w2 := below_on hb2 (by ((repeat (first | with_reducible refine Below.drew ?_ | (with_reducible refine Below.alloc ?_ ?_ _; rotate_left; (focus (first | (simp; done) | (simp; omega) | omega))) | (with_reducible refine Below.setCell ?_ ?_ _; rotate_left; (focus (first | (simp; done) | (simp; omega) | omega))))); (first | with_reducible exact Below.refl _ _ | with_reducible assumption)))))
      (go_ret2; exact PrintPost.mk HX.out (by ((repeat (first | with_reducible refine Below.drew ?_ | (with_reducible refine Below.alloc ?_ ?_ _; rotate_left; (focus (first | (simp; done) | (simp; omega) | omega))) | (with_reducible refine Below.setCell ?_ ?_ _; rotate_left; (focus (first | (simp; done) | (simp; omega) | omega))))); (first | with_reducible exact Below.refl _ _ | with_reducible assumption))))

set_option maxRecDepth 100000 in
set_option maxHeartbeats 1000000 in
theorem print_plain_pos (a : Int) (w : World) (ha : 0 ≤ a) (pl : plainB ⟨#[]⟩ ⟨#[]⟩ = true) (hd : ∀ W, Calls Try.prog 34 #[.int .u64 (a.toNat : Int)] W fun e w' => e = .returned (.string (decS a.toNat)) ∧ Below W.heap.size W w') (hu : IntKind.u64.wrap a = ((a.toNat : Nat) : Int)) (hx : printF ⟨a, ⟨#[]⟩, ⟨#[]⟩⟩ = ((decS a.toNat), 0)) :
    Calls Try.prog 10 #[.agg #[.int .i64 a, .string ⟨#[]⟩, .string ⟨#[]⟩]] w (PrintPost ⟨a, ⟨#[]⟩, ⟨#[]⟩⟩ w) := by
  have HX := Lib.hid hx
  clear hx
  have HDD := Lib.hid hd
  have HU := Lib.hid hu
  clear hd hu
  have i0 : ∀ w, (Instr.index 62 (.agg #[.string ⟨#[]⟩, .string ⟨#[]⟩]) (.int .i64 0)).run Try.prog w = .ok (.string ⟨#[]⟩) w := fun _ => by kernel_rfl
  have i1 : ∀ w, (Instr.index 62 (.agg #[.string ⟨#[]⟩, .string ⟨#[]⟩]) (.int .i64 1)).run Try.prog w = .ok (.string ⟨#[]⟩) w := fun _ => by kernel_rfl
  go_enter Try.func10, Try.ntmps10
  go_wp2_with fail
  go_loop [12] (fun i => i = .int .i64 0 ∨ i = .int .i64 1 ∨ i = .int .i64 2) (fun i => 2 - (intOf i).toNat)
  case atStart => exact .inl rfl
  case round =>
    rcases hrel with rfl | rfl | rfl
    · go_wp2_with (first | (go_at_call 14; refine (isSym_any _ _ (by assumption)).mono ?_; rintro e w' ⟨rfl, rfl⟩))
      go_round
      case rel => exact .inr (.inl rfl)
      case measure => simp [intOf]
    · go_wp2_with (first | (go_at_call 14; refine (isSym_any _ _ (by assumption)).mono ?_; rintro e w' ⟨rfl, rfl⟩))
      go_round
      case rel => exact .inr (.inr rfl)
      case measure => simp [intOf]
    · go_wp2_with (first | (go_at_call 14; refine (isSym_any _ _ (by assumption)).mono ?_; rintro e w' ⟨rfl, rfl⟩) | (go_at_call 32; refine (plain_any _ _ _ _).mono ?_; rintro e w1 ⟨rfl, o3, rfl⟩) | (go_at_call 34; rw [HU.out]; refine (HDD.out _).mono ?_; rintro e w2 ⟨rfl, hb2⟩; replace hb2 : Below w.heap.size w w2 := below_on hb2 (by ((repeat (first | with_reducible refine Below.drew ?_ | (with_reducible refine Below.alloc ?_ ?_ _; rotate_left; (focus (first | (simp; done) | (simp; omega) | omega))) | (with_reducible refine Below.setCell ?_ ?_ _; rotate_left; (focus (first | (simp; done) | (simp; omega) | omega))))); (first | with_reducible exact Below.refl _ _ | with_reducible assumption)))))
      (go_ret2; exact PrintPost.mk HX.out (by ((repeat (first | with_reducible refine Below.drew ?_ | (with_reducible refine Below.alloc ?_ ?_ _; rotate_left; (focus (first | (simp; done) | (simp; omega) | omega))) | (with_reducible refine Below.setCell ?_ ?_ _; rotate_left; (focus (first | (simp; done) | (simp; omega) | omega))))); (first | with_reducible exact Below.refl _ _ | with_reducible assumption))))

set_option maxRecDepth 100000 in
set_option maxHeartbeats 1000000 in
theorem print_m_0 (m : ByteArray) (w : World) (m1 : ¬ m.toList = []) (m2 : m.toList.isEmpty = false) (m4 : m.size ≤ maxLen) (m3 : symB m = true) (m5 : m.size ≤ 512) (pl : plainB ⟨#[]⟩ m = false) (hx : printF ⟨0, ⟨#[]⟩, m⟩ = ((⟨#[48]⟩ ++ (⟨#[45]⟩ ++ m)), 0)) :
    Calls Try.prog 10 #[.agg #[.int .i64 0, .string ⟨#[]⟩, .string m]] w (PrintPost ⟨0, ⟨#[]⟩, m⟩ w) := by
  have HX := Lib.hid hx
  clear hx
  have i0 : ∀ w, (Instr.index 62 (.agg #[.string ⟨#[]⟩, .string m]) (.int .i64 0)).run Try.prog w = .ok (.string ⟨#[]⟩) w := fun _ => by kernel_rfl
  have i1 : ∀ w, (Instr.index 62 (.agg #[.string ⟨#[]⟩, .string m]) (.int .i64 1)).run Try.prog w = .ok (.string m) w := fun _ => by kernel_rfl
  go_enter Try.func10, Try.ntmps10
  go_wp2_with fail
  go_loop [12] (fun i => i = .int .i64 0 ∨ i = .int .i64 1 ∨ i = .int .i64 2) (fun i => 2 - (intOf i).toNat)
  case atStart => exact .inl rfl
  case round =>
    rcases hrel with rfl | rfl | rfl
    · go_wp2_with (first | (go_at_call 14; refine (isSym_any _ _ (by assumption)).mono ?_; rintro e w' ⟨rfl, rfl⟩))
      go_round
      case rel => exact .inr (.inl rfl)
      case measure => simp [intOf]
    · go_wp2_with (first | (go_at_call 14; refine (isSym_any _ _ (by assumption)).mono ?_; rintro e w' ⟨rfl, rfl⟩))
      go_round
      case rel => exact .inr (.inr rfl)
      case measure => simp [intOf]
    · go_wp2_with (first | (go_at_call 14; refine (isSym_any _ _ (by assumption)).mono ?_; rintro e w' ⟨rfl, rfl⟩) | (go_at_call 32; refine (plain_any _ _ _ _).mono ?_; rintro e w1 ⟨rfl, o3, rfl⟩))
      (go_ret2; exact PrintPost.mk HX.out (by ((repeat (first | with_reducible refine Below.drew ?_ | (with_reducible refine Below.alloc ?_ ?_ _; rotate_left; (focus (first | (simp; done) | (simp; omega) | omega))) | (with_reducible refine Below.setCell ?_ ?_ _; rotate_left; (focus (first | (simp; done) | (simp; omega) | omega))))); (first | with_reducible exact Below.refl _ _ | with_reducible assumption))))

set_option maxRecDepth 100000 in
set_option maxHeartbeats 1000000 in
theorem print_m_n (a : Int) (m : ByteArray) (w : World) (m1 : ¬ m.toList = []) (m2 : m.toList.isEmpty = false) (m4 : m.size ≤ maxLen) (m3 : symB m = true) (m5 : m.size ≤ 512) (pl : plainB ⟨#[]⟩ m = false) (ha : (a != 0) = true) (sz : (signS a).size ≤ 21) (hs : ∀ W, Calls Try.prog 33 #[.int .i64 a] W fun e w' => e = .returned (.string (signS a)) ∧ Below W.heap.size W w') (hx : printF ⟨a, ⟨#[]⟩, m⟩ = (((⟨#[48]⟩ ++ (⟨#[45]⟩ ++ m)) ++ signS a), 0)) :
    Calls Try.prog 10 #[.agg #[.int .i64 a, .string ⟨#[]⟩, .string m]] w (PrintPost ⟨a, ⟨#[]⟩, m⟩ w) := by
  have HX := Lib.hid hx
  clear hx
  have HSS := Lib.hid hs
  clear hs
  have i0 : ∀ w, (Instr.index 62 (.agg #[.string ⟨#[]⟩, .string m]) (.int .i64 0)).run Try.prog w = .ok (.string ⟨#[]⟩) w := fun _ => by kernel_rfl
  have i1 : ∀ w, (Instr.index 62 (.agg #[.string ⟨#[]⟩, .string m]) (.int .i64 1)).run Try.prog w = .ok (.string m) w := fun _ => by kernel_rfl
  go_enter Try.func10, Try.ntmps10
  go_wp2_with fail
  go_loop [12] (fun i => i = .int .i64 0 ∨ i = .int .i64 1 ∨ i = .int .i64 2) (fun i => 2 - (intOf i).toNat)
  case atStart => exact .inl rfl
  case round =>
    rcases hrel with rfl | rfl | rfl
    · go_wp2_with (first | (go_at_call 14; refine (isSym_any _ _ (by assumption)).mono ?_; rintro e w' ⟨rfl, rfl⟩))
      go_round
      case rel => exact .inr (.inl rfl)
      case measure => simp [intOf]
    · go_wp2_with (first | (go_at_call 14; refine (isSym_any _ _ (by assumption)).mono ?_; rintro e w' ⟨rfl, rfl⟩))
      go_round
      case rel => exact .inr (.inr rfl)
      case measure => simp [intOf]
    · go_wp2_with (first | (go_at_call 14; refine (isSym_any _ _ (by assumption)).mono ?_; rintro e w' ⟨rfl, rfl⟩) | (go_at_call 32; refine (plain_any _ _ _ _).mono ?_; rintro e w1 ⟨rfl, o3, rfl⟩) | (go_at_call 33; refine (HSS.out _).mono ?_; rintro e w2 ⟨rfl, hb2⟩; replace hb2 : Below w.heap.size w w2 := below_on hb2 (by ((repeat (first | with_reducible refine Below.drew ?_ | (with_reducible refine Below.alloc ?_ ?_ _; rotate_left; (focus (first | (simp; done) | (simp; omega) | omega))) | (with_reducible refine Below.setCell ?_ ?_ _; rotate_left; (focus (first | (simp; done) | (simp; omega) | omega))))); (first | with_reducible exact Below.refl _ _ | with_reducible assumption)))))
      (go_ret2; exact PrintPost.mk HX.out (by ((repeat (first | with_reducible refine Below.drew ?_ | (with_reducible refine Below.alloc ?_ ?_ _; rotate_left; (focus (first | (simp; done) | (simp; omega) | omega))) | (with_reducible refine Below.setCell ?_ ?_ _; rotate_left; (focus (first | (simp; done) | (simp; omega) | omega))))); (first | with_reducible exact Below.refl _ _ | with_reducible assumption))))

set_option maxRecDepth 100000 in
set_option maxHeartbeats 1000000 in
theorem print_p_0 (p : ByteArray) (w : World) (p1 : ¬ p.toList = []) (p2 : p.toList.isEmpty = false) (p4 : p.size ≤ maxLen) (p3 : symB p = true) (p5 : p.size ≤ 512) (pl : plainB p ⟨#[]⟩ = false) (hx : printF ⟨0, p, ⟨#[]⟩⟩ = (p, 0)) :
    Calls Try.prog 10 #[.agg #[.int .i64 0, .string p, .string ⟨#[]⟩]] w (PrintPost ⟨0, p, ⟨#[]⟩⟩ w) := by
  have HX := Lib.hid hx
  clear hx
  have i0 : ∀ w, (Instr.index 62 (.agg #[.string p, .string ⟨#[]⟩]) (.int .i64 0)).run Try.prog w = .ok (.string p) w := fun _ => by kernel_rfl
  have i1 : ∀ w, (Instr.index 62 (.agg #[.string p, .string ⟨#[]⟩]) (.int .i64 1)).run Try.prog w = .ok (.string ⟨#[]⟩) w := fun _ => by kernel_rfl
  go_enter Try.func10, Try.ntmps10
  go_wp2_with fail
  go_loop [12] (fun i => i = .int .i64 0 ∨ i = .int .i64 1 ∨ i = .int .i64 2) (fun i => 2 - (intOf i).toNat)
  case atStart => exact .inl rfl
  case round =>
    rcases hrel with rfl | rfl | rfl
    · go_wp2_with (first | (go_at_call 14; refine (isSym_any _ _ (by assumption)).mono ?_; rintro e w' ⟨rfl, rfl⟩))
      go_round
      case rel => exact .inr (.inl rfl)
      case measure => simp [intOf]
    · go_wp2_with (first | (go_at_call 14; refine (isSym_any _ _ (by assumption)).mono ?_; rintro e w' ⟨rfl, rfl⟩))
      go_round
      case rel => exact .inr (.inr rfl)
      case measure => simp [intOf]
    · go_wp2_with (first | (go_at_call 14; refine (isSym_any _ _ (by assumption)).mono ?_; rintro e w' ⟨rfl, rfl⟩) | (go_at_call 32; refine (plain_any _ _ _ _).mono ?_; rintro e w1 ⟨rfl, o3, rfl⟩))
      (go_ret2; exact PrintPost.mk HX.out (by ((repeat (first | with_reducible refine Below.drew ?_ | (with_reducible refine Below.alloc ?_ ?_ _; rotate_left; (focus (first | (simp; done) | (simp; omega) | omega))) | (with_reducible refine Below.setCell ?_ ?_ _; rotate_left; (focus (first | (simp; done) | (simp; omega) | omega))))); (first | with_reducible exact Below.refl _ _ | with_reducible assumption))))

set_option maxRecDepth 100000 in
set_option maxHeartbeats 1000000 in
theorem print_p_n (a : Int) (p : ByteArray) (w : World) (p1 : ¬ p.toList = []) (p2 : p.toList.isEmpty = false) (p4 : p.size ≤ maxLen) (p3 : symB p = true) (p5 : p.size ≤ 512) (pl : plainB p ⟨#[]⟩ = false) (ha : (a != 0) = true) (sz : (signS a).size ≤ 21) (hs : ∀ W, Calls Try.prog 33 #[.int .i64 a] W fun e w' => e = .returned (.string (signS a)) ∧ Below W.heap.size W w') (hx : printF ⟨a, p, ⟨#[]⟩⟩ = ((p ++ signS a), 0)) :
    Calls Try.prog 10 #[.agg #[.int .i64 a, .string p, .string ⟨#[]⟩]] w (PrintPost ⟨a, p, ⟨#[]⟩⟩ w) := by
  have HX := Lib.hid hx
  clear hx
  have HSS := Lib.hid hs
  clear hs
  have i0 : ∀ w, (Instr.index 62 (.agg #[.string p, .string ⟨#[]⟩]) (.int .i64 0)).run Try.prog w = .ok (.string p) w := fun _ => by kernel_rfl
  have i1 : ∀ w, (Instr.index 62 (.agg #[.string p, .string ⟨#[]⟩]) (.int .i64 1)).run Try.prog w = .ok (.string ⟨#[]⟩) w := fun _ => by kernel_rfl
  go_enter Try.func10, Try.ntmps10
  go_wp2_with fail
  go_loop [12] (fun i => i = .int .i64 0 ∨ i = .int .i64 1 ∨ i = .int .i64 2) (fun i => 2 - (intOf i).toNat)
  case atStart => exact .inl rfl
  case round =>
    rcases hrel with rfl | rfl | rfl
    · go_wp2_with (first | (go_at_call 14; refine (isSym_any _ _ (by assumption)).mono ?_; rintro e w' ⟨rfl, rfl⟩))
      go_round
      case rel => exact .inr (.inl rfl)
      case measure => simp [intOf]
    · go_wp2_with (first | (go_at_call 14; refine (isSym_any _ _ (by assumption)).mono ?_; rintro e w' ⟨rfl, rfl⟩))
      go_round
      case rel => exact .inr (.inr rfl)
      case measure => simp [intOf]
    · go_wp2_with (first | (go_at_call 14; refine (isSym_any _ _ (by assumption)).mono ?_; rintro e w' ⟨rfl, rfl⟩) | (go_at_call 32; refine (plain_any _ _ _ _).mono ?_; rintro e w1 ⟨rfl, o3, rfl⟩) | (go_at_call 33; refine (HSS.out _).mono ?_; rintro e w2 ⟨rfl, hb2⟩; replace hb2 : Below w.heap.size w w2 := below_on hb2 (by ((repeat (first | with_reducible refine Below.drew ?_ | (with_reducible refine Below.alloc ?_ ?_ _; rotate_left; (focus (first | (simp; done) | (simp; omega) | omega))) | (with_reducible refine Below.setCell ?_ ?_ _; rotate_left; (focus (first | (simp; done) | (simp; omega) | omega))))); (first | with_reducible exact Below.refl _ _ | with_reducible assumption)))))
      (go_ret2; exact PrintPost.mk HX.out (by ((repeat (first | with_reducible refine Below.drew ?_ | (with_reducible refine Below.alloc ?_ ?_ _; rotate_left; (focus (first | (simp; done) | (simp; omega) | omega))) | (with_reducible refine Below.setCell ?_ ?_ _; rotate_left; (focus (first | (simp; done) | (simp; omega) | omega))))); (first | with_reducible exact Below.refl _ _ | with_reducible assumption))))

set_option maxRecDepth 100000 in
set_option maxHeartbeats 1000000 in
theorem print_pm_0 (p m : ByteArray) (w : World) (p1 : ¬ p.toList = []) (p2 : p.toList.isEmpty = false) (p4 : p.size ≤ maxLen) (p3 : symB p = true) (m1 : ¬ m.toList = []) (m2 : m.toList.isEmpty = false) (m4 : m.size ≤ maxLen) (m3 : symB m = true) (m5 : m.size ≤ 512) (p5 : p.size ≤ 512) (pl : plainB p m = false) (ne : (p.toList == m.toList) = false) (hx : printF ⟨0, p, m⟩ = ((p ++ (⟨#[45]⟩ ++ m)), 0)) :
    Calls Try.prog 10 #[.agg #[.int .i64 0, .string p, .string m]] w (PrintPost ⟨0, p, m⟩ w) := by
  have HX := Lib.hid hx
  clear hx
  have i0 : ∀ w, (Instr.index 62 (.agg #[.string p, .string m]) (.int .i64 0)).run Try.prog w = .ok (.string p) w := fun _ => by kernel_rfl
  have i1 : ∀ w, (Instr.index 62 (.agg #[.string p, .string m]) (.int .i64 1)).run Try.prog w = .ok (.string m) w := fun _ => by kernel_rfl
  go_enter Try.func10, Try.ntmps10
  go_wp2_with fail
  go_loop [12] (fun i => i = .int .i64 0 ∨ i = .int .i64 1 ∨ i = .int .i64 2) (fun i => 2 - (intOf i).toNat)
  case atStart => exact .inl rfl
  case round =>
    rcases hrel with rfl | rfl | rfl
    · go_wp2_with (first | (go_at_call 14; refine (isSym_any _ _ (by assumption)).mono ?_; rintro e w' ⟨rfl, rfl⟩))
      go_round
      case rel => exact .inr (.inl rfl)
      case measure => simp [intOf]
    · go_wp2_with (first | (go_at_call 14; refine (isSym_any _ _ (by assumption)).mono ?_; rintro e w' ⟨rfl, rfl⟩))
      go_round
      case rel => exact .inr (.inr rfl)
      case measure => simp [intOf]
    · go_wp2_with (first | (go_at_call 14; refine (isSym_any _ _ (by assumption)).mono ?_; rintro e w' ⟨rfl, rfl⟩) | (go_at_call 32; refine (plain_any _ _ _ _).mono ?_; rintro e w1 ⟨rfl, o3, rfl⟩))
      (go_ret2; exact PrintPost.mk HX.out (by ((repeat (first | with_reducible refine Below.drew ?_ | (with_reducible refine Below.alloc ?_ ?_ _; rotate_left; (focus (first | (simp; done) | (simp; omega) | omega))) | (with_reducible refine Below.setCell ?_ ?_ _; rotate_left; (focus (first | (simp; done) | (simp; omega) | omega))))); (first | with_reducible exact Below.refl _ _ | with_reducible assumption))))

set_option maxRecDepth 100000 in
set_option maxHeartbeats 1000000 in
theorem print_pm_n (a : Int) (p m : ByteArray) (w : World) (p1 : ¬ p.toList = []) (p2 : p.toList.isEmpty = false) (p4 : p.size ≤ maxLen) (p3 : symB p = true) (m1 : ¬ m.toList = []) (m2 : m.toList.isEmpty = false) (m4 : m.size ≤ maxLen) (m3 : symB m = true) (m5 : m.size ≤ 512) (p5 : p.size ≤ 512) (pl : plainB p m = false) (ne : (p.toList == m.toList) = false) (ha : (a != 0) = true) (sz : (signS a).size ≤ 21) (hs : ∀ W, Calls Try.prog 33 #[.int .i64 a] W fun e w' => e = .returned (.string (signS a)) ∧ Below W.heap.size W w') (hx : printF ⟨a, p, m⟩ = (((p ++ (⟨#[45]⟩ ++ m)) ++ signS a), 0)) :
    Calls Try.prog 10 #[.agg #[.int .i64 a, .string p, .string m]] w (PrintPost ⟨a, p, m⟩ w) := by
  have HX := Lib.hid hx
  clear hx
  have HSS := Lib.hid hs
  clear hs
  have i0 : ∀ w, (Instr.index 62 (.agg #[.string p, .string m]) (.int .i64 0)).run Try.prog w = .ok (.string p) w := fun _ => by kernel_rfl
  have i1 : ∀ w, (Instr.index 62 (.agg #[.string p, .string m]) (.int .i64 1)).run Try.prog w = .ok (.string m) w := fun _ => by kernel_rfl
  go_enter Try.func10, Try.ntmps10
  go_wp2_with fail
  go_loop [12] (fun i => i = .int .i64 0 ∨ i = .int .i64 1 ∨ i = .int .i64 2) (fun i => 2 - (intOf i).toNat)
  case atStart => exact .inl rfl
  case round =>
    rcases hrel with rfl | rfl | rfl
    · go_wp2_with (first | (go_at_call 14; refine (isSym_any _ _ (by assumption)).mono ?_; rintro e w' ⟨rfl, rfl⟩))
      go_round
      case rel => exact .inr (.inl rfl)
      case measure => simp [intOf]
    · go_wp2_with (first | (go_at_call 14; refine (isSym_any _ _ (by assumption)).mono ?_; rintro e w' ⟨rfl, rfl⟩))
      go_round
      case rel => exact .inr (.inr rfl)
      case measure => simp [intOf]
    · go_wp2_with (first | (go_at_call 14; refine (isSym_any _ _ (by assumption)).mono ?_; rintro e w' ⟨rfl, rfl⟩) | (go_at_call 32; refine (plain_any _ _ _ _).mono ?_; rintro e w1 ⟨rfl, o3, rfl⟩) | (go_at_call 33; refine (HSS.out _).mono ?_; rintro e w2 ⟨rfl, hb2⟩; replace hb2 : Below w.heap.size w w2 := below_on hb2 (by ((repeat (first | with_reducible refine Below.drew ?_ | (with_reducible refine Below.alloc ?_ ?_ _; rotate_left; (focus (first | (simp; done) | (simp; omega) | omega))) | (with_reducible refine Below.setCell ?_ ?_ _; rotate_left; (focus (first | (simp; done) | (simp; omega) | omega))))); (first | with_reducible exact Below.refl _ _ | with_reducible assumption)))))
      (go_ret2; exact PrintPost.mk HX.out (by ((repeat (first | with_reducible refine Below.drew ?_ | (with_reducible refine Below.alloc ?_ ?_ _; rotate_left; (focus (first | (simp; done) | (simp; omega) | omega))) | (with_reducible refine Below.setCell ?_ ?_ _; rotate_left; (focus (first | (simp; done) | (simp; omega) | omega))))); (first | with_reducible exact Below.refl _ _ | with_reducible assumption))))

theorem signed_any (n : Int) (w : World) (hl : -9223372036854775808 ≤ n) (hu : n ≤ 9223372036854775807) :
    Calls Try.prog 33 #[.int .i64 n] w fun e w' => e = .returned (.string (signS n)) ∧ Below w.heap.size w w' := by
  by_cases h : n < 0
  · have e : signS n = ⟨#[45]⟩ ++ decS (-n).toNat := by rw [signS, if_pos h]
    rw [e]; exact signed_neg n w h hl
  · have e : signS n = ⟨#[43]⟩ ++ decS n.toNat := by rw [signS, if_neg h]
    rw [e]; exact signed_pos n w (by omega) hu

theorem print_any (a : Int) (p m : ByteArray) (w : World) (hp : p.size ≤ maxLen) (hm : m.size ≤ maxLen) (hl : -9223372036854775808 ≤ a) (hu : a ≤ 9223372036854775807) :
    Calls Try.prog 10 #[.agg #[.int .i64 a, .string p, .string m]] w (PrintPost ⟨a, p, m⟩ w) := by
  have hs := fun W => signed_any a W hl hu
  have hz := signS_size a
  by_cases hp0 : p = emp
  · subst hp0
    by_cases hm0 : m = emp
    · subst hm0
      by_cases ha : a < 0
      · exact print_plain_neg a w ha rfl hs (by simp [printF, lit_emp, ha])
      · exact print_plain_pos a w (by omega) rfl (fun W => decimal_any _ W (by omega)) (u64_pos (by omega) hu) (by simp [printF, lit_emp, ha])
    · have m1 := mt ba_emp.1 hm0
      have m2 : m.toList.isEmpty = false := by simpa using m1
      cases m3 : symB m with
      | false => exact print_badM0 a m w m1 m2 hm m3 (by simp [printF, lit_emp, hm0, m3]; try rfl)
      | true =>
        have m5 := symB_size m3
        have pl : plainB ⟨#[]⟩ m = false := by simp [plainB, lit_emp, hm0]
        by_cases ha : a = 0
        · subst ha; exact print_m_0 m w m1 m2 hm m3 m5 pl (by simp [printF, lit_emp, hm0, m3, emp_ne hm0])
        · exact print_m_n a m w m1 m2 hm m3 m5 pl (by simpa using ha) hz hs (by simp [printF, lit_emp, hm0, m3, ha, emp_ne hm0])
  · have p1 := mt ba_emp.1 hp0
    have p2 : p.toList.isEmpty = false := by simpa using p1
    cases p3 : symB p with
    | false => exact print_badP a p m w p1 p2 hp p3 (by simp [printF, lit_emp, hp0, p3]; try rfl)
    | true =>
      have p5 := symB_size p3
      by_cases hm0 : m = emp
      · subst hm0
        have pl : plainB p ⟨#[]⟩ = false := by simp [plainB, hp0]
        by_cases ha : a = 0
        · subst ha; exact print_p_0 p w p1 p2 hp p3 p5 pl (by simp [printF, lit_emp, hp0, p3])
        · exact print_p_n a p w p1 p2 hp p3 p5 pl (by simpa using ha) hz hs (by simp [printF, lit_emp, hp0, p3, ha])
      · have m1 := mt ba_emp.1 hm0
        have m2 : m.toList.isEmpty = false := by simpa using m1
        cases m3 : symB m with
        | false => exact print_badM a p m w p1 p2 hp p3 m1 m2 hm m3 (by simp [printF, lit_emp, hm0, m3]; try rfl)
        | true =>
          have m5 := symB_size m3
          by_cases e : p = m
          · subst e; exact print_same a p w p1 p2 hp p3 (by simp [printF, lit_emp, hp0, p3]; try rfl)
          · have ne : (p.toList == m.toList) = false := by simpa [ba_iff] using e
            have pl : plainB p m = false := by simp [plainB, hp0]
            by_cases ha : a = 0
            · subst ha; exact print_pm_0 p m w p1 p2 hp p3 m1 m2 hm m3 m5 p5 pl ne (by simp [printF, lit_emp, hp0, hm0, p3, m3, e])
            · exact print_pm_n a p m w p1 p2 hp p3 m1 m2 hm m3 m5 p5 pl ne (by simpa using ha) hz hs (by simp [printF, lit_emp, hp0, hm0, p3, m3, e, ha])

end Go.Proofs.Ythhlghoeapjagaa
