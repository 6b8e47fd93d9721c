/- Lines: the error of strconv.ParseUint. -/
import Derived.Test.YtcdbldakjepjiaaDoorL4
import Derived.Shelf.Pu.RangeError
import Derived.Lib.IfaceEq
set_option linter.unusedVariables false
set_option linter.unusedSimpArgs false
namespace Go.Proofs.YtcdbldakjepjiaaDoor
open Go.RowKit Go.Shelf

/-! ### The kit's rangeError, laid at this program -/
def renPu : Ren := ⟨fun k => if k = 22 then 138 else if k = 25 then 142 else k,
  fun k => if k = 0 then 0 else if k = 3 then 3 else if k = 4 then 4 else if k = 5 then 5 else if k = 9 then 9 else if k = 24 then 84 else if k = 37 then 22 else if k = 39 then 156 else if k = 44 then 160 else if k = 47 then 116 else if k = 67 then 89 else k,
  fun k => if k = 1 then 5 else k⟩
theorem pu22 : Go.Proofs.LaysPu.n22 Tryd.prog renPu where
  mixed := by kernel_rfl
  f22 := by kernel_rfl
  f25 := by kernel_rfl
  t0 := by kernel_rfl
  a0 := fun w => by kernel_rfl
  z0 := fun w => by kernel_rfl
  v0 := fun w => by kernel_rfl
  i0 := by kernel_rfl
  t3 := by kernel_rfl
  a3 := fun w => by kernel_rfl
  z3 := fun w => by kernel_rfl
  v3 := fun w => by kernel_rfl
  i3 := by kernel_rfl
  t4 := by kernel_rfl
  a4 := fun w => by kernel_rfl
  z4 := fun w => by kernel_rfl
  v4 := fun w => by kernel_rfl
  i4 := by kernel_rfl
  t5 := by kernel_rfl
  a5 := fun w => by kernel_rfl
  z5 := fun w => by kernel_rfl
  v5 := fun w => by kernel_rfl
  i5 := by kernel_rfl
  t9 := by kernel_rfl
  a9 := fun w => by kernel_rfl
  z9 := fun w => by kernel_rfl
  v9 := fun w => by kernel_rfl
  i9 := by kernel_rfl
  t24 := by kernel_rfl
  a24 := fun w => by kernel_rfl
  z24 := fun w => by kernel_rfl
  v24 := fun w => by kernel_rfl
  i24 := by kernel_rfl
  t37 := by kernel_rfl
  a37 := fun w => by kernel_rfl
  z37 := fun w => by kernel_rfl
  v37 := fun w => by kernel_rfl
  i37 := by kernel_rfl
  t39 := by kernel_rfl
  a39 := fun w => by kernel_rfl
  z39 := fun w => by kernel_rfl
  v39 := fun w => by kernel_rfl
  i39 := by kernel_rfl
  t44 := by kernel_rfl
  a44 := fun w => by kernel_rfl
  z44 := fun w => by kernel_rfl
  v44 := fun w => by kernel_rfl
  i44 := by kernel_rfl
  t47 := by kernel_rfl
  a47 := fun w => by kernel_rfl
  z47 := fun w => by kernel_rfl
  v47 := fun w => by kernel_rfl
  i47 := by kernel_rfl
  t67 := by kernel_rfl
  a67 := fun w => by kernel_rfl
  z67 := fun w => by kernel_rfl
  v67 := fun w => by kernel_rfl
  i67 := by kernel_rfl
  g1 := by kernel_rfl
  m1 := by kernel_rfl

theorem rangeErr_any (fn s : ByteArray) (ev : Value) (w : World) (hlim : s.size ≤ 281474976710656) (hv : w.cell? ⟨5, 0, none⟩ = some ev) (hev : ev = .nilIface ∨ ∃ te pe, ev = .iface te pe) :
    Calls Tryd.prog 138 #[.string fn, .string s] w fun e w' => (∃ N, e = .returned (.pointer (some ⟨N, 0, none⟩))) ∧ Below w.heap.size w w' :=
  (AnyPu.strconv_rangeError pu22 fn s ev w hlim hv hev).mono fun e w' ⟨N, h1, _, _, h2⟩ => ⟨⟨N, h1⟩, h2⟩

set_option maxHeartbeats 4000000 in
set_option maxRecDepth 100000 in
theorem toErr_any (fn s : ByteArray) (base bits : Int) (ev : Value) (w : World) (hlim : s.size ≤ 281474976710656) (hv : w.cell? ⟨5, 0, none⟩ = some ev) (hev : ev = .nilIface ∨ ∃ te pe, ev = .iface te pe) :
    Calls Tryd.prog 133 #[.string fn, .string s, .int .i64 base, .int .i64 bits, .iface 155 (.int .i64 1)] w fun e w' => (∃ N, e = .returned (.iface 156 (.pointer (some ⟨N, 0, none⟩)))) ∧ Below w.heap.size w w' := by
  have hu : Tryd.prog.underlying 84 = some (.interface #[("Error", 89)]) := by kernel_rfl
  have hc : (Tryd.prog.info? 155).map (·.comparable) = some true := by kernel_rfl
  have hi : Tryd.prog.underlying 155 = some (.int .i64) := by kernel_rfl
  have q2 : ∀ W, (binOp .eql 84 (.iface 155 (.int .i64 1)) (.iface 155 (.int .i64 2))).run Tryd.prog W = .ok (.bool false) W := fun W => Lib.run_eql_iface_int W 1 2 hu hc hi
  have q1 : ∀ W, (binOp .eql 84 (.iface 155 (.int .i64 1)) (.iface 155 (.int .i64 1))).run Tryd.prog W = .ok (.bool true) W := fun W => Lib.run_eql_iface_int W 1 1 hu hc hi
  go_enter Tryd.func133, Tryd.ntmps133
  go_wp2_with (go_at_call 138; refine (rangeErr_any fn s ev _ hlim ?_ hev).mono ?_)
  · exact hv
  rintro e w2 ⟨⟨N, rfl⟩, h3⟩
  go_wp2
  go_ret
  exact ⟨⟨N, rfl⟩, h3⟩

end Go.Proofs.YtcdbldakjepjiaaDoor
