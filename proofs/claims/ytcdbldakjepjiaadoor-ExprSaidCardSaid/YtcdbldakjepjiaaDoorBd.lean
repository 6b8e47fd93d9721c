/- strings.Builder in the value logic: copyCheck, Len, WriteByte, WriteString, String. -/
import Derived.Test.YtcdbldakjepjiaaDoorWs
import Derived.Test.YtcdbldakjepjiaaDoorL3
import Derived.Shelf.Strings.BuilderK
set_option linter.unusedVariables false
set_option linter.unusedSimpArgs false
namespace Go.Proofs.YtcdbldakjepjiaaDoor
open Go.RowKit Go.Shelf
set_option maxRecDepth 100000

/-! ### The shelf's functions, laid at this program -/
def renBd : Ren := ⟨fun k => if k = 240 then 91 else if k = 276 then 110 else if k = 169 then 64 else k,
  fun k => if k = 0 then 0 else if k = 3 then 3 else if k = 4 then 4 else if k = 5 then 5 else if k = 9 then 9 else if k = 20 then 20 else if k = 37 then 22 else if k = 70 then 79 else if k = 72 then 81 else if k = 127 then 116 else if k = 164 then 136 else k,
  fun k => k⟩
theorem bd240 : Go.Proofs.Lays.n240 Tryd.prog renBd where
  mixed := by kernel_rfl
  f240 := by kernel_rfl
  f276 := by kernel_rfl
  t0 := by kernel_rfl
  a0 := fun w => by kernel_rfl
  z0 := fun w => by kernel_rfl
  v0 := fun w => by kernel_rfl
  t4 := by kernel_rfl
  a4 := fun w => by kernel_rfl
  z4 := fun w => by kernel_rfl
  v4 := fun w => by kernel_rfl
  t9 := by kernel_rfl
  a9 := fun w => by kernel_rfl
  z9 := fun w => by kernel_rfl
  v9 := fun w => by kernel_rfl
  t20 := by kernel_rfl
  a20 := fun w => by kernel_rfl
  z20 := fun w => by kernel_rfl
  v20 := fun w => by kernel_rfl
  t70 := by kernel_rfl
  a70 := fun w => by kernel_rfl
  z70 := fun w => by kernel_rfl
  v70 := fun w => by kernel_rfl
  t72 := by kernel_rfl
  a72 := fun w => by kernel_rfl
  z72 := fun w => by kernel_rfl
  v72 := fun w => by kernel_rfl
  t164 := by kernel_rfl
  a164 := fun w => by kernel_rfl
  z164 := fun w => by kernel_rfl
  v164 := fun w => by kernel_rfl
theorem bd169 : Go.Proofs.Lays.n169 Tryd.prog renBd where
  mixed := by kernel_rfl
  f169 := by kernel_rfl
  t0 := by kernel_rfl
  a0 := fun w => by kernel_rfl
  z0 := fun w => by kernel_rfl
  v0 := fun w => by kernel_rfl
  t3 := by kernel_rfl
  a3 := fun w => by kernel_rfl
  z3 := fun w => by kernel_rfl
  v3 := fun w => by kernel_rfl
  t9 := by kernel_rfl
  a9 := fun w => by kernel_rfl
  z9 := fun w => by kernel_rfl
  v9 := fun w => by kernel_rfl
  t37 := by kernel_rfl
  a37 := fun w => by kernel_rfl
  z37 := fun w => by kernel_rfl
  v37 := fun w => by kernel_rfl
  t70 := by kernel_rfl
  a70 := fun w => by kernel_rfl
  z70 := fun w => by kernel_rfl
  v70 := fun w => by kernel_rfl
  t72 := by kernel_rfl
  a72 := fun w => by kernel_rfl
  z72 := fun w => by kernel_rfl
  v72 := fun w => by kernel_rfl
  t127 := by kernel_rfl
  a127 := fun w => by kernel_rfl
  z127 := fun w => by kernel_rfl
  v127 := fun w => by kernel_rfl
theorem bdX : Go.Proofs.Builder.Extra Tryd.prog renBd where
  sizeBuilder := by kernel_rfl
  liesBuilder := by kernel_rfl
  t5 := by kernel_rfl
  a5 := fun w => by kernel_rfl
  z5 := fun w => by kernel_rfl
  v5 := fun w => by kernel_rfl
  infoByte := by kernel_rfl
  cellsByte := by kernel_rfl
  sizeByte := by kernel_rfl
  neB5 := by decide

/-! ### copyCheck, String, whatever lies beside -/
section
variable {P : Program} {ρ : Ren}
theorem liesBd {T : TypeId} {n : Nat} (hc : P.cellsOf T = 2) (h : 2 ≤ n) : liesAt P P.depth T (n / P.cellsOf T) 0 T 1 = true := by
  have hd : P.depth = (2 * (P.types.size + Made.depth) + 1) + 1 := rfl
  rw [hd]
  simp only [liesAt, Bool.or_eq_true]
  left
  rw [hd]
  have : 1 ≤ n / 2 := by omega
  simp [rowAt, hc, this, sameLayout]

set_option maxHeartbeats 1000000 in
theorem copyCheck_new (L : Lays.n240 P ρ) (X : Builder.X72 P ρ) (hc : P.cellsOf (ρ.t 72) = 2) (b n : Nat) (w : World) (h0 : w.cell? ⟨b, 0, none⟩ = some (.pointer none)) (hn : 2 ≤ n) (hsh : w.shape? b = some ((ρ.t 72), n)) (hfz : w.frozen? ⟨b, 0, none⟩ = false) :
    Calls P (ρ.f 240) #[.pointer (some ⟨b, 0, none⟩)] w fun e w' => e = .returned (.tuple #[]) ∧ w' = w.setCell ⟨b, 0, none⟩ (.pointer (some ⟨b, 0, none⟩)) := by
  obtain ⟨j, hj, hjs⟩ := Option.map_eq_some_iff.1 X.sizeBuilder
  have mixed := L.mixed
  have t72 := L.t72; have a72 := L.a72; have z72 := L.z72; have v72 := L.v72; have u72 := run_underlying L.t72
  have t70 := L.t70; have a70 := L.a70; have z70 := L.z70; have v70 := L.v70; have u70 := run_underlying L.t70
  have t9 := L.t9; have a9 := L.a9; have z9 := L.z9; have v9 := L.v9; have u9 := run_underlying L.t9
  have t4 := L.t4; have a4 := L.a4; have z4 := L.z4; have v4 := L.v4; have u4 := run_underlying L.t4
  have t164 := L.t164; have a164 := L.a164; have z164 := L.z164; have v164 := L.v164; have u164 := run_underlying L.t164
  go_enter L.f240, Body.n240_ntmps ρ
  go_wp2
  rw [Lib.run_to_unsafe w ⟨b, 0, none⟩ L.t70 L.t164 hj (by rw [hjs]; decide) hsh (by show 0 < n; omega)]
  simp only [Result.andThen]
  rw [Oper.upon_value]
  go_wp2
  rw [run_callFunc_extern L.f276 (by kernel_rfl) (by kernel_rfl) (by kernel_rfl) (e := Extern.AbiNoEscape.same) (by kernel_rfl)]
  rw [Lib.run_noEscape]
  simp only [Result.andThen]
  rw [Oper.upon_value]
  go_wp2
  rw [Lib.run_from_unsafe w ⟨b, 0, none⟩ L.t164 L.t70 hj hsh (liesBd hc hn)]
  simp only [Result.andThen]
  rw [Oper.upon_value]
  go_wp2
  go_end0
  exact ⟨rfl, rfl⟩

set_option maxHeartbeats 2000000 in
theorem string_some (L : Lays.n169 P ρ) (X : Builder.Extra P ρ) (b g cap cells : Nat) (l : List UInt8) (w : World) (h0 : l ≠ []) (c0 : w.cell? ⟨b, 1, none⟩ = some (.slice (some ⟨g, 0, none⟩) l.length cap)) (hcap : cap ≠ 0)
    (hsh : w.shape? g = some ((ρ.t 5), cells)) (hle : l.length ≤ cells) (h63 : l.length ≤ 9223372036854775807) (hcell : ∀ j x, l[j]? = some x → w.cell? ⟨g, j, none⟩ = some (.int .u8 x.toNat)) :
    Calls P (ρ.f 169) #[.pointer (some ⟨b, 0, none⟩)] w fun e w' => e = .returned (.string ⟨l.toArray⟩) ∧ w' = w.drew.freeze ⟨g, 0, none⟩ l.length := by
  have c1 : w.drew.cell? ⟨b, 1, none⟩ = some (.slice (some ⟨g, 0, none⟩) l.length cap) := c0
  have hSD : (Builtin.unsafeSliceData_ #[(ρ.t 37)] (ρ.t 127) #[.slice (some ⟨g, 0, none⟩) l.length cap]).run P w.drew = .ok (.pointer (some ⟨g, 0, none⟩)) w.drew :=
    Lib.run_unsafeSliceData_row _ _ _ _ _ _ hcap
  have hUS : (Builtin.unsafeString_ #[(ρ.t 127), (ρ.t 3)] (ρ.t 9) #[.pointer (some ⟨g, 0, none⟩), .int .i64 l.length]).run P w.drew = .ok (.string ⟨l.toArray⟩) (w.drew.freeze ⟨g, 0, none⟩ l.length) := by
    refine Lib.run_unsafeString_row w.drew (ρ.t 127) (ρ.t 3) (ρ.t 9) (ρ.t 5) L.t127 X.cellsByte g cells hsh l h0 hle h63 ?_
    intro j x hx
    have h1 := hcell j x hx
    by_cases hj : j = 0
    · subst hj; exact h1
    · simpa [Addr.add, hj] using h1
  have mixed := L.mixed
  have t72 := L.t72; have a72 := L.a72; have z72 := L.z72; have v72 := L.v72; have u72 := run_underlying L.t72
  have t70 := L.t70; have a70 := L.a70; have z70 := L.z70; have v70 := L.v70; have u70 := run_underlying L.t70
  have t37 := L.t37; have a37 := L.a37; have z37 := L.z37; have v37 := L.v37; have u37 := run_underlying L.t37
  have t127 := L.t127; have a127 := L.a127; have z127 := L.z127; have v127 := L.v127; have u127 := run_underlying L.t127
  have t3 := L.t3; have a3 := L.a3; have z3 := L.z3; have v3 := L.v3; have u3 := run_underlying L.t3
  have t9 := L.t9; have a9 := L.a9; have z9 := L.z9; have v9 := L.v9; have u9 := run_underlying L.t9
  have t5 := X.t5; have a5 := X.a5; have z5 := X.z5; have v5 := X.v5; have u5 := run_underlying X.t5
  go_enter L.f169, Body.n169_ntmps ρ
  go_wp2
  go_region_o
  all_goals (go_wp2; go_ret; exact ⟨rfl, rfl⟩)

set_option maxHeartbeats 2000000 in
theorem string_nil (L : Lays.n169 P ρ) (X : Builder.Extra P ρ) (b : Nat) (w : World) (c0 : w.cell? ⟨b, 1, none⟩ = some (.slice none 0 0)) :
    Calls P (ρ.f 169) #[.pointer (some ⟨b, 0, none⟩)] w fun e w' => e = .returned (.string ⟨#[]⟩) ∧ w' = w.drew := by
  have hUS := Any.unsafeString_none L X
  have c1 : w.drew.cell? ⟨b, 1, none⟩ = some (.slice none 0 0) := c0
  have hSD : (Builtin.unsafeSliceData_ #[(ρ.t 37)] (ρ.t 127) #[.slice none 0 0]).run P w.drew = .ok (.pointer none) w.drew := rfl
  have mixed := L.mixed
  have t72 := L.t72; have a72 := L.a72; have z72 := L.z72; have v72 := L.v72; have u72 := run_underlying L.t72
  have t70 := L.t70; have a70 := L.a70; have z70 := L.z70; have v70 := L.v70; have u70 := run_underlying L.t70
  have t37 := L.t37; have a37 := L.a37; have z37 := L.z37; have v37 := L.v37; have u37 := run_underlying L.t37
  have t127 := L.t127; have a127 := L.a127; have z127 := L.z127; have v127 := L.v127; have u127 := run_underlying L.t127
  have t3 := L.t3; have a3 := L.a3; have z3 := L.z3; have v3 := L.v3; have u3 := run_underlying L.t3
  have t9 := L.t9; have a9 := L.a9; have z9 := L.z9; have v9 := L.v9; have u9 := run_underlying L.t9
  have t5 := X.t5; have a5 := X.a5; have z5 := X.z5; have v5 := X.v5; have u5 := run_underlying X.t5
  go_enter L.f169, Body.n169_ntmps ρ
  go_wp2
  go_region_o
  all_goals (go_wp2; go_ret; exact ⟨rfl, rfl⟩)
end

/-! ### The builder's blocks -/
def bdA : Bool → Nat → LV
  | true, b => .p b 0 0
  | false, _ => .v (.pointer none)
def bdK (st : Bool) (n tb self : Nat) : Blk := ⟨true, 81, 2, [[bdA st self, .sl tb 0 n]]⟩
def bd0 : Blk := ⟨true, 81, 2, [[.v (.pointer none), .v (.slice none 0 0)]]⟩

/-- copyCheck -/
def copyRun (h : Heap) : List AV → Option Res
  | [.s (.l (.p b 0 0))] => match hget h b with
    | some ⟨true, T, 2, [[.v (.pointer none), c]]⟩ => if T = 81 then some ⟨True, .tup [], [(b, some ⟨true, T, 2, [[.p b 0 0, c]]⟩)]⟩ else none
    | some ⟨true, T, 2, [[.p b' 0 0, c]]⟩ => if T = 81 ∧ b' = b then some ⟨True, .tup [], []⟩ else none
    | _ => none
  | _ => none
theorem en_copyCheck (args : Array Value) (w : World) : (callFunc 91 args).run Tryd.prog w = .ok (.enter 91 args) w := by go_simp
theorem bd_here {B : Base} {w0 : World} {ρ : Nat → Loc} {al : Al} {h : Heap} {w : World} (H : WRep B w0 ρ al h w) {b : Nat} {k : Blk} {a c : LV} (hb : hget h b = some k) (ho : k.own = true) (hT : k.T = 81) (hs : k.sz = 2) (he : k.els = [[a, c]]) {v : Value} (hv : LRep ρ al (.p b 0 0) v) :
    v = .pointer (some ⟨(ρ b).blk, 0, none⟩) ∧ (ρ b).off = 0 ∧ (∃ n, 2 ≤ n ∧ w.shape? (ρ b).blk = some (81, n)) ∧ (∃ y, w.cell? ⟨(ρ b).blk, 0, none⟩ = some y ∧ LRep ρ al a y) ∧ (∃ y, w.cell? ⟨(ρ b).blk, 1, none⟩ = some y ∧ LRep ρ al c y) ∧ w.frozen? ⟨(ρ b).blk, 0, none⟩ = false := by
  have Hb := H.blk b k hb
  obtain ⟨h1, h2, h3⟩ := Hb.room ho
  have hcap := Hb.cap
  rw [he] at hcap
  have hc1 : 1 ≤ (ρ b).cap := hcap
  have hsz := Hb.sz
  rw [hs] at hsz
  obtain ⟨cur, fr, g1, g2, g3⟩ := h3 (by omega)
  have hc2 : 1 * 2 ≤ (ρ b).cap * 2 := Nat.mul_le_mul_right 2 hc1
  rw [hsz] at g2
  obtain ⟨y0, k0, _, k1⟩ := Hb.cells 0 0 a (by rw [he]; rfl)
  obtain ⟨y1, m0, _, m1⟩ := Hb.cells 0 1 c (by rw [he]; rfl)
  simp only [h1, Nat.zero_mul, Nat.zero_add] at k0 m0
  refine ⟨?_, h1, ⟨cur.size, by omega, by simp [World.shape?, g1, hT]⟩, ⟨y0, k0, k1⟩, ⟨y1, m0, m1⟩, ?_⟩
  · obtain ⟨_, rfl⟩ := hv
    rw [h1, Nat.zero_mul]
  · have := Hb.frozen ho (by omega) 0 (by rw [hsz]; omega)
    exact this
theorem cells_bd : Tryd.prog.cellsOf 81 = 2 := by kernel_rfl
def copyS : Spec Tryd.prog 91 where
  enter := en_copyCheck
  run := fun _ h args => copyRun h args
  mono := by
    intro id h h' args R hs hr
    unfold copyRun at hr ⊢
    split at hr
    case h_2 => cases hr
    split at hr
    · rename_i hb
      simp only [hs _ _ hb]
      exact hr
    · rename_i hb
      simp only [hs _ _ hb]
      exact hr
    · cases hr
  sound := by
    intro id h args R hr hob B w0 ρ al w vals H hid hA
    unfold copyRun at hr
    split at hr
    case h_2 => cases hr
    rename_i b
    match vals, hA with
    | [v], ⟨hv, _⟩ =>
      split at hr
      · rename_i T c hb
        split at hr
        case isFalse => cases hr
        rename_i hT
        subst hT
        injection hr with hr
        subst hr
        obtain ⟨rfl, hoff, ⟨n, hn, hsh⟩, ⟨y, hy, hy2⟩, _, hfz⟩ := bd_here H hb rfl rfl rfl rfl hv
        obtain rfl : y = .pointer none := hy2
        refine (copyCheck_new bd240 bdX.toX72 cells_bd _ n w hy hn hsh hfz).mono ?_
        rintro e w' ⟨rfl, rfl⟩
        have hself : LsRep ρ al [.p b 0 0] [.pointer (some ⟨(ρ b).blk, 0, none⟩)] := ⟨rfl, hv, trivial⟩
        have := H.store hb rfl (i := 0) (j := 0) (e := [.v (.pointer none), c]) rfl hself (by show 0 + 1 ≤ 2; decide)
        rw [hoff, Nat.zero_mul] at this
        exact ⟨_, ρ, al, rfl, .refl _ _, fun b hb => .inl hb, ⟨[], rfl, trivial⟩, this⟩
      · rename_i T b' c hb
        split at hr
        case isFalse => cases hr
        rename_i hT
        obtain ⟨rfl, rfl⟩ := hT
        injection hr with hr
        subst hr
        obtain ⟨rfl, hoff, ⟨n, hn, hsh⟩, ⟨y, hy, hy2⟩, _, hfz⟩ := bd_here H hb rfl rfl rfl rfl hv
        obtain rfl : y = .pointer (some ⟨(ρ b').blk, 0, none⟩) := by
          obtain ⟨_, rfl⟩ := hy2
          rw [hoff, Nat.zero_mul]
        refine (Any.Builder_copyCheck_used bd240 bdX.toX72 _ w hy).mono ?_
        rintro e w' ⟨rfl, rfl⟩
        exact ⟨_, ρ, al, rfl, .refl _ _, fun b hb => .inl hb, ⟨[], rfl, trivial⟩, H⟩
      · cases hr
theorem copy_run {id : Nat} {h : Heap} {args : List AV} : copyS.run id h args = copyRun h args := rfl
theorem copy_pan {id : Nat} {h : Heap} {args : List AV} : copyS.pan id h args = none := rfl

/-! ### String -/
def stringRun (h : Heap) : List AV → Option Res
  | [.s (.l (.p b 0 0))] => match hget h b with
    | some ⟨true, T, 2, [[_, .v (.slice none 0 0)]]⟩ => if T = 81 then some ⟨True, .s (.l (.v (.string ⟨#[]⟩))), [(b, none)]⟩ else none
    | some ⟨true, T, 2, [[_, .sl tb 0 n]]⟩ => match hget h tb with
      | some ⟨true, T2, 1, rows⟩ => match decAll decByte rows with
        | some l => if T = 81 ∧ T2 = 5 ∧ n = l.length then some ⟨l ≠ [] ∧ l.length ≤ 140737488355328 ∧ ∀ z ∈ l, 0 ≤ z ∧ z ≤ 255, .s (.l (.v (.string (ofBytes l)))), [(b, none), (tb, none)]⟩ else none
        | none => none
      | _ => none
    | _ => none
  | _ => none
theorem en_bdString (args : Array Value) (w : World) : (callFunc 64 args).run Tryd.prog w = .ok (.enter 64 args) w := by go_simp
theorem Keeps.freeze {S : Nat → Prop} {a w : World} (h : Keeps S a w) {g n : Nat} (hg : ¬ S g) (hc : ∃ cur T fr, w.heap[g]? = some (.cells cur T fr)) : Keeps S a (w.freeze ⟨g, 0, none⟩ n) := by
  refine h.trans ⟨?_, ?_, ?_, ?_, fun k hk => freeze_other w ⟨g, 0, none⟩ n k (fun e => hg ((show k = g from e) ▸ hk)), fun k o ho hd => ?_⟩
  · unfold World.freeze; split <;> rfl
  · unfold World.freeze; split <;> rfl
  · unfold World.freeze; split <;> rfl
  · unfold World.freeze; split
    · exact Nat.le_refl _
    · simp
  · by_cases e : k = g
    · subst e
      obtain ⟨cur, T, fr, hc⟩ := hc
      rw [hc] at ho
      injection ho with ho
      subst ho
      cases hd
    · rw [freeze_other w ⟨g, 0, none⟩ n k e]; exact ho
def bdStringS : Spec Tryd.prog 64 where
  enter := en_bdString
  run := fun _ h args => stringRun h args
  mono := by
    intro id h h' args R hs hr
    unfold stringRun at hr ⊢
    split at hr
    case h_2 => cases hr
    split at hr
    · rename_i hb
      simp only [hs _ _ hb]
      exact hr
    · rename_i hb
      simp only [hs _ _ hb]
      split at hr
      case h_2 => cases hr
      rename_i ht
      simp only [hs _ _ ht]
      exact hr
    · cases hr
  sound := by
    intro id h args R hr hob B w0 ρ al w vals H hid hA
    unfold stringRun at hr
    split at hr
    case h_2 => cases hr
    rename_i b
    match vals, hA with
    | [v], ⟨hv, _⟩ =>
      split at hr
      · rename_i T a hb
        split at hr
        case isFalse => cases hr
        rename_i hT
        subst hT
        injection hr with hr
        subst hr
        obtain ⟨rfl, hoff, _, _, ⟨y, hy, hy2⟩, hfz⟩ := bd_here H hb rfl rfl rfl rfl hv
        obtain rfl : y = .slice none 0 0 := hy2
        refine (string_nil bd169 bdX _ w hy).mono ?_
        rintro e w' ⟨rfl, rfl⟩
        exact ⟨_, ρ, al, rfl, .refl _ _, fun b hb => .inl hb, rfl, (H.sub fun c l hl => (hget_hide c l hl).2).drew⟩
      · rename_i T a tb n hb
        split at hr
        case h_2 => cases hr
        rename_i T2 rows ht
        split at hr
        case h_2 => cases hr
        rename_i l hl
        split at hr
        case isFalse => cases hr
        rename_i hT
        obtain ⟨rfl, rfl, rfl⟩ := hT
        injection hr with hr
        subst hr
        obtain ⟨hne, hle, hrng⟩ := hob
        obtain rfl := decAll_inv decByte_inv hl
        obtain ⟨rfl, hoff, _, _, ⟨y, hy, hy2⟩, hfz⟩ := bd_here H hb rfl rfl rfl rfl hv
        obtain ⟨_, A, rfl, h3, h4⟩ := hy2
        have Ht := H.blk tb _ ht
        obtain ⟨t1, t2, t3⟩ := Ht.room rfl
        have hcap := Ht.cap
        have tsz : (ρ tb).sz = 1 := Ht.sz
        have hll : 0 < l.length := by cases l with
          | nil => exact absurd rfl hne
          | cons _ _ => simp
        simp only [List.length_map] at hcap
        obtain rfl := h4 (by omega)
        obtain ⟨cur, fr, g1, g2, g3⟩ := t3 (by omega)
        simp only [tsz, t1, Nat.zero_mul, Nat.add_zero, Nat.mul_one, Nat.sub_zero] at hy g2
        obtain ⟨bs, hbs⟩ : ∃ bs : List UInt8, bs = l.map fun z => UInt8.ofNat z.toNat := ⟨_, rfl⟩
        have hbl : bs.length = l.length := by rw [hbs, List.length_map]
        have hof : ofBytes l = ⟨bs.toArray⟩ := by rw [hbs]; rfl
        rw [← hbl] at hy
        refine (string_some bd169 bdX (ρ b).blk (ρ tb).blk _ cur.size bs w (by intro e; rw [e] at hbl; simp at hbl; omega) hy (by omega) (by simp [World.shape?, g1]; rfl) (by omega) (by omega) ?_).mono ?_
        · intro j x hx
          rw [hbs, List.getElem?_map, Option.map_eq_some_iff] at hx
          obtain ⟨z, hz, rfl⟩ := hx
          have hzr := hrng z (List.mem_of_getElem? hz)
          obtain ⟨y, k0, _, k1⟩ := Ht.cells j 0 (.v (.int .u8 z)) (cellAt_some.2 ⟨encByte z, by rw [List.getElem?_map, hz]; rfl, rfl⟩)
          obtain rfl : y = .int .u8 z := k1
          simp only [t1, tsz, Nat.zero_add, Nat.mul_one, Nat.add_zero] at k0
          have e : ((UInt8.ofNat z.toNat).toNat : Int) = z := by
            rw [UInt8.toNat_ofNat']
            omega
          rw [e]
          exact k0
        · rintro e w' ⟨rfl, rfl⟩
          have hS : ¬ B.S (ρ tb).blk := H.own tb _ ht rfl (by omega)
          have H1 : WRep B w0 ρ al ([(b, none), (tb, none)] ++ h) w.drew := (H.drew.sub fun c l hl => by
            have := hget_hide c l hl
            exact (hget_hide c l this.2).2)
          have hgc : ∃ cur T fr, w.drew.heap[(ρ tb).blk]? = some (.cells cur T fr) := ⟨_, _, _, g1⟩
          refine ⟨_, ρ, al, rfl, .refl _ _, fun b hb => .inl hb, by rw [hof]; rfl, H1.step (.refl _ _) (H1.below.freeze hS hgc) (fun c l hl hc => freeze_other _ _ _ _ ?_) (fun c hc => freeze_other _ _ _ _ (H.memOther ht rfl (by omega) hc))⟩
          have k1 := hget_hide c l hl
          have k2 := hget_hide c l k1.2
          exact H.other ht rfl (by omega) k2.2 hc k2.1
      · cases hr
theorem bdString_run {id : Nat} {h : Heap} {args : List AV} : bdStringS.run id h args = stringRun h args := rfl
theorem bdString_pan {id : Nat} {h : Heap} {args : List AV} : bdStringS.pan id h args = none := rfl

/-! ### The other methods: over a builder and its bytes -/
def bdBytesK (l : List Int) : Blk := ⟨true, 5, 1, l.map encByte⟩
def decBd (h : Heap) : AV → Option (List Nat × (Bool × List Int))
  | .s (.l (.p b 0 0)) => match hget h b with
    | some ⟨true, T, 2, [[.v (.pointer none), .sl tb 0 n]]⟩ => match hget h tb with
      | some ⟨true, T2, 1, rows⟩ => match decAll decByte rows with
        | some l => if T = 81 ∧ T2 = 5 ∧ n = l.length ∧ b ≠ tb then some ([b, tb], (false, l)) else none
        | none => none
      | _ => none
    | some ⟨true, T, 2, [[.p b' 0 0, .sl tb 0 n]]⟩ => match hget h tb with
      | some ⟨true, T2, 1, rows⟩ => match decAll decByte rows with
        | some l => if T = 81 ∧ T2 = 5 ∧ n = l.length ∧ b ≠ tb ∧ b' = b then some ([b, tb], (true, l)) else none
        | none => none
      | _ => none
    | _ => none
  | _ => none
theorem decBd_ok {h : Heap} {A : AV} {bs : List Nat} {st : Bool} {l : List Int} (hd : decBd h A = some (bs, st, l)) :
    ∃ b tb, A = .s (.l (.p b 0 0)) ∧ bs = [b, tb] ∧ b ≠ tb ∧ hget h b = some (bdK st l.length tb b) ∧ hget h tb = some (bdBytesK l) := by
  unfold decBd at hd
  split at hd
  case h_2 => cases hd
  rename_i b
  split at hd
  · rename_i T tb n hb
    split at hd
    case h_2 => cases hd
    rename_i T2 rows ht
    split at hd
    case h_2 => cases hd
    rename_i l' hl
    split at hd
    case isFalse => cases hd
    rename_i hc
    obtain ⟨rfl, rfl, rfl, hne⟩ := hc
    injection hd with hd
    injection hd with e1 hd
    injection hd with e2 e3
    subst e1 e2 e3
    refine ⟨b, tb, rfl, rfl, hne, hb, ?_⟩
    rw [ht, bdBytesK, decAll_inv decByte_inv hl]
  · rename_i T b' tb n hb
    split at hd
    case h_2 => cases hd
    rename_i T2 rows ht
    split at hd
    case h_2 => cases hd
    rename_i l' hl
    split at hd
    case isFalse => cases hd
    rename_i hc
    obtain ⟨rfl, rfl, rfl, hne, rfl⟩ := hc
    injection hd with hd
    injection hd with e1 hd
    injection hd with e2 e3
    subst e1 e2 e3
    refine ⟨_, tb, rfl, rfl, hne, hb, ?_⟩
    rw [ht, bdBytesK, decAll_inv decByte_inv hl]
  · cases hd
theorem decBd_mono {h h' : Heap} (hs : ∀ b k, hget h b = some k → hget h' b = some k) {A : AV} {r : List Nat × (Bool × List Int)} (hd : decBd h A = some r) : decBd h' A = some r := by
  unfold decBd at hd ⊢
  split at hd
  case h_2 => cases hd
  split at hd
  · rename_i hb
    simp only [hs _ _ hb]
    split at hd
    case h_2 => cases hd
    rename_i ht
    simp only [hs _ _ ht]
    exact hd
  · rename_i hb
    simp only [hs _ _ hb]
    split at hd
    case h_2 => cases hd
    rename_i ht
    simp only [hs _ _ ht]
    exact hd
  · cases hd
def outBd : AV × (Bool × List Int) → RO := fun x => .ret x.1 [some (bdK x.2.1 x.2.2.length 1 0)] [bdBytesK x.2.2]

/-- the arguments behind the builder -/
structure Xz (X : Type) where
  dec : List AV → Option X
  enc : X → List AV
  len : Nat
  enc_len : ∀ x, (enc x).length = len
  ok : ∀ {zs : List AV} {x : X}, dec zs = some x → ∀ {ρ ρ' : Nat → Loc} {al al' : Al} {vals : List Value}, AsRep ρ al zs vals → AsRep ρ' al' (enc x) vals
def xz0 : Xz Unit where
  dec := fun | [] => some () | _ => none
  enc := fun _ => []
  len := 0
  enc_len := fun _ => rfl
  ok := by
    intro zs x h ρ ρ' al al' vals hA
    split at h
    · match vals, hA with
      | [], _ => trivial
    · cases h
def xzByte : Xz Int where
  dec := fun | [.s (.l (.v (.int .u8 c)))] => some c | _ => none
  enc := fun c => [.s (.l (.v (.int .u8 c)))]
  len := 1
  enc_len := fun _ => rfl
  ok := by
    intro zs x h ρ ρ' al al' vals hA
    split at h
    · injection h with h
      subst h
      match vals, hA with
      | [v], ⟨a, _⟩ => exact ⟨a, trivial⟩
    · cases h
def xzStr : Xz ByteArray where
  dec := fun | [.s (.l (.v (.string c)))] => some c | _ => none
  enc := fun c => [.s (.l (.v (.string c)))]
  len := 1
  enc_len := fun _ => rfl
  ok := by
    intro zs x h ρ ρ' al al' vals hA
    split at h
    · injection h with h
      subst h
      match vals, hA with
      | [v], ⟨a, _⟩ => exact ⟨a, trivial⟩
    · cases h
def decZ {X : Type} (T : Xz X) (q : X → List Int → Prop) (h : Heap) : List AV → Option (Prop × List Nat × (X × (Bool × List Int)))
  | A :: zs => match decBd h A, T.dec zs with
    | some (bs, st, l), some x => some (q x l, bs, (x, (st, l)))
    | _, _ => none
  | [] => none
theorem bdK_ren (st : Bool) (n tb self : Nat) (g : Nat → Nat) : (bdK st n tb self).ren g = bdK st n (g tb) (g self) := by cases st <;> rfl
theorem bdBytes_ren (l : List Int) (g : Nat → Nat) : (bdBytesK l).ren g = bdBytesK l := by
  unfold bdBytesK Blk.ren
  simp [Function.comp_def, encByte, LV.ren]
def mkZ {X : Type} (f : FuncId) (fn : Func) (c : Code) (hf : Tryd.prog.funcs[f]? = some fn) (hb : fn.body = some c)
    (hen : ∀ (args : Array Value) (w : World), (callFunc f args).run Tryd.prog w = .ok (.enter f args) w) (T : Xz X) (q : X → List Int → Prop) (F : X → Bool → List Int → AV × (Bool × List Int)) (hn : T.len + 1 ≤ fn.ntmps)
    (body : ∀ x st l, q x l → SW Tryd.prog ⟨none, 1⟩ fn.ntmps c ⟨2, zipT 0 (.s (.l (.p 0 0 0)) :: T.enc x), zipH 0 [bdK st l.length 1 0, bdBytesK l]⟩ (outR Tryd.prog fn.results.toList 1 (outBd (F x st l)))) : Spec Tryd.prog f :=
  mkR 1 2 (by decide) f fn c hf hb hen (decZ T q) (fun x => .s (.l (.p 0 0 0)) :: T.enc x.1) (fun x => [bdK x.2.1 x.2.2.length 1 0, bdBytesK x.2.2]) (fun x => outBd (F x.1 x.2.1 x.2.2))
    (by
      intro h h' args r hs hd
      unfold decZ at hd ⊢
      split at hd
      · split at hd
        · rename_i h1 h2
          rw [decBd_mono hs h1, h2]
          exact hd
        · cases hd
      · cases hd)
    (by
      intro h zs q' bs x hd hq
      unfold decZ at hd
      split at hd
      case h_2 => cases hd
      rename_i A zs'
      split at hd
      case h_2 => cases hd
      rename_i bs' st l x' h1 h2
      injection hd with hd
      injection hd with e1 hd
      injection hd with e2 e3
      subst e2
      subst e3
      obtain ⟨b, tb, rfl, rfl, hne, hb1, hb2⟩ := decBd_ok h1
      refine ⟨by rw [List.length_cons, T.enc_len]; exact hn, rfl, rfl, by simp [hne], fun d => ⟨?_, ?_⟩⟩
      · intro j b' k hj hk
        match j, hj, hk with
        | 0, hj, hk =>
          simp at hj hk
          subst hj
          subst hk
          exact ⟨rfl, by rw [hb1, bdK_ren]; rfl⟩
        | 1, hj, hk =>
          simp at hj hk
          subst hj
          subst hk
          exact ⟨rfl, by rw [hb2, bdBytes_ren]⟩
      · intro ρ al vals hA
        match vals, hA with
        | v :: vs, ⟨a, r⟩ => exact ⟨a, T.ok (al := al) h2 r⟩)
    (by
      intro h zs q' bs x hd hq
      unfold decZ at hd
      split at hd
      case h_2 => cases hd
      split at hd
      case h_2 => cases hd
      injection hd with hd
      injection hd with e1 hd
      injection hd with e2 e3
      subst e1
      subst e3
      exact body _ _ _ hq)
theorem leftBd {st : St} {r : AV} {s : Bool} {l : List Int} {tb : Nat} (hr : r.plain = true) (h1 : hget st.h 0 = some (bdK s l.length tb 0)) (h2 : hget st.h tb = some (bdBytesK l)) (hn : tb ≠ 0) :
    leftR 1 st (outBd (r, s, l)) (some r) := by
  refine ⟨hr, [some (bdK s l.length 1 0)], [bdBytesK l], rfl, rfl, by simp, by simp [bdK], by simp [bdBytesK], Wk.ren [0, tb] (by intro j hj; have : j = 0 := (by simpa using hj); subst this; rfl) (Nat.le_refl _) (by simpa using fun h => hn h.symm) (fun p hp => by cases hp) ?_⟩
  intro p hp k hk
  simp only [zipO, zipH, List.cons_append, List.nil_append, List.mem_cons, List.not_mem_nil, or_false] at hp
  rcases hp with rfl | rfl
  · simp only [Option.some.injEq] at hk
    subst hk
    simp only [List.getD_eq_getElem?_getD, List.getElem?_cons_zero, Option.getD_some, h1, bdK_ren]
    rfl
  · simp only [Option.some.injEq] at hk
    subst hk
    simp only [List.getD_eq_getElem?_getD, List.getElem?_cons_succ, List.getElem?_cons_zero, Option.getD_some, h2, bdBytes_ren]

/-! Len -/
theorem en_bdLen (args : Array Value) (w : World) : (callFunc 63 args).run Tryd.prog w = .ok (.enter 63 args) w := by go_simp
theorem bdLen_sw (st : Bool) (l : List Int) : SW Tryd.prog ⟨none, 1⟩ Tryd.f63.ntmps (Tryd.f63.body.getD .skip) ⟨2, zipT 0 [.s (.l (.p 0 0 0))], zipH 0 [bdK st l.length 1 0, bdBytesK l]⟩ (outR Tryd.prog Tryd.f63.results.toList 1 (outBd (.s (.l (.v (.int .i64 l.length))), st, l))) := by
  refine aRun_sound (ctx := []) 4000 ?_
  rw [Tryd.ntmps63, Tryd.results63]
  simp only [Tryd.f63, Option.getD_some, zipT]
  simp only [go_sem, Nat.reduceOr, Nat.reducePow, Nat.reduceDiv, Nat.reduceMod, Nat.reduceBEq, Int.reduceBEq, Int.reduceBNe, Int.reduceEq, Int.reduceLT, Int.reduceLE, Int.reduceToNat, reduceIte, reduceCtorEq, Nat.reduceEqDiff, Nat.reduceAdd, Nat.reduceLT, Nat.reduceLeDiff, Nat.reduceMul, Nat.reduceSub, bdK]
  exact leftBd rfl rfl rfl (by decide)
def bdLenS : Spec Tryd.prog 63 :=
  mkZ _ _ _ Tryd.func63 rfl en_bdLen xz0 (fun _ _ => True) (fun _ st l => (.s (.l (.v (.int .i64 l.length))), st, l)) (by rw [Tryd.ntmps63]; decide) (fun _ st l _ => bdLen_sw st l)
theorem bdLen_run {id : Nat} {h : Heap} {args : List AV} : bdLenS.run id h args = runR 1 (decZ xz0 (fun _ _ => True)) (fun x => outBd ((fun _ st l => (.s (.l (.v (.int .i64 l.length))), st, l)) x.1 x.2.1 x.2.2)) id h args := rfl
theorem bdLen_pan {id : Nat} {h : Heap} {args : List AV} : bdLenS.pan id h args = panR (decZ xz0 (fun _ _ => True)) (fun x => outBd ((fun _ st l => (.s (.l (.v (.int .i64 l.length))), st, l)) x.1 x.2.1 x.2.2)) h args := rfl

/-! WriteByte -/
theorem en_bdByte (args : Array Value) (w : World) : (callFunc 61 args).run Tryd.prog w = .ok (.enter 61 args) w := by go_simp
theorem bdByte_sw (c : Int) (st : Bool) (l : List Int) (h : l.length + 1 ≤ 140737488355328) : SW Tryd.prog ⟨none, 1⟩ Tryd.f61.ntmps (Tryd.f61.body.getD .skip) ⟨2, zipT 0 [.s (.l (.p 0 0 0)), .s (.l (.v (.int .u8 c)))], zipH 0 [bdK st l.length 1 0, bdBytesK l]⟩ (outR Tryd.prog Tryd.f61.results.toList 1 (outBd (.s (.l (.v .nilIface)), true, l ++ [c]))) := by
  refine aRun_sound (ctx := [⟨_, copyS⟩]) 4000 ?_
  rw [Tryd.ntmps61, Tryd.results61]
  simp only [Tryd.f61, Option.getD_some, zipT]
  have hm : l.length + 1 ≤ maxLen := by unfold maxLen; omega
  have hb : (l.length + 1) * 1 ≤ 140737488355328 := by omega
  cases st
  all_goals simp only [go_sem, Nat.reduceOr, Nat.reducePow, Nat.reduceDiv, Nat.reduceMod, Nat.reduceBEq, Int.reduceBEq, Int.reduceBNe, Int.reduceEq, Int.reduceLT, Int.reduceLE, Int.reduceToNat, reduceIte, reduceCtorEq, Nat.reduceEqDiff, Nat.reduceAdd, Nat.reduceLT, Nat.reduceLeDiff, Nat.reduceMul, Nat.reduceSub, bdK, bdA, bdBytesK, copy_run, copy_pan, copyRun, hm, hb]
  all_goals refine leftBd (tb := 162) rfl ?_ ?_ (by decide)
  all_goals simp [hget, bdK, bdA, bdBytesK, encByte]
def bdByteS : Spec Tryd.prog 61 :=
  mkZ _ _ _ Tryd.func61 rfl en_bdByte xzByte (fun _ l => l.length + 1 ≤ 140737488355328) (fun c _ l => (.s (.l (.v .nilIface)), true, l ++ [c])) (by rw [Tryd.ntmps61]; decide) (fun c st l h => bdByte_sw c st l h)
theorem bdByte_run {id : Nat} {h : Heap} {args : List AV} : bdByteS.run id h args = runR 1 (decZ xzByte (fun _ l => l.length + 1 ≤ 140737488355328)) (fun x => outBd ((fun c _ l => (.s (.l (.v .nilIface)), true, l ++ [c])) x.1 x.2.1 x.2.2)) id h args := rfl
theorem bdByte_pan {id : Nat} {h : Heap} {args : List AV} : bdByteS.pan id h args = panR (decZ xzByte (fun _ l => l.length + 1 ≤ 140737488355328)) (fun x => outBd ((fun c _ l => (.s (.l (.v .nilIface)), true, l ++ [c])) x.1 x.2.1 x.2.2)) h args := rfl

/-! WriteString -/
theorem en_bdStr (args : Array Value) (w : World) : (callFunc 62 args).run Tryd.prog w = .ok (.enter 62 args) w := by go_simp
theorem bdStr_sw (s : ByteArray) (st : Bool) (l : List Int) (h : l.length + s.size ≤ 140737488355328) : SW Tryd.prog ⟨none, 1⟩ Tryd.f62.ntmps (Tryd.f62.body.getD .skip) ⟨2, zipT 0 [.s (.l (.p 0 0 0)), .s (.l (.v (.string s)))], zipH 0 [bdK st l.length 1 0, bdBytesK l]⟩ (outR Tryd.prog Tryd.f62.results.toList 1 (outBd (.tup [.l (.v (.int .i64 s.size)), .l (.v .nilIface)], true, l ++ toBytes s))) := by
  refine aRun_sound (ctx := [⟨_, copyS⟩]) 4000 ?_
  rw [Tryd.ntmps62, Tryd.results62]
  simp only [Tryd.f62, Option.getD_some, zipT]
  have hm : l.length + s.size ≤ maxLen := by unfold maxLen; omega
  have hb : (l.length + s.size) * 1 ≤ 140737488355328 := by omega
  cases st
  all_goals simp only [go_sem, Nat.reduceOr, Nat.reducePow, Nat.reduceDiv, Nat.reduceMod, Nat.reduceBEq, Int.reduceBEq, Int.reduceBNe, Int.reduceEq, Int.reduceLT, Int.reduceLE, Int.reduceToNat, reduceIte, reduceCtorEq, Nat.reduceEqDiff, Nat.reduceAdd, Nat.reduceLT, Nat.reduceLeDiff, Nat.reduceMul, Nat.reduceSub, bdK, bdA, bdBytesK, copy_run, copy_pan, copyRun, hm, hb]
  all_goals refine leftBd (tb := 162) rfl ?_ ?_ (by decide)
  all_goals simp [hget, bdK, bdA, bdBytesK, encByte, toBytes_length]
def bdStrS : Spec Tryd.prog 62 :=
  mkZ _ _ _ Tryd.func62 rfl en_bdStr xzStr (fun s l => l.length + s.size ≤ 140737488355328) (fun s _ l => (.tup [.l (.v (.int .i64 s.size)), .l (.v .nilIface)], true, l ++ toBytes s)) (by rw [Tryd.ntmps62]; decide) (fun s st l h => bdStr_sw s st l h)
theorem bdStr_run {id : Nat} {h : Heap} {args : List AV} : bdStrS.run id h args = runR 1 (decZ xzStr (fun s l => l.length + s.size ≤ 140737488355328)) (fun x => outBd ((fun s _ l => (.tup [.l (.v (.int .i64 s.size)), .l (.v .nilIface)], true, l ++ toBytes s)) x.1 x.2.1 x.2.2)) id h args := rfl
theorem bdStr_pan {id : Nat} {h : Heap} {args : List AV} : bdStrS.pan id h args = panR (decZ xzStr (fun s l => l.length + s.size ≤ 140737488355328)) (fun x => outBd ((fun s _ l => (.tup [.l (.v (.int .i64 s.size)), .l (.v .nilIface)], true, l ++ toBytes s)) x.1 x.2.1 x.2.2)) h args := rfl

end Go.Proofs.YtcdbldakjepjiaaDoor
