/- Lines: strconv.FormatUint to the base 10, after the kit's shelf. -/
import Derived.Test.YtcdbldakjepjiaaDoorL3
import Derived.Shelf.Strconv.Itoa1
import Derived.Shelf.Strconv.Itoa2
import Derived.Lib.ItoaMem
set_option linter.unusedVariables false
set_option linter.unusedSimpArgs false
namespace Go.Proofs.YtcdbldakjepjiaaDoor
open Go.RowKit Go.Shelf
set_option maxRecDepth 100000

/-- functions of two arguments, where what the package's variables hold counts -/
def mk2G {P : Program} {α β : Type} (f : FuncId) (hen : ∀ (args : Array Value) (w : World), (callFunc f args).run P w = .ok (.enter f args) w) (T : Ty α) (U : Ty β) (q : α → β → Prop) (out : α → β → AV) (hpl : ∀ x y, (out x y).plain = true)
    (calls : ∀ x y, q x y → ∀ (M : Mem) (w : World) (u v : Value), Gok M → (∀ b o y, M b o = some y → w.cell? ⟨b, o, none⟩ = some y) → ARep ρ0 (al0 M) (T.enc x) u → ARep ρ0 (al0 M) (U.enc y) v → Calls P f #[u, v] w fun e w' => (∃ v, e = .returned v ∧ ARep ρ0 (al0 M) (out x y) v) ∧ Below w.heap.size w w') : Spec P f :=
  mkC f hen (args2 T U q) (fun x => [T.enc x.1, U.enc x.2]) (fun x => out x.1 x.2) (fun x => hpl x.1 x.2)
    (by
      intro zs p x h _ ρ al vals hA
      unfold args2 at h
      split at h
      · split at h
        · rename_i hx hy
          injection h with h
          injection h with h1 h2
          subst h2
          match vals, hA with
          | [v, u], ⟨a, b, _⟩ => exact ⟨T.ok hx a, U.ok hy b, trivial⟩
        · cases h
      · cases h)
    (by
      intro zs p x h hp M w vals hG hM hA
      unfold args2 at h
      split at h
      · split at h
        · injection h with h
          injection h with h1 h2
          subst h1
          subst h2
          match vals, hA with
          | [v, u], ⟨a, b, _⟩ => exact calls _ _ hp M w v u hG hM a b
        · cases h
      · cases h)

/-! ### The shelf's functions, laid at this program -/
def renFu : Ren := ⟨fun k => if k = 129 then 121 else if k = 317 then 120 else if k = 318 then 122 else if k = 283 then 106 else if k = 284 then 107 else if k = 285 then 108 else k,
  fun k => if k = 0 then 0 else if k = 3 then 3 else if k = 4 then 4 else if k = 5 then 5 else if k = 9 then 9 else if k = 37 then 22 else if k = 46 then 75 else if k = 51 then 144 else if k = 53 then 28 else if k = 212 then 143 else k,
  fun k => if k = 17 then 0 else k⟩
theorem fu283 : Go.Proofs.Lays.n283 Tryd.prog renFu where
  mixed := by kernel_rfl
  f283 := by kernel_rfl
  t3 := by kernel_rfl
  a3 := fun w => by kernel_rfl
  z3 := fun w => by kernel_rfl
  v3 := fun w => by kernel_rfl
  t4 := by kernel_rfl
  a4 := fun w => by kernel_rfl
  z4 := fun w => by kernel_rfl
  v4 := fun w => by kernel_rfl
  t9 := by kernel_rfl
  a9 := fun w => by kernel_rfl
  z9 := fun w => by kernel_rfl
  v9 := fun w => by kernel_rfl
theorem fu284 : Go.Proofs.Lays.n284 Tryd.prog renFu where
  mixed := by kernel_rfl
  f129 := by kernel_rfl
  f284 := by kernel_rfl
  f317 := by kernel_rfl
  f318 := by kernel_rfl
  t0 := by kernel_rfl
  a0 := fun w => by kernel_rfl
  z0 := fun w => by kernel_rfl
  v0 := fun w => by kernel_rfl
  t3 := by kernel_rfl
  a3 := fun w => by kernel_rfl
  z3 := fun w => by kernel_rfl
  v3 := fun w => by kernel_rfl
  t4 := by kernel_rfl
  a4 := fun w => by kernel_rfl
  z4 := fun w => by kernel_rfl
  v4 := fun w => by kernel_rfl
  t5 := by kernel_rfl
  a5 := fun w => by kernel_rfl
  z5 := fun w => by kernel_rfl
  v5 := fun w => by kernel_rfl
  t9 := by kernel_rfl
  a9 := fun w => by kernel_rfl
  z9 := fun w => by kernel_rfl
  v9 := fun w => by kernel_rfl
  t46 := by kernel_rfl
  a46 := fun w => by kernel_rfl
  z46 := fun w => by kernel_rfl
  v46 := fun w => by kernel_rfl
  t53 := by kernel_rfl
  a53 := fun w => by kernel_rfl
  z53 := fun w => by kernel_rfl
  v53 := fun w => by kernel_rfl
  t212 := by kernel_rfl
  a212 := fun w => by kernel_rfl
  z212 := fun w => by kernel_rfl
  v212 := fun w => by kernel_rfl
  g17 := by kernel_rfl
theorem fu285 : Go.Proofs.Lays.n285 Tryd.prog renFu where
  mixed := by kernel_rfl
  f285 := by kernel_rfl
  t0 := by kernel_rfl
  a0 := fun w => by kernel_rfl
  z0 := fun w => by kernel_rfl
  v0 := fun w => by kernel_rfl
  t3 := by kernel_rfl
  a3 := fun w => by kernel_rfl
  z3 := fun w => by kernel_rfl
  v3 := fun w => by kernel_rfl
  t4 := by kernel_rfl
  a4 := fun w => by kernel_rfl
  z4 := fun w => by kernel_rfl
  v4 := fun w => by kernel_rfl
  t5 := by kernel_rfl
  a5 := fun w => by kernel_rfl
  z5 := fun w => by kernel_rfl
  v5 := fun w => by kernel_rfl
  t9 := by kernel_rfl
  a9 := fun w => by kernel_rfl
  z9 := fun w => by kernel_rfl
  v9 := fun w => by kernel_rfl
  t37 := by kernel_rfl
  a37 := fun w => by kernel_rfl
  z37 := fun w => by kernel_rfl
  v37 := fun w => by kernel_rfl
  t51 := by kernel_rfl
  a51 := fun w => by kernel_rfl
  z51 := fun w => by kernel_rfl
  v51 := fun w => by kernel_rfl
  t53 := by kernel_rfl
  a53 := fun w => by kernel_rfl
  z53 := fun w => by kernel_rfl
  v53 := fun w => by kernel_rfl

/-! ### The number of digits -/
set_option maxHeartbeats 2000000 in
theorem numDigits_any (u : Nat) (h1 : 1 ≤ u) (h2 : u < 18446744073709551616) (w : World) (hG : ∀ i : Nat, i < 20 → w.cell? ⟨0, i, none⟩ = some (.int .u64 (10 ^ i))) :
    Calls Tryd.prog 107 #[.int .u64 u] w fun e w' => e = .returned (.int .i64 (Lib.nDigits u)) ∧ w' = w := by
  obtain ⟨hnd, h19⟩ := Lib.numDigits_eq u h1 h2
  have hL : Lib.bitLen u ≤ 64 := Lib.bitLen_le u 64 (Nat.le_refl _) h2
  have hcell := hG (Lib.l10 (Lib.bitLen u)) (by omega)
  have hto : ((u : Int)).toNat = u := by omega
  generalize hq : Lib.l10 (Lib.bitLen u) = q at hnd h19 hcell
  have e10 : ((10 : Int) ^ q) = ((10 ^ q : Nat) : Int) := by simp
  rw [e10] at hcell
  generalize hT : 10 ^ q = T at hnd hcell
  have h20 : q < 20 := by omega
  have Hnd := Lib.hid hnd
  clear hnd hG e10
  go_enter Tryd.func107, Tryd.ntmps107
  go_wp2_with (first
    | (go_at_call 121; refine (Any.bits_Len64 (ρ := renFu) { fu284 with } _ _ (by omega) (by omega)).mono ?_; rintro e w' ⟨rfl, rfl⟩)
    | (go_at_call 120; refine (Any.internal_strconv_log10Pow2 (ρ := renFu) { fu284 with } _ (by first | exact hL | (rw [hto]; exact hL)) _).mono ?_; rintro e w' ⟨rfl, rfl⟩)
    | (go_at_call 122; refine (Any.internal_strconv_bool2_int (ρ := renFu) { fu284 with } _ _).mono ?_; rintro e w' ⟨rfl, rfl⟩))
  all_goals go_ret
  all_goals
    refine ⟨?_, rfl⟩
    have hnd := Hnd.out
    congr 2
    split at hnd <;> simp_all <;> omega

/-! ### FormatUint -/
theorem below_grown (w : World) (k : Nat) (os : Array Obj) : Below w.heap.size w (Go.Sort.grow (w.drewN k) os) :=
  ⟨rfl, rfl, rfl, by show _ ≤ (w.heap ++ os).size; simp, fun b hb => by show (w.heap ++ os)[b]? = _; rw [Array.getElem?_append_left hb]⟩
theorem cell_alloc_old {w : World} {a : Addr} {v : Value} (h : w.cell? a = some v) (o : Obj) : (w.alloc o).cell? a = some v := by
  have hb : a.block < w.heap.size := by
    unfold World.cell? at h
    split at h
    · rename_i hb; exact (Array.getElem?_eq_some_iff.1 hb).1
    · cases h
  have e : (w.alloc o).heap[a.block]? = w.heap[a.block]? := ((Below.refl w.heap.size w).alloc (Nat.le_refl _) o).block a.block hb
  unfold World.cell? at h ⊢
  rw [e]; exact h
theorem holds_zero0 (w : World) (T : TypeId) (nd : Nat) (hs : nd ≤ 24) : Go.Sort.Holds (fun (b : UInt8) => Value.int .u8 (b.toNat : Int)) (w.alloc (.cells Lib.zeros24 T)) w.heap.size 0 (Array.replicate nd (0 : UInt8)) := fun j hj => by
  have hj' : j < nd := by simpa using hj
  refine ⟨?_, World.frozen?_alloc_new _ _ _ _⟩
  rw [World.cell?_alloc_new, Lib.zeros24_at _ (by omega), getElem!_pos _ j hj]
  simp

set_option maxHeartbeats 4000000 in
theorem formatIn_any (u : Nat) (hu : u < 18446744073709551616) (w : World) (hG : ∀ i : Nat, i < 20 → w.cell? ⟨0, i, none⟩ = some (.int .u64 (10 ^ i))) :
    Calls Tryd.prog 87 #[.int .u64 u, .int .i64 10] w fun e w' => e = .returned (.string ⟨(Lib.decDigits u).toArray⟩) ∧ Below w.heap.size w w' := by
  by_cases hs : u < 100
  · have hw : IntKind.i64.wrap (u : Int) = u := by rw [IntKind.wrap_i64]; omega
    go_enter Tryd.func87, Tryd.ntmps87
    go_wp2_with (go_at_call 106; refine (Any.internal_strconv_small (ρ := renFu) fu283 u hs _).mono ?_; rintro e w' ⟨rfl, rfl⟩)
    go_ret
    exact ⟨rfl, Below.refl _ _⟩
  · have hu1 : 1 ≤ u := by omega
    have hnd20 : Lib.nDigits u ≤ 20 := by have := Lib.numDigits_eq u hu1 hu; split at this <;> omega
    have hb3 : Lib.nDigits u ≤ 24 := by omega
    have hal : Tryd.prog.arrayLen 131 = 24 := by simp [Program.arrayLen, Tryd.underlying131]
    have hsl : ∀ W, (Instr.sliceAt 131 (.pointer (some ⟨w.heap.size, 0, none⟩)) none (some (.int .i64 (Lib.nDigits u : Int))) none).run Tryd.prog W = .ok (.slice (some ⟨w.heap.size, 0, none⟩) (Lib.nDigits u) 24) W := fun W => by
      rw [run_sliceAt_array_h W 131 ⟨w.heap.size, 0, none⟩ (by simp [Program.arrayLen, Program.elem, Tryd.underlying131]) .i64 (Lib.nDigits u : Int) (by omega) (by rw [hal]; omega)]
      go_simp
      try omega
    have hH0 := holds_zero0 w 131 (Lib.nDigits u) hb3
    have hfmt := Any.internal_strconv_formatBase10 (ρ := renFu) fu285 w.heap.size 0 24 u (Array.replicate (Lib.nDigits u) 0) (w.alloc (.cells Lib.zeros24 131)) hH0 (by rw [Array.size_replicate]; exact Lib.lt_pow_nDigits u) hu (by rw [Array.size_replicate]; omega)
    rw [Array.size_replicate] at hfmt
    have HH0 := Lib.hid hH0
    clear hH0 hal
    go_enter Tryd.func87, Tryd.ntmps87
    go_wp2_with (go_at_call 107; refine (numDigits_any u hu1 hu _ (fun i hi => cell_alloc_old (hG i hi) _)).mono ?_; rintro e w' ⟨rfl, rfl⟩)
    go_at_call 108
    refine hfmt.mono ?_
    rintro e w' ⟨rfl, k, v', dk, rfl, hF⟩
    have hcv : (convert 22 9 (.slice (some ⟨w.heap.size, 0, none⟩) (Lib.nDigits u) 24)).run Tryd.prog ((Go.Sort.putRow (fun (b : UInt8) => Value.int .u8 (b.toNat : Int)) (w.alloc (.cells Lib.zeros24 131)) w.heap.size 0 dk).drewN k) = .ok (.string ⟨(Lib.decDigits u).toArray⟩) ((Go.Sort.putRow (fun (b : UInt8) => Value.int .u8 (b.toNat : Int)) (w.alloc (.cells Lib.zeros24 131)) w.heap.size 0 dk).drewN k) := by
      have h := run_convert_bytes_back (P := Tryd.prog) ((Go.Sort.putRow (fun (b : UInt8) => Value.int .u8 (b.toNat : Int)) (w.alloc (.cells Lib.zeros24 131)) w.heap.size 0 dk).drewN k) 22 9 5 ⟨w.heap.size, 0, none⟩ 24 (Lib.decDigits u) Tryd.underlying22 Tryd.underlying5 Tryd.underlying9 (fun j hj => by
        rw [Lib.row_is_numeral hF j hj, Lib.add_plain, World.cell?_drewN]
        exact Go.Sort.cell?_putRow (fun (b : UInt8) => Value.int .u8 (b.toNat : Int)) _ w.heap.size 0 _ dk HH0.out (by rw [hF.size, Array.size_replicate]) j (by rw [hF.size]; rw [Lib.decDigits_length] at hj; exact hj))
      rw [Lib.decDigits_length] at h
      exact h
    go_wp2
    go_ret
    refine ⟨rfl, ?_⟩
    have hgr : ∃ os, (Go.Sort.putRow (fun (b : UInt8) => Value.int .u8 (b.toNat : Int)) (w.alloc (.cells Lib.zeros24 131)) w.heap.size 0 dk).drewN k = Go.Sort.grow (w.drewN k) os := by
      rw [Go.Sort.alloc_eq_grow]
      obtain ⟨os', _, e⟩ := Go.Sort.putRow_grow_new (fun (b : UInt8) => Value.int .u8 (b.toNat : Int)) w #[.cells Lib.zeros24 131] w.heap.size 0 dk (Nat.le_refl _)
      exact ⟨os', by rw [e]; rfl⟩
    obtain ⟨os, eo⟩ := hgr
    rw [eo]
    exact below_grown w k os
theorem format_any (u : Nat) (hu : u < 18446744073709551616) (w : World) (hG : ∀ i : Nat, i < 20 → w.cell? ⟨0, i, none⟩ = some (.int .u64 (10 ^ i))) :
    Calls Tryd.prog 50 #[.int .u64 u, .int .i64 10] w fun e w' => e = .returned (.string ⟨(Lib.decDigits u).toArray⟩) ∧ Below w.heap.size w w' := by
  go_enter Tryd.func50, Tryd.ntmps50
  go_wp2_with (go_at_call 87; refine (formatIn_any u hu _ hG).mono ?_; rintro e w' ⟨rfl, hb⟩)
  go_ret
  exact ⟨rfl, hb⟩

/-- a number's digits -/
def decF (n : Int) : ByteArray := ⟨(Lib.decDigits n.toNat).toArray⟩
theorem en_format (args : Array Value) (w : World) : (callFunc 50 args).run Tryd.prog w = .ok (.enter 50 args) w := by go_simp
def formatS : Spec Tryd.prog 50 := mk2G _ en_format (tInt .u64) (tInt .i64) (fun n b => 0 ≤ n ∧ n < 18446744073709551616 ∧ b = 10) (fun n _ => sv (decF n)) (fun _ _ => rfl) fun n b hq M w u v hG hM hu hv => by
  obtain rfl : u = .int .u64 n := hu
  obtain rfl : v = .int .i64 b := hv
  obtain ⟨h0, h1, rfl⟩ := hq
  have e : ((n.toNat : Nat) : Int) = n := Int.toNat_of_nonneg h0
  have := format_any n.toNat (by omega) w (fun i hi => hM _ _ _ (hG.2 i hi))
  rw [e] at this
  exact this.mono fun e w' ⟨h1, h2⟩ => ⟨⟨_, h1, rfl⟩, h2⟩
theorem format_run {id : Nat} {h : Heap} {args : List AV} : formatS.run id h args = runP (args2 (tInt .u64) (tInt .i64) (fun n b => 0 ≤ n ∧ n < 18446744073709551616 ∧ b = 10)) (fun x => .ret (sv (decF x.1))) h args := rfl
theorem format_pan {id : Nat} {h : Heap} {args : List AV} : formatS.pan id h args = panP (args2 (tInt .u64) (tInt .i64) (fun n b => 0 ≤ n ∧ n < 18446744073709551616 ∧ b = 10)) (fun x => .ret (sv (decF x.1))) h args := rfl

end Go.Proofs.YtcdbldakjepjiaaDoor
