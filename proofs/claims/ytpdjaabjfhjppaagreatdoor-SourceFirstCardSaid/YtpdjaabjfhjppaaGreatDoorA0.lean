/- Short words for the value logic; strings. No program in sight. -/
import Derived.Test.YtpdjaabjfhjppaaGreatDoorY6
set_option linter.unusedVariables false
set_option linter.unusedSimpArgs false
namespace Go.Proofs.YtpdjaabjfhjppaaGreatDoor
open Go.RowKit

abbrev iv (z : Int) : AV := .s (.l (.v (.int .i64 z)))
abbrev bv (b : Bool) : AV := .s (.l (.v (.bool b)))
abbrev sv (b : ByteArray) : AV := .s (.l (.v (.string b)))
abbrev pv (b i j : Nat) : AV := .s (.l (.p b i j))
abbrev unitV : AV := .tup []

theorem byteAt_range (s : ByteArray) (z : Int) : 0 ≤ byteAt s z ∧ byteAt s z ≤ 255 := by
  unfold byteAt
  have := (s.data.toList.getD z.toNat 0).toNat_lt
  omega
theorem ofBytes_append (a b : List Int) : ofBytes a ++ ofBytes b = ofBytes (a ++ b) := by
  apply ByteArray.ext
  simp [ofBytes]
theorem ofBytes_size (a : List Int) : (ofBytes a).size = a.length := by
  show (ofBytes a).data.size = _
  simp [ofBytes]
theorem toBytes_length (s : ByteArray) : (toBytes s).length = s.size := by
  show _ = s.data.size
  simp [toBytes]
theorem toBytes_range {s : ByteArray} {z : Int} (h : z ∈ toBytes s) : 0 ≤ z ∧ z ≤ 255 := by
  unfold toBytes at h
  obtain ⟨b, _, rfl⟩ := List.mem_map.1 h
  have := b.toNat_lt
  omega
theorem toBytes_ofBytes {a : List Int} (h : ∀ z ∈ a, 0 ≤ z ∧ z ≤ 255) : toBytes (ofBytes a) = a := by
  unfold toBytes ofBytes
  simp only [List.map_map]
  conv => rhs; rw [← List.map_id a]
  refine List.map_congr_left fun z hz => ?_
  have := h z hz
  simp only [Function.comp_apply, id]
  rw [show (UInt8.ofNat z.toNat).toNat = z.toNat % 256 from rfl]
  omega
theorem toBytes_inj {s t : ByteArray} (h : toBytes s = toBytes t) : s = t := by
  rw [← ofBytes_toBytes s, h, ofBytes_toBytes]
theorem toBytes_get {s : ByteArray} {i : Nat} (h : i < s.size) : (toBytes s)[i]? = some (byteAt s i) := by
  have h' : i < s.data.toList.length := by simpa using h
  unfold toBytes byteAt
  rw [List.getElem?_map, List.getElem?_eq_getElem h']
  simp [List.getD_eq_getElem?_getD, List.getElem?_eq_getElem h']
theorem byteAt_ofBytes {a : List Int} (h : ∀ z ∈ a, 0 ≤ z ∧ z ≤ 255) {i : Nat} {z : Int} (hz : a[i]? = some z) : byteAt (ofBytes a) i = z := by
  have hi : i < (ofBytes a).size := by rw [ofBytes_size]; exact (List.getElem?_eq_some_iff.1 hz).1
  have := toBytes_get hi
  rw [toBytes_ofBytes h, hz] at this
  injection this with this
  exact this.symm
theorem toBytes_extract (s : ByteArray) (i j : Nat) : toBytes (s.extract i j) = ((toBytes s).drop i).take (j - i) := by
  unfold toBytes
  rw [ByteArray.data_extract, Array.toList_extract, List.map_take, List.map_drop]
theorem toBytes_append (s t : ByteArray) : toBytes (s ++ t) = toBytes s ++ toBytes t := by
  unfold toBytes
  rw [ByteArray.data_append]
  simp
theorem extract_all (s : ByteArray) : s.extract 0 s.size = s := by
  apply toBytes_inj
  rw [toBytes_extract, List.drop_zero, List.take_of_length_le]
  rw [toBytes_length]
  exact Nat.le_refl _


/-! ### Prefixes -/
def hasPF (s p : ByteArray) : Bool := decide (p.size ≤ s.size) && decide (s.extract 0 p.size = p)
def cutF (s p : ByteArray) : ByteArray × Bool := if hasPF s p = true then (s.extract p.size s.size, true) else (s, false)
theorem hasPF_le {s p : ByteArray} (h : hasPF s p = true) : p.size ≤ s.size := by
  unfold hasPF at h
  simp at h
  exact h.1
theorem hasPF_iff {s p : ByteArray} : hasPF s p = true ↔ ∃ t, toBytes s = toBytes p ++ t := by
  unfold hasPF
  simp only [Bool.and_eq_true, decide_eq_true_eq]
  constructor
  · rintro ⟨h1, h2⟩
    refine ⟨(toBytes s).drop p.size, ?_⟩
    have := congrArg toBytes h2
    rw [toBytes_extract, List.drop_zero] at this
    rw [← this, Nat.sub_zero, List.take_append_drop]
  · rintro ⟨t, ht⟩
    have h1 : p.size ≤ s.size := by rw [← toBytes_length, ← toBytes_length, ht]; simp
    refine ⟨h1, toBytes_inj ?_⟩
    rw [toBytes_extract, List.drop_zero, ht, ← toBytes_length, Nat.sub_zero, List.take_left]
theorem hasP1 (s : ByteArray) (c : Int) (hc : 0 ≤ c ∧ c ≤ 255) : hasPF s (ofBytes [c]) = decide (0 < s.size ∧ byteAt s 0 = c) := by
  have hb : toBytes (ofBytes [c]) = [c] := toBytes_ofBytes (by simpa using hc)
  rw [Bool.eq_iff_iff, hasPF_iff, hb, decide_eq_true_eq]
  constructor
  · rintro ⟨t, ht⟩
    have h1 : 0 < s.size := by rw [← toBytes_length, ht]; simp
    have h2 := toBytes_get h1
    rw [ht] at h2
    simp at h2
    exact ⟨h1, h2.symm⟩
  · rintro ⟨h1, h2⟩
    have h3 := toBytes_get h1
    cases hs : toBytes s with
    | nil => rw [hs] at h3; cases h3
    | cons x t =>
      rw [hs] at h3
      simp at h3
      exact ⟨t, by rw [h3, ← h2]; rfl⟩

/-- a function of two arguments with a plain result, told by its calls -/
def mk2C {P : Program} {α β : Type} (f : FuncId) (hen : ∀ (args : Array Value) (w : World), (callFunc f args).run P w = .ok (.enter f args) w) (T : Ty α) (U : Ty β) (q : α → β → Prop) (out : α → β → AV) (hpl : ∀ x y, (out x y).plain = true)
    (calls : ∀ x y, q x y → ∀ (M : Mem) (w : World) (u v : Value), (∀ b o y, M b o = some y → w.cell? ⟨b, o, none⟩ = some y) → ARep ρ0 (al0 M) (T.enc x) u → ARep ρ0 (al0 M) (U.enc y) v → Calls P f #[u, v] w fun e w' => (∃ v, e = .returned v ∧ ARep ρ0 (al0 M) (out x y) v) ∧ Below w.heap.size w w') : Spec P f :=
  mkC f hen (args2 T U q) (fun x => [T.enc x.1, U.enc x.2]) (fun x => out x.1 x.2) (fun x => hpl x.1 x.2)
    (by
      intro as p x h _ ρ al vals hA
      unfold args2 at h
      split at h
      · split at h
        · rename_i hx hy
          injection h with h
          injection h with h1 h2
          subst h2
          match vals, hA with
          | [v, u], ⟨a, b, _⟩ => exact ⟨T.ok hx a, U.ok hy b, trivial⟩
        · cases h
      · cases h)
    (by
      intro as p x h hp M w vals _ hM hA
      unfold args2 at h
      split at h
      · split at h
        · injection h with h
          injection h with h1 h2
          subst h1
          subst h2
          match vals, hA with
          | [v, u], ⟨a, b, _⟩ => exact calls _ _ hp M w v u hM a b
        · cases h
      · cases h)

/-- a closure whose catch hangs on no own block, as a deep value -/
theorem Wk.fnD {ro : Cf} {s : St} (k : Nat) {g : FuncId} {f c : List LV} {fd cd : List D} (hk : tget s.t k = .fn g f c) (hf : toDs0 f = some fd) (hc : toDs0 c = some cd) : Wk ro s ⟨s.nx, (k, .s (.l (.d (.fn g fd cd)))) :: s.t, s.h⟩ := by
  intro n B w0 ρ al a w _ R
  refine ⟨ρ, al, R.size, R.defers, ?_, R.w, R.al⟩
  intro j
  rw [tget]
  split
  · rename_i ej
    subst ej
    have := R.t k
    rw [hk] at this
    obtain ⟨fs, cs, e, h1, h2⟩ := this
    rw [e]
    simp only [ARep, SRep, LRep, DRep]
    exact ⟨fs, cs, rfl, toDs0_rep hf h1, toDs0_rep hc h2⟩
  · exact R.t j

theorem pinR (K : Nat) : ∀ j, j < K → (List.range K)[j]? = some j := fun j hj => by rw [List.getElem?_range hj]

end Go.Proofs.YtpdjaabjfhjppaaGreatDoor
