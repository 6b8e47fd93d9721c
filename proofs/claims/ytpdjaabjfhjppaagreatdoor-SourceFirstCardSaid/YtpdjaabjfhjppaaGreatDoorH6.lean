/- Faults as arguments; what the package's variables hold (nothing is asked of them). -/
import Derived.Test.YtpdjaabjfhjppaaGreatDoorH5
import Derived.Test.YtpdjaabjfhjppaaGreatDoorRows
import Derived.Test.YtpdjaabjfhjppaaGreatDoorCards
import Derived.Test.YtpdjaabjfhjppaaGreatDoorTie
import Derived.ProofKit
import Derived.OpenShut
import Derived.ShutString
import Derived.ChangeOld
import Derived.SizedLaws
import Derived.LaidMore
import Derived.Lay
import Derived.LaidOnce
import Derived.SevenTiedAt
import Derived.Deep.Slices
import Derived.Deep.Fields
import Derived.Lib.SmallJoins
set_option linter.unusedVariables false
set_option linter.unusedSimpArgs false
namespace Go.Proofs.YtpdjaabjfhjppaaGreatDoor
open Go.ChangeShapes Go.WideShapes Go.ChangeAt Go.RowKit Go.Joins
set_option maxRecDepth 100000

theorem lawOwn : ownKnob Tryz.prog.godebug = none := by kernel_rfl
theorem lawLaid : laidOutB Tryz.prog = true := by kernel_rfl
def lawVars : List (String × DataW Unit) := [("math/bits.deBruijn32tab", Rows.laid_math_bits_deBruijn32tab), ("math/bits.deBruijn64tab", Rows.laid_math_bits_deBruijn64tab), ("internal/strconv.uint64pow10", Rows.laid_internal_strconv_uint64pow10), ("unicode/utf8.acceptRanges", Rows.laid_unicode_utf8_acceptRanges), ("strconv.ErrRange", Rows.laid_strconv_ErrRange), ("strconv.ErrSyntax", Rows.laid_strconv_ErrSyntax), ("unicode/utf8.first", Rows.laid_unicode_utf8_first)]
theorem gok_of_laid {W : World} (h : laidMetH Tryz.prog lawVars W) : Gok fun b o => W.cell? ⟨b, o, none⟩ := trivial
theorem u8_of_wf {n : Int} (h : (Lit.int .u8 n).wf = true) : 0 ≤ n ∧ n ≤ 255 := by
  have h' : IntKind.u8.min ≤ n ∧ n ≤ IntKind.u8.max := by simpa [Lit.wf] using h
  rw [show IntKind.u8.min = 0 from rfl, show IntKind.u8.max = 255 from rfl] at h'
  omega

def cellsF (t : Flt) : List Value := [.int .i64 t.file, .int .i64 t.line, .int .i64 t.err]
theorem cellsFlt : Tryz.prog.cellsOf 25 = 3 := by kernel_rfl
theorem spotN {w : World} {a : Addr} {v : Value} (h : w.cell? a = some v) : a = ⟨a.block, a.off, none⟩ ∧ a.block < w.heap.size := by
  unfold World.cell? at h
  split at h
  · rename_i c t fr hb
    refine ⟨?_, (Array.getElem?_eq_some_iff.1 hb).1⟩
    split at h
    · cases h
    · rename_i hs
      obtain ⟨b, o, s⟩ := a
      cases s with
      | none => rfl
      | some s => exact absurd rfl hs
  · cases h
theorem list3 {α : Type} {l : List α} (h : l.length = 3) : ∃ a b c, l = [a, b, c] := by
  match l, h with
  | [a, b, c], _ => exact ⟨a, b, c, rfl⟩

section
variable {H : Type} {enc : TypeId × Value → H} {w : World} {base : Nat} {spare : Nat → Bool} {held : Bool}

theorem open_fltD {n : Nat} {cs : List Value} {x : DataW H × List MemPlace} (h : DataW.trod enc Tryz.prog w base spare held n 25 cs = some x) : ∃ t : Flt, cs = cellsF t := by
  obtain ⟨xs, m, rfl, hD, hl, hx, hf⟩ := DataW.trod_struct Tryz.underlying25 h
  rw [cellsFlt] at hl
  obtain ⟨c0, c1, c2, rfl⟩ := list3 hl
  obtain ⟨y0, y1, y2, rfl⟩ := list3 (l := xs) hx
  have f0 : DataW.trod enc Tryz.prog w base spare held m 3 (([c0, c1, c2].drop 0).take (Tryz.prog.cellsOf 3)) = some y0 := hf 0 _ rfl
  have f1 : DataW.trod enc Tryz.prog w base spare held m 3 (([c0, c1, c2].drop 1).take (Tryz.prog.cellsOf 3)) = some y1 := hf 1 _ rfl
  have f2 : DataW.trod enc Tryz.prog w base spare held m 23 (([c0, c1, c2].drop 2).take (Tryz.prog.cellsOf 23)) = some y2 := hf 2 _ rfl
  clear hf
  rw [show Tryz.prog.cellsOf 3 = 1 by kernel_rfl] at f0 f1
  rw [show Tryz.prog.cellsOf 23 = 1 by kernel_rfl] at f2
  obtain ⟨a, e0, rfl, -⟩ := DataW.trod_int Tryz.underlying3 (show DataW.trod enc Tryz.prog w base spare held m 3 [c0] = some y0 from f0)
  obtain ⟨b, e1, rfl, -⟩ := DataW.trod_int Tryz.underlying3 (show DataW.trod enc Tryz.prog w base spare held m 3 [c1] = some y1 from f1)
  obtain ⟨c, e2, rfl, -⟩ := DataW.trod_int Tryz.underlying23 (show DataW.trod enc Tryz.prog w base spare held m 23 [c2] = some y2 from f2)
  injection e0 with e0
  injection e1 with e1
  injection e2 with e2
  subst e0 e1 e2
  exact ⟨⟨a, b, c⟩, rfl⟩

theorem open_flt {r : Reach} {b0 : Nat} {v : Value} {d : DataW H} {p : List MemPlace}
    (hv : Value.okWide Tryz.prog w r b0 25 v) (h : DataW.Trod enc Tryz.prog w base spare held 25 v d p) :
    ∃ t : Flt, v = .agg #[.int .i64 t.file, .int .i64 t.line, .int .i64 t.err] ∧ True := by
  obtain ⟨c0, c1, c2, y0, y1, y2, n, rfl, rfl, -, h0, h1, h2⟩ := open_agg3 Tryz.underlying25 (by kernel_rfl) cellsFlt hv h
  obtain ⟨a, e0, rfl, -⟩ := DataW.trod_int Tryz.underlying3 h0
  obtain ⟨s, e1, rfl, -⟩ := DataW.trod_int Tryz.underlying3 h1
  obtain ⟨u, e2, rfl, -⟩ := DataW.trod_int Tryz.underlying23 h2
  simp at e0 e1 e2
  subst e0 e1 e2
  exact ⟨⟨a, s, u⟩, rfl, trivial⟩

set_option maxRecDepth 100000 in
theorem open_flts {v : Value} {d : DataW H} {p : List MemPlace} {r : Reach} {b0 : Nat} (hv : Value.okWide Tryz.prog w r b0 22 v) (h : DataW.Trod enc Tryz.prog w 0 (fun _ => true) held 22 v d p) :
    ∃ (A : Option Addr) (cap : Nat) (l : List Flt), v = .slice A l.length cap ∧ l.length ≤ cap ∧
      (l ≠ [] → ∃ b off, A = some ⟨b, off, none⟩ ∧ ∀ (i j : Nat) (t : Flt) (u : Value), l[i]? = some t → (cellsF t)[j]? = some u → w.cell? ⟨b, off + i * 3 + j, none⟩ = some u) := by
  obtain ⟨a0, l0, c0, rfl⟩ := okWide_slice Tryz.underlying22 hv
  obtain ⟨m, hm⟩ := h
  rcases Go.Deep.open_slice Tryz.underlying22 hm with ⟨e, hd⟩ | ⟨a, len, cap, mm, n, D, Pl, e, -, hl, hcm, hmm, hx, hi⟩
  · injection e with e
    injection e with e1 e2 e3
    subst e1 e2 e3
    exact ⟨none, 0, [], rfl, Nat.le_refl _, fun h => (h rfl).elim⟩
  · injection e with e
    injection e with e1 e2 e3
    subst e1 e2 e3
    rw [if_pos rfl] at hmm
    subst hmm
    rw [cellsFlt] at hi
    have key : ∀ i, ∃ t : Flt, i < l0 → (∀ j, j < 3 → w.cell? (a.add (i * 3 + j)) = (cellsF t)[j]?) := by
      intro i
      by_cases him : i < l0
      · obtain ⟨cs, hc, ht⟩ := hi i (by omega)
        obtain ⟨t, rfl⟩ := open_fltD ht
        obtain ⟨-, -, hcs⟩ := World.cells?_some hc
        exact ⟨t, fun _ => fun j hj => by rw [← hcs j hj, Go.Deep.add_add]⟩
      · exact ⟨⟨0, 0, 0⟩, fun h => absurd h him⟩
    obtain ⟨T, hT⟩ := Classical.axiomOfChoice key
    have hlen : ((List.range l0).map T).length = l0 := by simp
    refine ⟨some a, mm, (List.range l0).map T, by rw [hlen], by rw [hlen]; exact hl, fun hne => ?_⟩
    have hl0 : 0 < l0 := by
      rcases Nat.eq_zero_or_pos l0 with h | h
      · subst h; exact (hne rfl).elim
      · exact h
    have h0 := (hT 0 (by omega)) 0 (by omega)
    obtain ⟨ha, hb⟩ := spotN (h0.trans (show (cellsF (T 0))[0]? = some _ from rfl))
    rw [show a.add (0 * 3 + 0) = a from rfl] at ha hb
    refine ⟨a.block, a.off, by rw [← ha], fun i j t u ht hu => ?_⟩
    have hil : i < l0 := by
      have := (List.getElem?_eq_some_iff.1 ht).1
      rwa [hlen] at this
    have hti : t = T i := by
      rw [List.getElem?_map, List.getElem?_range hil] at ht
      injection ht with ht
      exact ht.symm
    subst hti
    have hj : j < 3 := (List.getElem?_eq_some_iff.1 hu).1
    have c := (hT i (by omega)) j hj
    rw [hu] at c
    rw [← c]
    congr 1
    rw [ha]
    unfold Addr.add
    split
    · rename_i h
      simp only [Nat.add_assoc]
      congr 1
      omega
    · simp only [Nat.add_assoc]
end

theorem flts_rep {A : Option Addr} {cap : Nat} {l : List Flt} {w : World} (hc : l.length ≤ cap)
    (hT : l ≠ [] → ∃ b off, A = some ⟨b, off, none⟩ ∧ ∀ (i j : Nat) (t : Flt) (u : Value), l[i]? = some t → (cellsF t)[j]? = some u → w.cell? ⟨b, off + i * 3 + j, none⟩ = some u) :
    ARep ρ0 (al0 fun b o => w.cell? ⟨b, o, none⟩) (tFlts.enc l) (.slice A l.length cap) := by
  have e : l.map fltR.enc = (l.map cellsF).map fun e => e.map .v := by
    rw [List.map_map]; exact List.map_congr_left fun t _ => rfl
  show DRep _ (.sd 3 (l.map fltR.enc)) _
  simp only [DRep]
  refine ⟨A, cap, by rw [List.length_map], by rw [List.length_map]; exact hc, fun hne => ?_⟩
  obtain ⟨b, off, rfl, hcl⟩ := hT (fun h => by subst h; exact hne rfl)
  refine ⟨b, off, rfl, ?_⟩
  rw [e]
  refine dssAt_of (fun x hx => ?_) fun i j x u hx hu => ?_
  · obtain ⟨t, _, rfl⟩ := List.mem_map.1 hx; rfl
  · rw [List.getElem?_map, Option.map_eq_some_iff] at hx
    obtain ⟨t, ht, rfl⟩ := hx
    refine ⟨hcl i j t u ht hu, ?_⟩
    match j, hu with
    | 0, hu => injection hu with hu; subst hu; rfl
    | 1, hu => injection hu with hu; subst hu; rfl
    | 2, hu => injection hu with hu; subst hu; rfl

end Go.Proofs.YtpdjaabjfhjppaaGreatDoor
