/- Logical immediates: fields; ones; a number as 16 bits, shifted. Instructions: the limits of a class. -/
import Derived.Test.YtpjlafmhoifkmaaGreatKb
import Derived.Test.YtpjlafmhoifkmaaGreatKa
import Derived.Laws.BitsAllLaws
set_option linter.unusedVariables false
set_option linter.unusedSimpArgs false
namespace Go.Proofs.YtpjlafmhoifkmaaGreat
open Go.RowKit
set_option maxRecDepth 100000

theorem en_find (args : Array Value) (w : World) : (callFunc 93 args).run Tryz.prog w = .ok (.enter 93 args) w := by go_simp
def findS : Spec Tryz.prog 93 :=
  mk2 _ _ _ Tryz.func93 rfl en_find (tU) (tInt .i64) ((fun v w => (0 ≤ v ∧ v < 18446744073709551616) ∧ (w = 32 ∨ w = 64))) ((fun v w => .ret (findO (lFind v.toNat w.toNat)))) (by rw [Tryz.ntmps93]; decide) (fun v w h => by
  obtain ⟨⟨h1, h2⟩, h3⟩ := h
  obtain ⟨v, rfl⟩ := Int.eq_ofNat_of_zero_le h1
  obtain ⟨w, rfl⟩ := Int.eq_ofNat_of_zero_le (show 0 ≤ w by omega)
  exact find_sw v w (by omega) (by omega))
theorem find_run {id : Nat} {h : Heap} {args : List AV} : (findS).run id h args = runP (args2 (tU) (tInt .i64) ((fun v w => (0 ≤ v ∧ v < 18446744073709551616) ∧ (w = 32 ∨ w = 64)))) (fun x => ((fun v w => .ret (findO (lFind v.toNat w.toNat)))) x.1 x.2) h args := rfl
theorem find_pan {id : Nat} {h : Heap} {args : List AV} : (findS).pan id h args = panP (args2 (tU) (tInt .i64) ((fun v w => (0 ≤ v ∧ v < 18446744073709551616) ∧ (w = 32 ∨ w = 64)))) (fun x => ((fun v w => .ret (findO (lFind v.toNat w.toNat)))) x.1 x.2) h args := rfl
theorem lFind_some {v w : Nat} (hw : w = 32 ∨ w = 64) {s o t : Nat} (h : lFind v w = some (s, o, t)) : 2 ≤ s ∧ s ≤ w ∧ 1 ≤ o ∧ o < s ∧ t < s := by
  unfold lFind at h
  split at h
  · cases h
  split at h
  · cases h
  rename_i size hs
  rw [Option.map_eq_some_iff] at h
  obtain ⟨t', ht, e⟩ := h
  simp only [Prod.mk.injEq] at e
  obtain ⟨rfl, rfl, rfl⟩ := e
  obtain ⟨h1, h2, h3⟩ := lTurn_some ht
  have := lSizes_in hw (List.mem_of_find?_eq_some hs)
  omega
/-- N, immr, imms, and the error -/
def encF (v w : Nat) : Int × Int × Int × Int := match lFind v w with
  | some (s, o, t) => (if (s : Int) = 64 then 1 else 0, t, aboveF s + o - 1, 0)
  | none => (0, 0, 0, 20)
def encO (r : Int × Int × Int × Int) : AV := .tup [.l (.v (.int .i64 r.1)), .l (.v (.int .i64 r.2.1)), .l (.v (.int .i64 r.2.2.1)), .l (.v (.int .i64 r.2.2.2))]
set_option maxHeartbeats 1000000 in
theorem en_encode (args : Array Value) (w : World) : (callFunc 41 args).run Tryz.prog w = .ok (.enter 41 args) w := by go_simp
def encodeS : Spec Tryz.prog 41 :=
  mk2 _ _ _ Tryz.func41 rfl en_encode (tU) (tInt .i64) ((fun v w => (0 ≤ v ∧ v < 18446744073709551616) ∧ (w = 32 ∨ w = 64))) ((fun v w => .ret (encO (encF v.toNat w.toNat)))) (by rw [Tryz.ntmps41]; decide) (fun v w h => by
  refine aRun_sound (ctx := [⟨_, findS⟩, ⟨_, partsS⟩]) 4000 ?_
  rw [Tryz.ntmps41, Tryz.results41]
  simp only [Tryz.f41, Option.getD_some, zipT]
  obtain ⟨⟨h1, h2⟩, h3⟩ := h
  obtain ⟨v, rfl⟩ := Int.eq_ofNat_of_zero_le h1
  obtain ⟨w, rfl⟩ := Int.eq_ofNat_of_zero_le (show 0 ≤ w by omega)
  have t : ∀ n : Nat, Int.toNat (n : Int) = n := fun _ => rfl
  unfold encF
  simp only [t]
  cases hF : lFind v w with
  | none => simp only [go_sem, tU, find_run, find_pan, h1, h2, h3, t, hF, findO, encO]
  | some y =>
    obtain ⟨s, o, tt⟩ := y
    have hb := lFind_some (by omega) hF
    have b0 : (0 : Int) ≤ s ∧ (s : Int) ≤ 64 ∧ (0 : Int) ≤ o ∧ (o : Int) ≤ 64 := by omega
    simp only [go_sem, tU, find_run, find_pan, h1, h2, h3, t, hF, findO, encO, patR, parts_run, parts_pan, partsO, partsF, b0.1, b0.2.1, b0.2.2.1, b0.2.2.2])
theorem encode_run {id : Nat} {h : Heap} {args : List AV} : (encodeS).run id h args = runP (args2 (tU) (tInt .i64) ((fun v w => (0 ≤ v ∧ v < 18446744073709551616) ∧ (w = 32 ∨ w = 64)))) (fun x => ((fun v w => .ret (encO (encF v.toNat w.toNat)))) x.1 x.2) h args := rfl
theorem encode_pan {id : Nat} {h : Heap} {args : List AV} : (encodeS).pan id h args = panP (args2 (tU) (tInt .i64) ((fun v w => (0 ≤ v ∧ v < 18446744073709551616) ∧ (w = 32 ∨ w = 64)))) (fun x => ((fun v w => .ret (encO (encF v.toNat w.toNat)))) x.1 x.2) h args := rfl
def fieldF (r : Int × Int × Int × Int) : Int × Int := (bits .or .i64 (bits .or .i64 (IntKind.i64.wrap (r.1 * 2 ^ min 12 64)) (IntKind.i64.wrap (r.2.1 * 2 ^ min 6 64))) r.2.2.1, r.2.2.2)
def fieldO (r : Int × Int) : AV := .tup [.l (.v (.int .i64 r.1)), .l (.v (.int .i64 r.2))]
theorem en_field (args : Array Value) (w : World) : (callFunc 23 args).run Tryz.prog w = .ok (.enter 23 args) w := by go_simp
def fieldS : Spec Tryz.prog 23 :=
  mk2 _ _ _ Tryz.func23 rfl en_field (tU) (tInt .i64) ((fun v w => (0 ≤ v ∧ v < 18446744073709551616) ∧ (w = 32 ∨ w = 64))) ((fun v w => .ret (fieldO (fieldF (encF v.toNat w.toNat))))) (by rw [Tryz.ntmps23]; decide) (fun v w h => by
  refine aRun_sound (ctx := [⟨_, encodeS⟩]) 4000 ?_
  rw [Tryz.ntmps23, Tryz.results23]
  simp only [Tryz.f23, Option.getD_some, zipT]
  simp only [go_sem, tU, encode_run, encode_pan, h.1.1, h.1.2, h.2, encO, fieldO, fieldF])
theorem field_run {id : Nat} {h : Heap} {args : List AV} : (fieldS).run id h args = runP (args2 (tU) (tInt .i64) ((fun v w => (0 ≤ v ∧ v < 18446744073709551616) ∧ (w = 32 ∨ w = 64)))) (fun x => ((fun v w => .ret (fieldO (fieldF (encF v.toNat w.toNat))))) x.1 x.2) h args := rfl
theorem field_pan {id : Nat} {h : Heap} {args : List AV} : (fieldS).pan id h args = panP (args2 (tU) (tInt .i64) ((fun v w => (0 ≤ v ∧ v < 18446744073709551616) ∧ (w = 32 ∨ w = 64)))) (fun x => ((fun v w => .ret (fieldO (fieldF (encF v.toNat w.toNat))))) x.1 x.2) h args := rfl
theorem field_err (v w : Nat) : (fieldF (encF v w)).2 = if (lFind v w).isSome then 0 else 20 := by
  unfold fieldF encF
  cases h : lFind v w <;> simp

/-! ### Ones -/
set_option maxHeartbeats 1000000 in
theorem ones_any (n : Int) (w : World) (h : n = 32 ∨ n = 64) :
    Calls Tryz.prog 40 #[.int .i64 n] w fun e w' => e = .returned (.int .u64 (if n = 64 then 18446744073709551615 else 4294967295)) ∧ Below w.heap.size w w' := by
  rcases h with rfl | rfl
  · go_enter Tryz.func40, Tryz.ntmps40
    go_wp2_with fail
    go_ret
    exact ⟨rfl, (by ((repeat (first | with_reducible refine Below.drew ?_ | (with_reducible refine Below.alloc ?_ ?_ _; rotate_left; (focus (first | (simp; done) | (simp; omega) | omega))) | (with_reducible refine Below.setCell ?_ ?_ _; rotate_left; (focus (first | (simp; done) | (simp; omega) | omega))))); (first | with_reducible exact Below.refl _ _ | with_reducible assumption)))⟩
  · go_enter Tryz.func40, Tryz.ntmps40
    go_wp2_with fail
    go_ret
    exact ⟨rfl, (by ((repeat (first | with_reducible refine Below.drew ?_ | (with_reducible refine Below.alloc ?_ ?_ _; rotate_left; (focus (first | (simp; done) | (simp; omega) | omega))) | (with_reducible refine Below.setCell ?_ ?_ _; rotate_left; (focus (first | (simp; done) | (simp; omega) | omega))))); (first | with_reducible exact Below.refl _ _ | with_reducible assumption)))⟩
theorem en_bones (args : Array Value) (w : World) : (callFunc 40 args).run Tryz.prog w = .ok (.enter 40 args) w := by go_simp
def bonesF (n : Int) : Nat := if n = 64 then 18446744073709551615 else 4294967295
def bonesS : Spec Tryz.prog 40 :=
  mk1C _ en_bones (tInt .i64) (fun n => n = 32 ∨ n = 64) (fun n => uv (bonesF n)) (fun _ => rfl) (fun n hn M w v _ hv => by
    have hv' : v = .int .i64 n := hv
    subst hv'
    exact (ones_any n w hn).mono fun e w' h => ⟨⟨_, h.1, by rcases hn with rfl | rfl <;> rfl⟩, h.2⟩)
theorem bones_run {id : Nat} {h : Heap} {args : List AV} : bonesS.run id h args = runP (args1 (tInt .i64) (fun n => n = 32 ∨ n = 64)) (fun n => .ret (uv (bonesF n))) h args := rfl
theorem bones_pan {id : Nat} {h : Heap} {args : List AV} : bonesS.pan id h args = panP (args1 (tInt .i64) (fun n => n = 32 ∨ n = 64)) (fun n => .ret (uv (bonesF n))) h args := rfl

/-! ### 16 bits, shifted -/

end Go.Proofs.YtpjlafmhoifkmaaGreat

namespace Go.Proofs.YtpjlafmhoifkmaaGreat
open Go.RowKit
set_option maxRecDepth 100000

def limR : RowTy Lim where
  dec := fun | [.v (.int .i64 f), .v (.int .i64 a), .v (.int .i64 b)] => some (f, a, b) | _ => none
  enc := fun f => [.v (.int .i64 f.1), .v (.int .i64 f.2.1), .v (.int .i64 f.2.2)]
  inv := by
    intro c x h
    split at h
    · injection h with h; subst h; rfl
    · cases h
  back := by intro x; rfl
def limV (f : Lim) : AV := .s (.agg (limL f))
def limsV (l : List Lim) : AV := .s (.l (.d (.sd 3 (l.map limR.enc))))

theorem en_span (args : Array Value) (w : World) : (callFunc 177 args).run Tryz.prog w = .ok (.enter 177 args) w := by go_simp
def spanS : Spec Tryz.prog 177 :=
  mk3 _ _ _ Tryz.func177 rfl en_span (tInt .i64) (tInt .i64) (tInt .i64) ((fun _ _ _ => True)) ((fun f a b => .ret (limV (f, a, b)))) (by rw [Tryz.ntmps177]; decide) (fun f a b _ => by
  refine aRun_sound (ctx := []) 4000 ?_
  rw [Tryz.ntmps177, Tryz.results177]
  simp only [Tryz.f177, Option.getD_some, zipT]
  simp only [go_sem, limV, limL])
theorem span_run {id : Nat} {h : Heap} {args : List AV} : (spanS).run id h args = runP (args3 (tInt .i64) (tInt .i64) (tInt .i64) ((fun _ _ _ => True))) (fun x => ((fun f a b => .ret (limV (f, a, b)))) x.1 x.2.1 x.2.2) h args := rfl
theorem span_pan {id : Nat} {h : Heap} {args : List AV} : (spanS).pan id h args = panP (args3 (tInt .i64) (tInt .i64) (tInt .i64) ((fun _ _ _ => True))) (fun x => ((fun f a b => .ret (limV (f, a, b)))) x.1 x.2.1 x.2.2) h args := rfl
theorem en_upto (args : Array Value) (w : World) : (callFunc 171 args).run Tryz.prog w = .ok (.enter 171 args) w := by go_simp
def uptoS : Spec Tryz.prog 171 :=
  mk2 _ _ _ Tryz.func171 rfl en_upto (tInt .i64) (tInt .i64) ((fun _ _ => True)) ((fun f b => .ret (limV (f, 0, b)))) (by rw [Tryz.ntmps171]; decide) (fun f b _ => by
  refine aRun_sound (ctx := [⟨_, spanS⟩]) 4000 ?_
  rw [Tryz.ntmps171, Tryz.results171]
  simp only [Tryz.f171, Option.getD_some, zipT]
  simp only [go_sem, span_run, span_pan, limV, limL])
theorem upto_run {id : Nat} {h : Heap} {args : List AV} : (uptoS).run id h args = runP (args2 (tInt .i64) (tInt .i64) ((fun _ _ => True))) (fun x => ((fun f b => .ret (limV (f, 0, b)))) x.1 x.2) h args := rfl
theorem upto_pan {id : Nat} {h : Heap} {args : List AV} : (uptoS).pan id h args = panP (args2 (tInt .i64) (tInt .i64) ((fun _ _ => True))) (fun x => ((fun f b => .ret (limV (f, 0, b)))) x.1 x.2) h args := rfl
theorem en_fa (args : Array Value) (w : World) : (callFunc 170 args).run Tryz.prog w = .ok (.enter 170 args) w := by go_simp
def faS : Spec Tryz.prog 170 :=
  mk1 _ _ _ Tryz.func170 rfl en_fa (tInt .i64) ((fun _ => True)) ((fun b => .ret (limV (7, 0, b)))) (by rw [Tryz.ntmps170]; decide) (fun b _ => by
  refine aRun_sound (ctx := [⟨_, uptoS⟩]) 4000 ?_
  rw [Tryz.ntmps170, Tryz.results170]
  simp only [Tryz.f170, Option.getD_some, zipT]
  simp only [go_sem, upto_run, upto_pan, limV, limL])
theorem fa_run {id : Nat} {h : Heap} {args : List AV} : (faS).run id h args = runP (args1 (tInt .i64) ((fun _ => True))) ((fun b => .ret (limV (7, 0, b)))) h args := rfl
theorem fa_pan {id : Nat} {h : Heap} {args : List AV} : (faS).pan id h args = panP (args1 (tInt .i64) ((fun _ => True))) ((fun b => .ret (limV (7, 0, b)))) h args := rfl
theorem en_fb (args : Array Value) (w : World) : (callFunc 172 args).run Tryz.prog w = .ok (.enter 172 args) w := by go_simp
def fbS : Spec Tryz.prog 172 :=
  mk1 _ _ _ Tryz.func172 rfl en_fb (tInt .i64) ((fun _ => True)) ((fun b => .ret (limV (8, 0, b)))) (by rw [Tryz.ntmps172]; decide) (fun b _ => by
  refine aRun_sound (ctx := [⟨_, uptoS⟩]) 4000 ?_
  rw [Tryz.ntmps172, Tryz.results172]
  simp only [Tryz.f172, Option.getD_some, zipT]
  simp only [go_sem, upto_run, upto_pan, limV, limL])
theorem fb_run {id : Nat} {h : Heap} {args : List AV} : (fbS).run id h args = runP (args1 (tInt .i64) ((fun _ => True))) ((fun b => .ret (limV (8, 0, b)))) h args := rfl
theorem fb_pan {id : Nat} {h : Heap} {args : List AV} : (fbS).pan id h args = panP (args1 (tInt .i64) ((fun _ => True))) ((fun b => .ret (limV (8, 0, b)))) h args := rfl
theorem en_fc (args : Array Value) (w : World) : (callFunc 173 args).run Tryz.prog w = .ok (.enter 173 args) w := by go_simp
def fcS : Spec Tryz.prog 173 :=
  mk1 _ _ _ Tryz.func173 rfl en_fc (tInt .i64) ((fun _ => True)) ((fun b => .ret (limV (9, 0, b)))) (by rw [Tryz.ntmps173]; decide) (fun b _ => by
  refine aRun_sound (ctx := [⟨_, uptoS⟩]) 4000 ?_
  rw [Tryz.ntmps173, Tryz.results173]
  simp only [Tryz.f173, Option.getD_some, zipT]
  simp only [go_sem, upto_run, upto_pan, limV, limL])
theorem fc_run {id : Nat} {h : Heap} {args : List AV} : (fcS).run id h args = runP (args1 (tInt .i64) ((fun _ => True))) ((fun b => .ret (limV (9, 0, b)))) h args := rfl
theorem fc_pan {id : Nat} {h : Heap} {args : List AV} : (fcS).pan id h args = panP (args1 (tInt .i64) ((fun _ => True))) ((fun b => .ret (limV (9, 0, b)))) h args := rfl
theorem en_sa (args : Array Value) (w : World) : (callFunc 178 args).run Tryz.prog w = .ok (.enter 178 args) w := by go_simp
def saS : Spec Tryz.prog 178 :=
  mk1 _ _ _ Tryz.func178 rfl en_sa (tInt .i64) ((fun _ => True)) ((fun b => .ret (limV (7, 0, b)))) (by rw [Tryz.ntmps178]; decide) (fun b _ => by
  refine aRun_sound (ctx := [⟨_, uptoS⟩]) 4000 ?_
  rw [Tryz.ntmps178, Tryz.results178]
  simp only [Tryz.f178, Option.getD_some, zipT]
  simp only [go_sem, upto_run, upto_pan, limV, limL])
theorem sa_run {id : Nat} {h : Heap} {args : List AV} : (saS).run id h args = runP (args1 (tInt .i64) ((fun _ => True))) ((fun b => .ret (limV (7, 0, b)))) h args := rfl
theorem sa_pan {id : Nat} {h : Heap} {args : List AV} : (saS).pan id h args = panP (args1 (tInt .i64) ((fun _ => True))) ((fun b => .ret (limV (7, 0, b)))) h args := rfl
theorem en_sb (args : Array Value) (w : World) : (callFunc 179 args).run Tryz.prog w = .ok (.enter 179 args) w := by go_simp
def sbS : Spec Tryz.prog 179 :=
  mk1 _ _ _ Tryz.func179 rfl en_sb (tInt .i64) ((fun _ => True)) ((fun b => .ret (limV (8, 0, b)))) (by rw [Tryz.ntmps179]; decide) (fun b _ => by
  refine aRun_sound (ctx := [⟨_, uptoS⟩]) 4000 ?_
  rw [Tryz.ntmps179, Tryz.results179]
  simp only [Tryz.f179, Option.getD_some, zipT]
  simp only [go_sem, upto_run, upto_pan, limV, limL])
theorem sb_run {id : Nat} {h : Heap} {args : List AV} : (sbS).run id h args = runP (args1 (tInt .i64) ((fun _ => True))) ((fun b => .ret (limV (8, 0, b)))) h args := rfl
theorem sb_pan {id : Nat} {h : Heap} {args : List AV} : (sbS).pan id h args = panP (args1 (tInt .i64) ((fun _ => True))) ((fun b => .ret (limV (8, 0, b)))) h args := rfl
theorem en_sc (args : Array Value) (w : World) : (callFunc 180 args).run Tryz.prog w = .ok (.enter 180 args) w := by go_simp
def scS : Spec Tryz.prog 180 :=
  mk1 _ _ _ Tryz.func180 rfl en_sc (tInt .i64) ((fun _ => True)) ((fun b => .ret (limV (9, 0, b)))) (by rw [Tryz.ntmps180]; decide) (fun b _ => by
  refine aRun_sound (ctx := [⟨_, uptoS⟩]) 4000 ?_
  rw [Tryz.ntmps180, Tryz.results180]
  simp only [Tryz.f180, Option.getD_some, zipT]
  simp only [go_sem, upto_run, upto_pan, limV, limL])
theorem sc_run {id : Nat} {h : Heap} {args : List AV} : (scS).run id h args = runP (args1 (tInt .i64) ((fun _ => True))) ((fun b => .ret (limV (9, 0, b)))) h args := rfl
theorem sc_pan {id : Nat} {h : Heap} {args : List AV} : (scS).pan id h args = panP (args1 (tInt .i64) ((fun _ => True))) ((fun b => .ret (limV (9, 0, b)))) h args := rfl

theorem leftQ_new {st : St} {b n : Nat} {k : Blk} (hb : hget st.h b = some k) (ho : k.own = true) (hren : ∀ g, k.ren g = k) : leftQ 0 st (.ret (.s (.l (.sl 0 0 n))) [] [k]) (some (.s (.l (.sl b 0 n)))) := by
  refine ⟨_, _, _, rfl, rfl, by simp, by simp, by simp [ho], Wk.renL [b] (by simp) (Nat.le_refl _) (by simp) rfl ?_⟩
  simp [zipO, zipH, hb, hren]

/-! ### and -/
theorem en_andL (args : Array Value) (w : World) : (callFunc 174 args).run Tryz.prog w = .ok (.enter 174 args) w := by go_simp
set_option maxHeartbeats 1000000 in
theorem andL_sw (l m : List Lim) (h : l.length ≤ 20 ∧ m.length ≤ 20) : SW Tryz.prog ⟨none, 0⟩ Tryz.f174.ntmps (Tryz.f174.body.getD .skip) ⟨2, zipT 0 [.s (.l (.sl 0 0 l.length)), .s (.l (.sl 1 0 m.length))], zipH 0 [limRow.blk l, limRow.blk m]⟩
    (outRQ Tryz.prog Tryz.f174.results.toList 0 (outQ1 limRow (fun l m => l ++ m) (l, m))) := by
  refine aRun_sound (ctx := []) 4000 ?_
  rw [Tryz.ntmps174, Tryz.results174]
  simp only [Tryz.f174, Option.getD_some, zipT]
  have hm : l.length + m.length ≤ maxLen := by unfold maxLen; omega
  have hb : (l.length + m.length) * 24 ≤ 140737488355328 := by omega
  simp only [go_sem, RowL.blk, limRow, hm, hb, outRQ_ret, outRQ_normal, outQ1]
  rw [← List.map_append, ← List.length_append]
  exact leftQ_new (st := ⟨_, _, _⟩) (k := limRow.blk (l ++ m)) rfl rfl (limRow.blk_ren _)
def andLS : Spec Tryz.prog 174 :=
  mkQ2 _ _ _ Tryz.func174 rfl en_andL limRow limRow limRow (fun l m => l.length ≤ 20 ∧ m.length ≤ 20) (fun l m => l ++ m) (by rw [Tryz.ntmps174]; decide) (fun l m h => andL_sw l m h)
theorem andL_run {id : Nat} {h : Heap} {args : List AV} : andLS.run id h args = runQ 0 (decQ2 limRow limRow (fun l m => l.length ≤ 20 ∧ m.length ≤ 20)) (outQ1 limRow (fun l m => l ++ m)) id h args := rfl
theorem andL_pan {id : Nat} {h : Heap} {args : List AV} : andLS.pan id h args = none := rfl

/-- the same behind nothing -/
def decQN {α : Type} (R : RowL α) (q : List α → Prop) (h : Heap) : List AV → Option (Prop × List Nat × (List α × Unit))
  | [.s (.l (.v (.slice none 0 0))), A] => match decSl R h A with
    | some (b, l) => some (q l, [b], (l, ()))
    | none => none
  | _ => none
theorem andN_sw (l : List Lim) (h : l.length ≤ 20) : SW Tryz.prog ⟨none, 0⟩ Tryz.f174.ntmps (Tryz.f174.body.getD .skip) ⟨1, zipT 0 [.s (.l (.v (.slice none 0 0))), .s (.l (.sl 0 0 l.length))], zipH 0 [limRow.blk l]⟩
    (outRQ Tryz.prog Tryz.f174.results.toList 0 (outQ1 limRow (fun l (_ : Unit) => l) (l, ()))) := by
  refine SW.wk (s' := ⟨2, [(0, .s (.l (.sl 1 0 0))), (1, .s (.l (.sl 0 0 l.length)))], [(0, some (limRow.blk l)), (1, some (limRow.blk []))]⟩) ?_ ((Wk.nil 0 75 3 rfl).trans (Wk.renL [0, 1] (by simp) (Nat.le_refl 2) (by decide) rfl (by simp [zipH, hget, Blk.ren, RowL.blk, limRow, limL, LV.ren, Function.comp_def])))
  refine aRun_sound (ctx := []) 4000 ?_
  rw [Tryz.ntmps174, Tryz.results174]
  simp only [Tryz.f174, Option.getD_some, zipT]
  have hm : 0 + l.length ≤ maxLen := by unfold maxLen; omega
  have hb : (0 + l.length) * 24 ≤ 140737488355328 := by omega
  simp only [go_sem, RowL.blk, limRow, hm, hb, outRQ_ret, outRQ_normal, outQ1]
  exact ⟨⟨by omega, by omega⟩, leftQ_new (st := ⟨_, _, _⟩) (k := limRow.blk l) rfl rfl (limRow.blk_ren _)⟩
def andNS : Spec Tryz.prog 174 :=
  mkQ 0 1 (by decide) _ _ _ Tryz.func174 rfl en_andL (decQN limRow (fun l => l.length ≤ 20)) (fun y => [.s (.l (.v (.slice none 0 0))), .s (.l (.sl 0 0 y.1.length))]) (fun y => [limRow.blk y.1]) (outQ1 limRow (fun l (_ : Unit) => l)) (by rw [Tryz.ntmps174]; decide)
    (by
      intro h h' args r hs hd
      unfold decQN at hd ⊢
      split at hd
      · split at hd
        · rename_i h1
          rw [decSl_mono hs h1]
          exact hd
        · cases hd
      · cases hd)
    (by
      intro h zs q' bs y hd hq
      unfold decQN at hd
      split at hd
      case h_2 => cases hd
      rename_i A
      split at hd
      case h_2 => cases hd
      rename_i b l h1
      simp only [Option.some.injEq, Prod.mk.injEq] at hd
      obtain ⟨rfl, rfl, rfl⟩ := hd
      obtain ⟨rfl, hb1⟩ := decSl_ok h1
      refine ⟨by rw [Tryz.ntmps174]; show 2 ≤ 8; decide, rfl, rfl, by simp, fun d => ⟨?_, ?_⟩⟩
      · intro j b' k hj hk
        match j, hj, hk with
        | 0, hj, hk =>
          simp at hj hk
          subst hj
          subst hk
          exact ⟨rfl, by rw [hb1, limRow.blk_ren]⟩
      · intro ρ al vals hA
        match vals, hA with
        | [v, w], ⟨a, b, _⟩ => exact ⟨a, b, trivial⟩)
    (by
      intro h zs q' bs y hd hq
      unfold decQN at hd
      split at hd
      case h_2 => cases hd
      split at hd
      case h_2 => cases hd
      simp only [Option.some.injEq, Prod.mk.injEq] at hd
      obtain ⟨rfl, rfl, rfl⟩ := hd
      exact andN_sw _ hq)
theorem andN_run {id : Nat} {h : Heap} {args : List AV} : andNS.run id h args = runQ 0 (decQN limRow (fun l => l.length ≤ 20)) (outQ1 limRow (fun l (_ : Unit) => l)) id h args := rfl
theorem andN_pan {id : Nat} {h : Heap} {args : List AV} : andNS.pan id h args = none := rfl

/-! ### flags -/
def flagF1 (f : Int) : Lim := (f, 0, if f = 1 ∨ f = 2 then 1 else 31)
theorem flagsF_snoc {l : List Int} {i : Nat} {z : Int} (h : l[i]? = some z) : flagsF (l.take (i + 1)) = flagsF (l.take i) ++ [flagF1 z] := by
  rw [List.take_add_one, h]
  simp [flagsF, flagF1]
theorem flagsF_len (l : List Int) : (flagsF l).length = l.length := by simp [flagsF]
def flI (l : List Int) (i : Nat) : St := ⟨2, [(3, .s (.l (.sl 1 0 i))), (7, .s (.l (.sl 0 0 l.length))), (8, iv l.length), (9, iv i)], [(0, some (intRow.blk l)), (1, some (limRow.blk (flagsF (l.take i))))]⟩
theorem en_flags (args : Array Value) (w : World) : (callFunc 175 args).run Tryz.prog w = .ok (.enter 175 args) w := by go_simp
set_option maxHeartbeats 2000000 in
theorem flags_sw (l : List Int) (h : l.length ≤ 20) : SW Tryz.prog ⟨none, 0⟩ Tryz.f175.ntmps (Tryz.f175.body.getD .skip) ⟨1, zipT 0 [.s (.l (.sl 0 0 l.length))], zipH 0 [intRow.blk l]⟩
    (outRQ Tryz.prog Tryz.f175.results.toList 0 (outQ1 limRow (fun l (_ : Unit) => flagsF l) (l, ()))) := by
  refine aRun_sound (ctx := []) 4000 ?_
  rw [Tryz.ntmps175, Tryz.results175]
  simp only [Tryz.f175, Option.getD_some, zipT]
  simp only [go_sem, RowL.blk, intRow]
  refine sw_loop (ι := Nat) (fun i => i ≤ l.length) (flI l) (fun i => l.length - i) 0 (Nat.zero_le _) ((Wk.nil 3 75 3 rfl).trans (Wk.renL [0, 81] (by simp) (Nat.le_refl 2) (by decide) rfl ?_)) ?_
  · simp [flI, hget, Blk.ren, RowL.blk, intRow, limRow, limL, flagsF, LV.ren, Function.comp_def]
  intro i hi
  refine aRun_sound (ctx := [⟨_, spanS⟩]) 4000 ?_
  by_cases hlt : i < l.length
  · have hltI : (i : Int) < l.length := by omega
    obtain ⟨z, hz⟩ : ∃ z, l[i]? = some z := ⟨_, List.getElem?_eq_getElem hlt⟩
    have ei : IntKind.i64.wrap ((i : Int) + 1) = ((i + 1 : Nat) : Int) := by rw [IntKind.wrap_i64]; omega
    have hsn := flagsF_snoc hz
    have hm : i + 1 ≤ maxLen := by unfold maxLen; omega
    have hb : (i + 1) * 24 ≤ 140737488355328 := by omega
    have hl : (flagsF (l.take i)).length = i := by rw [flagsF_len, List.length_take]; omega
    have htk : List.take i (List.map limL (flagsF (l.take i))) = List.map limL (flagsF (l.take i)) := List.take_of_length_le (by rw [List.length_map, hl]; exact Nat.le_refl _)
    by_cases h1 : z = 1
    · have e : flagF1 z = (z, 0, 1) := by unfold flagF1; rw [if_pos (.inl h1)]
      have hb1 : (z == 1) = true := by simpa using h1
      simp only [go_sem, flI, RowL.blk, intRow, limRow, hltI, hlt, hz, hb1, span_run, span_pan, limV, limL, hm, hb, ei, htk]
      exact ⟨Nat.le_of_eq hl.symm, i + 1, by omega, by omega, Wk.renL [0, 242] (by simp) (Nat.le_refl 2) (by decide) rfl (by simp only [flI, RowL.blk, intRow, limRow, hsn, e]; simp [hget, Blk.ren, limL, LV.ren, Function.comp_def])⟩
    have hb1 : (z == 1) = false := by simpa using h1
    by_cases h2 : z = 2
    · have e : flagF1 z = (z, 0, 1) := by unfold flagF1; rw [if_pos (.inr h2)]
      have hb2 : (z == 2) = true := by simpa using h2
      simp only [go_sem, flI, RowL.blk, intRow, limRow, hltI, hlt, hz, hb1, hb2, span_run, span_pan, limV, limL, hm, hb, ei, htk]
      exact ⟨Nat.le_of_eq hl.symm, i + 1, by omega, by omega, Wk.renL [0, 274] (by simp) (Nat.le_refl 2) (by decide) rfl (by simp only [flI, RowL.blk, intRow, limRow, hsn, e]; simp [hget, Blk.ren, limL, LV.ren, Function.comp_def])⟩
    · have e : flagF1 z = (z, 0, 31) := by unfold flagF1; rw [if_neg (by rintro (h | h); exact h1 h; exact h2 h)]
      have hb2 : (z == 2) = false := by simpa using h2
      simp only [go_sem, flI, RowL.blk, intRow, limRow, hltI, hlt, hz, hb1, hb2, span_run, span_pan, limV, limL, hm, hb, ei, htk]
      exact ⟨Nat.le_of_eq hl.symm, i + 1, by omega, by omega, Wk.renL [0, 258] (by simp) (Nat.le_refl 2) (by decide) rfl (by simp only [flI, RowL.blk, intRow, limRow, hsn, e]; simp [hget, Blk.ren, limL, LV.ren, Function.comp_def])⟩
  · obtain rfl : i = l.length := by omega
    have hltI : ¬ (l.length : Int) < l.length := by omega
    simp only [go_sem, flI, RowL.blk, intRow, limRow, hltI, List.take_length, outRQ_ret, outRQ_normal, outQ1]
    have e := flagsF_len l
    rw [← e]
    exact leftQ_new (st := ⟨_, _, _⟩) (k := limRow.blk (flagsF l)) rfl rfl (limRow.blk_ren _)
def flagsS : Spec Tryz.prog 175 :=
  mkQ1 _ _ _ Tryz.func175 rfl en_flags intRow limRow xw0 (fun l _ => l.length ≤ 20) (fun l _ => flagsF l) (by rw [Tryz.ntmps175]; decide) (fun l x h => flags_sw l h)
theorem flags_run {id : Nat} {h : Heap} {args : List AV} : flagsS.run id h args = runQ 0 (decQ1 intRow xw0 (fun l _ => l.length ≤ 20)) (outQ1 limRow (fun l _ => flagsF l)) id h args := rfl
theorem flags_pan {id : Nat} {h : Heap} {args : List AV} : flagsS.pan id h args = none := rfl

end Go.Proofs.YtpjlafmhoifkmaaGreat
