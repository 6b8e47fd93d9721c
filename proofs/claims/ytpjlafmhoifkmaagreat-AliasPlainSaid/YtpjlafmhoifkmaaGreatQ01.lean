/- The document's instructions: limits of all classes. -/
import Derived.Test.YtpjlafmhoifkmaaGreatKe
set_option linter.unusedVariables false
set_option linter.unusedSimpArgs false
namespace Go.Proofs.YtpjlafmhoifkmaaGreat
open Go.RowKit
set_option maxRecDepth 100000

/-- three plain values behind a slice -/
def xw3 {X : Type} (T : Ty X) (hpl : ∀ x, (T.enc x).plain = true) : Xw (X × X × X) where
  dec := fun | [A, B, C] => (match T.dec A, T.dec B, T.dec C with | some a, some b, some c => some (a, b, c) | _, _, _ => none) | _ => none
  enc := fun x => [T.enc x.1, T.enc x.2.1, T.enc x.2.2]
  len := 3
  enc_len := fun _ => rfl
  ok := by
    intro zs x h ρ ρ' al al' vals hA
    split at h
    case h_2 => cases h
    split at h
    case h_2 => cases h
    rename_i h1 h2 h3
    injection h with h
    subst h
    match vals, hA with
    | [u, v, w], ⟨a, b, c, _⟩ => exact ⟨(T.ok h1 a).plain (hpl _), (T.ok h2 b).plain (hpl _), (T.ok h3 c).plain (hpl _), trivial⟩
def tLim : Ty Lim := tAgg limR
def wiF (l : List Lim) (x : Lim × Lim × Lim) : List Lim := l ++ [x.1, x.2.1, x.2.2].filter (fun f => decide (0 < f.1))
def wtL (l : List Lim) (x : Lim × Lim × Lim) (i : Nat) : List Lim := l ++ ([x.1, x.2.1, x.2.2].take i).filter (fun f => decide (0 < f.1))
theorem wtL_snoc {l : List Lim} {x : Lim × Lim × Lim} {i : Nat} {f : Lim} (h : [x.1, x.2.1, x.2.2][i]? = some f) : wtL l x (i + 1) = if 0 < f.1 then wtL l x i ++ [f] else wtL l x i := by
  unfold wtL
  rw [List.take_add_one, h]
  simp only [Option.toList_some, List.filter_append, List.filter_cons, List.filter_nil]
  by_cases h1 : 0 < f.1 <;> simp [h1]
theorem wtL_len (l : List Lim) (x : Lim × Lim × Lim) (i : Nat) : (wtL l x i).length ≤ l.length + 3 := by
  unfold wtL
  rw [List.length_append]
  have h1 := List.length_filter_le (fun f : Lim => decide (0 < f.1)) ([x.1, x.2.1, x.2.2].take i)
  have h2 : ([x.1, x.2.1, x.2.2].take i).length ≤ 3 := by rw [List.length_take]; simp; omega
  omega
def wtI (l : List Lim) (x : Lim × Lim × Lim) (i : Nat) : St := ⟨2, [(0, .s (.l (.sl 0 0 (wtL l x i).length))), (9, .s (.l (.sl 1 0 3))), (10, iv i)], [(0, some (limRow.blk (wtL l x i))), (1, some (limRow.blk [x.1, x.2.1, x.2.2]))]⟩
theorem en_rwith (args : Array Value) (w : World) : (callFunc 132 args).run Tryz.prog w = .ok (.enter 132 args) w := by go_simp
set_option maxHeartbeats 4000000 in
theorem rwith_sw (l : List Lim) (x : Lim × Lim × Lim) (h : l.length ≤ 20) : SW Tryz.prog ⟨none, 0⟩ Tryz.f132.ntmps (Tryz.f132.body.getD .skip) ⟨1, zipT 0 (.s (.l (.sl 0 0 l.length)) :: (xw3 tLim (fun _ => rfl)).enc x), zipH 0 [limRow.blk l]⟩
    (outRQ Tryz.prog Tryz.f132.results.toList 0 (outQ1 limRow wiF (l, x))) := by
  refine aRun_sound (ctx := []) 4000 ?_
  rw [Tryz.ntmps132, Tryz.results132]
  simp only [Tryz.f132, Option.getD_some, zipT]
  obtain ⟨a, b, c⟩ := x
  simp only [go_sem, RowL.blk, limRow, limL, xw3, tLim, limR]
  refine sw_loop (ι := Nat) (fun i => i ≤ 3) (wtI l (a, b, c)) (fun i => 3 - i) 0 (Nat.zero_le _) (Wk.renL [0, 113] (by simp) (Nat.le_refl 2) (by decide) (by simp [wtI, wtL, tget, AV.ren, SV.ren, LV.ren]) (by simp [wtI, wtL, hget, Blk.ren, RowL.blk, limRow, limL, LV.ren, Function.comp_def])) ?_
  intro i hi
  refine aRun_sound (ctx := []) 4000 ?_
  by_cases hlt : i < 3
  · have hltI : (i : Int) < 3 := by omega
    obtain ⟨f, hf⟩ : ∃ f, [a, b, c][i]? = some f := ⟨_, List.getElem?_eq_getElem hlt⟩
    have hsn := wtL_snoc (l := l) (x := (a, b, c)) hf
    have ei : IntKind.i64.wrap ((i : Int) + 1) = ((i + 1 : Nat) : Int) := by rw [IntKind.wrap_i64]; omega
    have hrow : (List.map limL [a, b, c])[i]? = some (limL f) := by rw [List.getElem?_map, hf]; rfl
    simp only [List.map_cons, List.map_nil, limL] at hrow
    obtain ⟨L, hL⟩ : ∃ L, wtL l (a, b, c) i = L := ⟨_, rfl⟩
    have hlen : L.length ≤ 23 := by rw [← hL]; have := wtL_len l (a, b, c) i; omega
    have hm : L.length + 1 ≤ maxLen := by unfold maxLen; omega
    have hb : (L.length + 1) * 24 ≤ 140737488355328 := by omega
    by_cases h0 : 0 < f.1
    · rw [if_pos h0, hL] at hsn
      simp only [go_sem, wtI, hL, RowL.blk, limRow, limL, hltI, hrow, h0, hm, hb, ei]
      exact ⟨i + 1, by omega, by omega, Wk.renL [258, 1] (by simp) (Nat.le_refl 2) (by decide) (by rw [hsn, List.length_append]; rfl) (by rw [hsn]; simp [hget, Blk.ren, limL, LV.ren, Function.comp_def])⟩
    · rw [if_neg h0, hL] at hsn
      simp only [go_sem, wtI, hL, RowL.blk, limRow, limL, hltI, hrow, h0, ei]
      exact ⟨i + 1, by omega, by omega, Wk.renL [0, 1] (by simp) (Nat.le_refl 2) (by decide) (by rw [hsn]; rfl) (by rw [hsn]; simp [hget, Blk.ren, limL, LV.ren, Function.comp_def])⟩
  · obtain rfl : i = 3 := by omega
    have e : wtL l (a, b, c) 3 = wiF l (a, b, c) := rfl
    simp only [go_sem, wtI, e, RowL.blk, limRow, limL, outRQ_ret, outRQ_normal, outQ1]
    exact leftQ_new (st := ⟨_, _, _⟩) (k := limRow.blk (wiF l (a, b, c))) rfl rfl (limRow.blk_ren _)
def rwithS : Spec Tryz.prog 132 :=
  mkQ1 _ _ _ Tryz.func132 rfl en_rwith limRow limRow (xw3 tLim (fun _ => rfl)) (fun l _ => l.length ≤ 20) wiF (by rw [Tryz.ntmps132]; decide) (fun l x h => rwith_sw l x h)
theorem rwith_run {id : Nat} {h : Heap} {args : List AV} : rwithS.run id h args = runQ 0 (decQ1 limRow (xw3 tLim (fun _ => rfl)) (fun l _ => l.length ≤ 20)) (outQ1 limRow wiF) id h args := rfl
theorem rwith_pan {id : Nat} {h : Heap} {args : List AV} : rwithS.pan id h args = none := rfl


/-! ### with, no limits ahead -/
def decWN {X : Type} (T : Xw X) (_ : Heap) : List AV → Option (Prop × List Nat × X)
  | .s (.l (.v (.slice none 0 0))) :: zs => (T.dec zs).map fun x => (True, [], x)
  | _ => none
theorem rwithN_sw (x : Lim × Lim × Lim) : SW Tryz.prog ⟨none, 0⟩ Tryz.f132.ntmps (Tryz.f132.body.getD .skip) ⟨0, zipT 0 (.s (.l (.v (.slice none 0 0))) :: (xw3 tLim (fun _ => rfl)).enc x), []⟩
    (outRQ Tryz.prog Tryz.f132.results.toList 0 (outQ1 limRow wiF ([], x))) :=
  SW.wk (rwith_sw [] x (by decide)) ((Wk.nil 0 75 3 rfl).trans (Wk.renL [0] (by simp) (Nat.le_refl 1) (by decide) rfl rfl))
def rwithNS : Spec Tryz.prog 132 :=
  mkQ 0 0 (by decide) _ _ _ Tryz.func132 rfl en_rwith (decWN (xw3 tLim (fun _ => rfl))) (fun x => .s (.l (.v (.slice none 0 0))) :: (xw3 tLim (fun _ => rfl)).enc x) (fun _ => []) (fun x => outQ1 limRow wiF ([], x)) (by rw [Tryz.ntmps132]; decide) (fun _ hd => hd)
    (by
      intro h zs q bs x hd hq
      unfold decWN at hd
      split at hd
      case h_2 => cases hd
      rename_i zs'
      cases hx : (xw3 tLim (fun _ => rfl)).dec zs' with
      | none => rw [hx] at hd; cases hd
      | some y =>
        rw [hx] at hd
        simp only [Option.map_some, Option.some.injEq, Prod.mk.injEq] at hd
        obtain ⟨rfl, rfl, rfl⟩ := hd
        refine ⟨by rw [Tryz.ntmps132]; exact Nat.le_of_ble_eq_true rfl, rfl, rfl, List.nodup_nil, fun d => ⟨fun j b k hj => by simp at hj, ?_⟩⟩
        intro ρ al vals hA
        match vals, hA with
        | v :: vs, ⟨a, r⟩ => exact ⟨a, (xw3 tLim (fun _ => rfl)).ok hx r⟩)
    (by
      intro h zs q bs x hd hq
      exact rwithN_sw x)
theorem rwithN_run {id : Nat} {h : Heap} {args : List AV} : rwithNS.run id h args = runQ 0 (decWN (xw3 tLim (fun _ => rfl))) (fun x => outQ1 limRow wiF ([], x)) id h args := rfl
theorem rwithN_pan {id : Nat} {h : Heap} {args : List AV} : rwithNS.pan id h args = none := rfl

/-! ### Limits -/
theorem re_1234 : flagsF [1, 2, 3, 4] = [(1, 0, 1), (2, 0, 1), (3, 0, 31), (4, 0, 31)] := by decide
theorem rz_1234 : (∀ z ∈ ([1, 2, 3, 4] : List Int), 1 ≤ z) = True := by simp
theorem re_12345 : flagsF [1, 2, 3, 4, 5] = [(1, 0, 1), (2, 0, 1), (3, 0, 31), (4, 0, 31), (5, 0, 31)] := by decide
theorem rz_12345 : (∀ z ∈ ([1, 2, 3, 4, 5] : List Int), 1 ≤ z) = True := by simp
theorem re_123456 : flagsF [1, 2, 3, 4, 5, 6] = [(1, 0, 1), (2, 0, 1), (3, 0, 31), (4, 0, 31), (5, 0, 31), (6, 0, 31)] := by decide
theorem rz_123456 : (∀ z ∈ ([1, 2, 3, 4, 5, 6] : List Int), 1 ≤ z) = True := by simp
theorem re_1245 : flagsF [1, 2, 4, 5] = [(1, 0, 1), (2, 0, 1), (4, 0, 31), (5, 0, 31)] := by decide
theorem rz_1245 : (∀ z ∈ ([1, 2, 4, 5] : List Int), 1 ≤ z) = True := by simp
theorem re_13 : flagsF [1, 3] = [(1, 0, 1), (3, 0, 31)] := by decide
theorem rz_13 : (∀ z ∈ ([1, 3] : List Int), 1 ≤ z) = True := by simp
theorem re_134 : flagsF [1, 3, 4] = [(1, 0, 1), (3, 0, 31), (4, 0, 31)] := by decide
theorem rz_134 : (∀ z ∈ ([1, 3, 4] : List Int), 1 ≤ z) = True := by simp
theorem re_1345 : flagsF [1, 3, 4, 5] = [(1, 0, 1), (3, 0, 31), (4, 0, 31), (5, 0, 31)] := by decide
theorem rz_1345 : (∀ z ∈ ([1, 3, 4, 5] : List Int), 1 ≤ z) = True := by simp
theorem re_13456 : flagsF [1, 3, 4, 5, 6] = [(1, 0, 1), (3, 0, 31), (4, 0, 31), (5, 0, 31), (6, 0, 31)] := by decide
theorem rz_13456 : (∀ z ∈ ([1, 3, 4, 5, 6] : List Int), 1 ≤ z) = True := by simp
theorem re_2 : flagsF [2] = [(2, 0, 1)] := by decide
theorem rz_2 : (∀ z ∈ ([2] : List Int), 1 ≤ z) = True := by simp
theorem re_2345 : flagsF [2, 3, 4, 5] = [(2, 0, 1), (3, 0, 31), (4, 0, 31), (5, 0, 31)] := by decide
theorem rz_2345 : (∀ z ∈ ([2, 3, 4, 5] : List Int), 1 ≤ z) = True := by simp
theorem re_2346 : flagsF [2, 3, 4, 6] = [(2, 0, 1), (3, 0, 31), (4, 0, 31), (6, 0, 31)] := by decide
theorem rz_2346 : (∀ z ∈ ([2, 3, 4, 6] : List Int), 1 ≤ z) = True := by simp
theorem re_3 : flagsF [3] = [(3, 0, 31)] := by decide
theorem rz_3 : (∀ z ∈ ([3] : List Int), 1 ≤ z) = True := by simp
theorem re_34 : flagsF [3, 4] = [(3, 0, 31), (4, 0, 31)] := by decide
theorem rz_34 : (∀ z ∈ ([3, 4] : List Int), 1 ≤ z) = True := by simp
theorem re_4 : flagsF [4] = [(4, 0, 31)] := by decide
theorem rz_4 : (∀ z ∈ ([4] : List Int), 1 ≤ z) = True := by simp
theorem rw1 : wiF [(1, 0, 1), (3, 0, 31)] ((7, -1048576, 1048575), (0, 0, 0), (0, 0, 0)) = limitsF 1 := by decide
theorem rl1 : limitsF 1 = [(1, 0, 1), (3, 0, 31), (7, -1048576, 1048575)] := by decide
theorem rw2 : wiF [(1, 0, 1), (2, 0, 1), (3, 0, 31), (4, 0, 31)] ((7, 0, 4095), (8, 0, 1), (9, 0, 1)) = limitsF 2 := by decide
theorem rl2 : limitsF 2 = [(1, 0, 1), (2, 0, 1), (3, 0, 31), (4, 0, 31), (7, 0, 4095), (8, 0, 1), (9, 0, 1)] := by decide
theorem rw3 : wiF [(1, 0, 1), (3, 0, 31), (4, 0, 31)] ((7, -9223372036854775808, 9223372036854775807), (8, 0, 3), (0, 0, 0)) = limitsF 3 := by decide
theorem rl3 : limitsF 3 = [(1, 0, 1), (3, 0, 31), (4, 0, 31), (7, -9223372036854775808, 9223372036854775807), (8, 0, 3)] := by decide
theorem rw4 : wiF [(1, 0, 1), (3, 0, 31)] ((7, 0, 65535), (8, 0, 3), (9, 0, 3)) = limitsF 4 := by decide
theorem rl4 : limitsF 4 = [(1, 0, 1), (3, 0, 31), (7, 0, 65535), (8, 0, 3), (9, 0, 3)] := by decide
theorem rw5 : wiF [(1, 0, 1), (3, 0, 31), (4, 0, 31)] ((7, 0, 63), (8, 0, 2), (9, 0, 63)) = limitsF 5 := by decide
theorem rl5 : limitsF 5 = [(1, 0, 1), (3, 0, 31), (4, 0, 31), (7, 0, 63), (8, 0, 2), (9, 0, 63)] := by decide
theorem rw6 : wiF [(1, 0, 1), (3, 0, 31), (4, 0, 31), (5, 0, 31)] ((7, 0, 63), (0, 0, 0), (0, 0, 0)) = limitsF 6 := by decide
theorem rl6 : limitsF 6 = [(1, 0, 1), (3, 0, 31), (4, 0, 31), (5, 0, 31), (7, 0, 63)] := by decide
theorem rw7 : wiF [] ((7, -262144, 262143), (8, 0, 15), (0, 0, 0)) = limitsF 7 := by decide
theorem rl7 : limitsF 7 = [(7, -262144, 262143), (8, 0, 15)] := by decide
theorem rw8 : wiF [(2, 0, 1)] ((7, -33554432, 33554431), (0, 0, 0), (0, 0, 0)) = limitsF 8 := by decide
theorem rl8 : limitsF 8 = [(2, 0, 1), (7, -33554432, 33554431)] := by decide
theorem rw9 : wiF [(1, 0, 1), (3, 0, 31)] ((7, -262144, 262143), (8, 0, 1), (0, 0, 0)) = limitsF 9 := by decide
theorem rl9 : limitsF 9 = [(1, 0, 1), (3, 0, 31), (7, -262144, 262143), (8, 0, 1)] := by decide
theorem rw10 : wiF [(3, 0, 31)] ((7, -8192, 8191), (8, 0, 1), (9, 0, 63)) = limitsF 10 := by decide
theorem rl10 : limitsF 10 = [(3, 0, 31), (7, -8192, 8191), (8, 0, 1), (9, 0, 63)] := by decide
theorem rw11 : wiF [(4, 0, 31)] ((0, 0, 0), (8, 0, 4), (0, 0, 0)) = limitsF 11 := by decide
theorem rl11 : limitsF 11 = [(4, 0, 31), (8, 0, 4)] := by decide
theorem rw12 : wiF [] ((7, 0, 65535), (8, 0, 7), (0, 0, 0)) = limitsF 12 := by decide
theorem rl12 : limitsF 12 = [(7, 0, 65535), (8, 0, 7)] := by decide
theorem rw13 : wiF [] ((7, 0, 127), (0, 0, 0), (0, 0, 0)) = limitsF 13 := by decide
theorem rl13 : limitsF 13 = [(7, 0, 127)] := by decide
theorem rw14 : wiF [] ((7, 0, 15), (8, 2, 6), (0, 0, 0)) = limitsF 14 := by decide
theorem rl14 : limitsF 14 = [(7, 0, 15), (8, 2, 6)] := by decide
theorem rw15 : wiF [(3, 0, 31)] ((7, 0, 32767), (8, 0, 1), (0, 0, 0)) = limitsF 15 := by decide
theorem rl15 : limitsF 15 = [(3, 0, 31), (7, 0, 32767), (8, 0, 1)] := by decide
theorem rw16 : wiF [] ((7, 0, 15), (8, 0, 5), (0, 0, 0)) = limitsF 16 := by decide
theorem rl16 : limitsF 16 = [(7, 0, 15), (8, 0, 5)] := by decide
theorem rw17 : wiF [(3, 0, 31)] ((7, 0, 16383), (8, 0, 1), (0, 0, 0)) = limitsF 17 := by decide
theorem rl17 : limitsF 17 = [(3, 0, 31), (7, 0, 16383), (8, 0, 1)] := by decide
theorem rw18 : wiF [(3, 0, 31)] ((7, -262144, 262143), (8, 0, 3), (0, 0, 0)) = limitsF 18 := by decide
theorem rl18 : limitsF 18 = [(3, 0, 31), (7, -262144, 262143), (8, 0, 3)] := by decide
theorem rw19 : wiF [(2, 0, 1), (3, 0, 31), (4, 0, 31), (6, 0, 31)] ((7, -64, 63), (8, 0, 2), (9, 0, 3)) = limitsF 19 := by decide
theorem rl19 : limitsF 19 = [(2, 0, 1), (3, 0, 31), (4, 0, 31), (6, 0, 31), (7, -64, 63), (8, 0, 2), (9, 0, 3)] := by decide
theorem rw20 : wiF [(3, 0, 31), (4, 0, 31)] ((7, 0, 4095), (8, 0, 3), (9, 0, 3)) = limitsF 20 := by decide
theorem rl20 : limitsF 20 = [(3, 0, 31), (4, 0, 31), (7, 0, 4095), (8, 0, 3), (9, 0, 3)] := by decide
theorem rw21 : wiF [(3, 0, 31), (4, 0, 31), (6, 0, 3)] ((7, -256, 255), (8, 0, 3), (9, 0, 3)) = limitsF 21 := by decide
theorem rl21 : limitsF 21 = [(3, 0, 31), (4, 0, 31), (6, 0, 3), (7, -256, 255), (8, 0, 3), (9, 0, 3)] := by decide
theorem rw22 : wiF [(2, 0, 1), (3, 0, 31), (4, 0, 31), (5, 0, 31)] ((7, 2, 7), (8, 0, 3), (9, 0, 3)) = limitsF 22 := by decide
theorem rl22 : limitsF 22 = [(2, 0, 1), (3, 0, 31), (4, 0, 31), (5, 0, 31), (7, 2, 7), (8, 0, 3), (9, 0, 3)] := by decide
theorem rw23 : wiF [(1, 0, 1), (2, 0, 1), (3, 0, 31), (4, 0, 31), (5, 0, 31), (6, 0, 31)] ((7, 0, 2), (8, 0, 3), (0, 0, 0)) = limitsF 23 := by decide
theorem rl23 : limitsF 23 = [(1, 0, 1), (2, 0, 1), (3, 0, 31), (4, 0, 31), (5, 0, 31), (6, 0, 31), (7, 0, 2), (8, 0, 3)] := by decide
theorem rw24 : wiF [(1, 0, 1), (2, 0, 1), (3, 0, 31), (4, 0, 31), (5, 0, 31)] ((7, 0, 63), (8, 0, 3), (9, 0, 3)) = limitsF 24 := by decide
theorem rl24 : limitsF 24 = [(1, 0, 1), (2, 0, 1), (3, 0, 31), (4, 0, 31), (5, 0, 31), (7, 0, 63), (8, 0, 3), (9, 0, 3)] := by decide
theorem rw25 : wiF [(1, 0, 1), (2, 0, 1), (3, 0, 31), (4, 0, 31), (5, 0, 31)] ((7, 0, 63), (8, 0, 1), (9, 0, 2)) = limitsF 25 := by decide
theorem rl25 : limitsF 25 = [(1, 0, 1), (2, 0, 1), (3, 0, 31), (4, 0, 31), (5, 0, 31), (7, 0, 63), (8, 0, 1), (9, 0, 2)] := by decide
theorem rw26 : wiF [(1, 0, 1), (2, 0, 1), (3, 0, 31), (4, 0, 31), (5, 0, 31)] ((7, 0, 4), (8, 0, 1), (9, 0, 7)) = limitsF 26 := by decide
theorem rl26 : limitsF 26 = [(1, 0, 1), (2, 0, 1), (3, 0, 31), (4, 0, 31), (5, 0, 31), (7, 0, 4), (8, 0, 1), (9, 0, 7)] := by decide
theorem rw27 : wiF [(1, 0, 1), (2, 0, 1), (3, 0, 31), (4, 0, 31), (5, 0, 31)] ((0, 0, 0), (8, 0, 1), (0, 0, 0)) = limitsF 27 := by decide
theorem rl27 : limitsF 27 = [(1, 0, 1), (2, 0, 1), (3, 0, 31), (4, 0, 31), (5, 0, 31), (8, 0, 1)] := by decide
theorem rw28 : wiF [(1, 0, 1), (2, 0, 1), (4, 0, 31), (5, 0, 31)] ((7, 0, 15), (8, 0, 1), (9, 0, 15)) = limitsF 28 := by decide
theorem rl28 : limitsF 28 = [(1, 0, 1), (2, 0, 1), (4, 0, 31), (5, 0, 31), (7, 0, 15), (8, 0, 1), (9, 0, 15)] := by decide
theorem rw29 : wiF [(1, 0, 1), (3, 0, 31), (4, 0, 31), (5, 0, 31)] ((7, 0, 15), (8, 0, 3), (0, 0, 0)) = limitsF 29 := by decide
theorem rl29 : limitsF 29 = [(1, 0, 1), (3, 0, 31), (4, 0, 31), (5, 0, 31), (7, 0, 15), (8, 0, 3)] := by decide
theorem rw30 : wiF [(1, 0, 1), (3, 0, 31), (4, 0, 31)] ((0, 0, 0), (8, 0, 5), (0, 0, 0)) = limitsF 30 := by decide
theorem rl30 : limitsF 30 = [(1, 0, 1), (3, 0, 31), (4, 0, 31), (8, 0, 5)] := by decide
theorem rw31 : wiF [(1, 0, 1), (3, 0, 31), (4, 0, 31), (5, 0, 31)] ((0, 0, 0), (8, 2, 23), (0, 0, 0)) = limitsF 31 := by decide
theorem rl31 : limitsF 31 = [(1, 0, 1), (3, 0, 31), (4, 0, 31), (5, 0, 31), (8, 2, 23)] := by decide
theorem rw32 : wiF [(1, 0, 1), (3, 0, 31), (4, 0, 31), (5, 0, 31), (6, 0, 31)] ((0, 0, 0), (8, 0, 7), (0, 0, 0)) = limitsF 32 := by decide
theorem rl32 : limitsF 32 = [(1, 0, 1), (3, 0, 31), (4, 0, 31), (5, 0, 31), (6, 0, 31), (8, 0, 7)] := by decide
attribute [local go_sem] limRow RowL.blk limL xw3 limR tLim outQ1 ra_run limV ra_pan decSl decLimL rc_run intRow decAll rwithN_pan decQ1 List.nil_append rb_pan rwith_pan List.map_cons rplain_run rlim_run rplain_pan runQ limsV gOf List.map_nil rc_pan rb_run rwithN_run xw0 List.filter_nil rwith_run rlim_pan decWN decIntL
set_option maxHeartbeats 4000000 in
theorem rlimits1 : SW Tryz.prog ⟨none, 0⟩ Tryz.f65.ntmps (Tryz.f65.body.getD .skip) ⟨0, zipT 0 [(tInt .i64).enc 1], []⟩ (outQ Tryz.prog Tryz.f65.results.toList (.ret (limsV (limitsF 1)))) := by
  refine aRun_sound (ctx := [⟨_, raS⟩]) 4000 ?_
  rw [Tryz.ntmps65, Tryz.results65]
  simp only [Tryz.f65, Option.getD_some, zipT]
  simp only [go_sem]
  refine sw_drawF (ctx := [⟨_, rplainS⟩, ⟨_, raS⟩, ⟨_, rbS⟩, ⟨_, rcS⟩, ⟨_, rlimS⟩, ⟨_, rwithS⟩]) mixed ⟨[5], [(1, [160])], [(3, [160]), (4, [160])]⟩ (by kernel_rfl) ?_
  simp only [go_sem, re_13, rz_13, rw1, rl1]
  all_goals first | (intro z hz; omega) | exact ⟨fun z hz => by omega, by unfold maxLen; omega⟩ | exact ⟨by unfold maxLen; omega, fun z hz => by omega⟩
set_option maxHeartbeats 4000000 in
theorem rlimits2 : SW Tryz.prog ⟨none, 0⟩ Tryz.f65.ntmps (Tryz.f65.body.getD .skip) ⟨0, zipT 0 [(tInt .i64).enc 2], []⟩ (outQ Tryz.prog Tryz.f65.results.toList (.ret (limsV (limitsF 2)))) := by
  refine aRun_sound (ctx := [⟨_, rplainS⟩, ⟨_, raS⟩, ⟨_, rbS⟩, ⟨_, rcS⟩, ⟨_, rlimS⟩, ⟨_, rwithS⟩]) 4000 ?_
  rw [Tryz.ntmps65, Tryz.results65]
  simp only [Tryz.f65, Option.getD_some, zipT]
  simp only [go_sem, re_1234, rz_1234, rw2, rl2]
  all_goals first | (intro z hz; omega) | exact ⟨fun z hz => by omega, by unfold maxLen; omega⟩ | exact ⟨by unfold maxLen; omega, fun z hz => by omega⟩
set_option maxHeartbeats 4000000 in
theorem rlimits3 : SW Tryz.prog ⟨none, 0⟩ Tryz.f65.ntmps (Tryz.f65.body.getD .skip) ⟨0, zipT 0 [(tInt .i64).enc 3], []⟩ (outQ Tryz.prog Tryz.f65.results.toList (.ret (limsV (limitsF 3)))) := by
  refine aRun_sound (ctx := [⟨_, raS⟩]) 4000 ?_
  rw [Tryz.ntmps65, Tryz.results65]
  simp only [Tryz.f65, Option.getD_some, zipT]
  simp only [go_sem]
  refine sw_drawF (ctx := [⟨_, rplainS⟩, ⟨_, raS⟩, ⟨_, rbS⟩, ⟨_, rcS⟩, ⟨_, rlimS⟩, ⟨_, rwithS⟩]) mixed ⟨[5], [(1, [224])], [(4, [224])]⟩ (by kernel_rfl) ?_
  simp only [go_sem, re_134, rz_134, rw3, rl3]
  all_goals first | (intro z hz; omega) | exact ⟨fun z hz => by omega, by unfold maxLen; omega⟩ | exact ⟨by unfold maxLen; omega, fun z hz => by omega⟩
set_option maxHeartbeats 4000000 in
theorem rlimits4 : SW Tryz.prog ⟨none, 0⟩ Tryz.f65.ntmps (Tryz.f65.body.getD .skip) ⟨0, zipT 0 [(tInt .i64).enc 4], []⟩ (outQ Tryz.prog Tryz.f65.results.toList (.ret (limsV (limitsF 4)))) := by
  refine aRun_sound (ctx := [⟨_, rplainS⟩, ⟨_, raS⟩, ⟨_, rbS⟩, ⟨_, rcS⟩, ⟨_, rlimS⟩, ⟨_, rwithS⟩]) 4000 ?_
  rw [Tryz.ntmps65, Tryz.results65]
  simp only [Tryz.f65, Option.getD_some, zipT]
  simp only [go_sem, re_13, rz_13, rw4, rl4]
  all_goals first | (intro z hz; omega) | exact ⟨fun z hz => by omega, by unfold maxLen; omega⟩ | exact ⟨by unfold maxLen; omega, fun z hz => by omega⟩
set_option maxHeartbeats 4000000 in
theorem rlimits5 : SW Tryz.prog ⟨none, 0⟩ Tryz.f65.ntmps (Tryz.f65.body.getD .skip) ⟨0, zipT 0 [(tInt .i64).enc 5], []⟩ (outQ Tryz.prog Tryz.f65.results.toList (.ret (limsV (limitsF 5)))) := by
  refine aRun_sound (ctx := [⟨_, rplainS⟩, ⟨_, raS⟩, ⟨_, rbS⟩, ⟨_, rcS⟩, ⟨_, rlimS⟩, ⟨_, rwithS⟩]) 4000 ?_
  rw [Tryz.ntmps65, Tryz.results65]
  simp only [Tryz.f65, Option.getD_some, zipT]
  simp only [go_sem, re_134, rz_134, rw5, rl5]
  all_goals first | (intro z hz; omega) | exact ⟨fun z hz => by omega, by unfold maxLen; omega⟩ | exact ⟨by unfold maxLen; omega, fun z hz => by omega⟩
set_option maxHeartbeats 4000000 in
theorem rlimits6 : SW Tryz.prog ⟨none, 0⟩ Tryz.f65.ntmps (Tryz.f65.body.getD .skip) ⟨0, zipT 0 [(tInt .i64).enc 6], []⟩ (outQ Tryz.prog Tryz.f65.results.toList (.ret (limsV (limitsF 6)))) := by
  refine aRun_sound (ctx := [⟨_, raS⟩]) 4000 ?_
  rw [Tryz.ntmps65, Tryz.results65]
  simp only [Tryz.f65, Option.getD_some, zipT]
  simp only [go_sem]
  refine sw_drawF (ctx := [⟨_, rplainS⟩, ⟨_, raS⟩, ⟨_, rbS⟩, ⟨_, rcS⟩, ⟨_, rlimS⟩, ⟨_, rwithS⟩]) mixed ⟨[5], [(1, [320])], [(3, [320]), (4, [320])]⟩ (by kernel_rfl) ?_
  simp only [go_sem, re_1345, rz_1345, rw6, rl6]
  all_goals first | (intro z hz; omega) | exact ⟨fun z hz => by omega, by unfold maxLen; omega⟩ | exact ⟨by unfold maxLen; omega, fun z hz => by omega⟩
set_option maxHeartbeats 4000000 in
theorem rlimits7 : SW Tryz.prog ⟨none, 0⟩ Tryz.f65.ntmps (Tryz.f65.body.getD .skip) ⟨0, zipT 0 [(tInt .i64).enc 7], []⟩ (outQ Tryz.prog Tryz.f65.results.toList (.ret (limsV (limitsF 7)))) := by
  refine aRun_sound (ctx := [⟨_, raS⟩]) 4000 ?_
  rw [Tryz.ntmps65, Tryz.results65]
  simp only [Tryz.f65, Option.getD_some, zipT]
  simp only [go_sem]
  refine sw_drawF (ctx := [⟨_, rplainS⟩, ⟨_, raS⟩, ⟨_, rbS⟩, ⟨_, rcS⟩, ⟨_, rlimS⟩, ⟨_, rwithNS⟩]) mixed ⟨[], [], []⟩ (by kernel_rfl) ?_
  simp only [go_sem, re_13, rz_13, rw7, rl7]
  all_goals first | (intro z hz; omega) | exact ⟨fun z hz => by omega, by unfold maxLen; omega⟩ | exact ⟨by unfold maxLen; omega, fun z hz => by omega⟩
set_option maxHeartbeats 4000000 in
theorem rlimits8 : SW Tryz.prog ⟨none, 0⟩ Tryz.f65.ntmps (Tryz.f65.body.getD .skip) ⟨0, zipT 0 [(tInt .i64).enc 8], []⟩ (outQ Tryz.prog Tryz.f65.results.toList (.ret (limsV (limitsF 8)))) := by
  refine aRun_sound (ctx := [⟨_, raS⟩]) 4000 ?_
  rw [Tryz.ntmps65, Tryz.results65]
  simp only [Tryz.f65, Option.getD_some, zipT]
  simp only [go_sem]
  refine sw_drawF (ctx := [⟨_, rplainS⟩, ⟨_, raS⟩, ⟨_, rbS⟩, ⟨_, rcS⟩, ⟨_, rlimS⟩, ⟨_, rwithS⟩]) mixed ⟨[5], [(1, [384])], [(3, [384]), (4, [384])]⟩ (by kernel_rfl) ?_
  simp only [go_sem, re_2, rz_2, rw8, rl8]
  all_goals first | (intro z hz; omega) | exact ⟨fun z hz => by omega, by unfold maxLen; omega⟩ | exact ⟨by unfold maxLen; omega, fun z hz => by omega⟩
set_option maxHeartbeats 4000000 in
theorem rlimits9 : SW Tryz.prog ⟨none, 0⟩ Tryz.f65.ntmps (Tryz.f65.body.getD .skip) ⟨0, zipT 0 [(tInt .i64).enc 9], []⟩ (outQ Tryz.prog Tryz.f65.results.toList (.ret (limsV (limitsF 9)))) := by
  refine aRun_sound (ctx := [⟨_, raS⟩]) 4000 ?_
  rw [Tryz.ntmps65, Tryz.results65]
  simp only [Tryz.f65, Option.getD_some, zipT]
  simp only [go_sem]
  refine sw_drawF (ctx := [⟨_, rplainS⟩, ⟨_, raS⟩, ⟨_, rbS⟩, ⟨_, rcS⟩, ⟨_, rlimS⟩, ⟨_, rwithS⟩]) mixed ⟨[5], [(1, [416])], [(2, [416]), (4, [416])]⟩ (by kernel_rfl) ?_
  simp only [go_sem, re_13, rz_13, rw9, rl9]
  all_goals first | (intro z hz; omega) | exact ⟨fun z hz => by omega, by unfold maxLen; omega⟩ | exact ⟨by unfold maxLen; omega, fun z hz => by omega⟩
set_option maxHeartbeats 4000000 in
theorem rlimits10 : SW Tryz.prog ⟨none, 0⟩ Tryz.f65.ntmps (Tryz.f65.body.getD .skip) ⟨0, zipT 0 [(tInt .i64).enc 10], []⟩ (outQ Tryz.prog Tryz.f65.results.toList (.ret (limsV (limitsF 10)))) := by
  refine aRun_sound (ctx := [⟨_, rplainS⟩, ⟨_, raS⟩, ⟨_, rbS⟩, ⟨_, rcS⟩, ⟨_, rlimS⟩, ⟨_, rwithS⟩]) 4000 ?_
  rw [Tryz.ntmps65, Tryz.results65]
  simp only [Tryz.f65, Option.getD_some, zipT]
  simp only [go_sem, re_3, rz_3, rw10, rl10]
  all_goals first | (intro z hz; omega) | exact ⟨fun z hz => by omega, by unfold maxLen; omega⟩ | exact ⟨by unfold maxLen; omega, fun z hz => by omega⟩
set_option maxHeartbeats 4000000 in
theorem rlimits11 : SW Tryz.prog ⟨none, 0⟩ Tryz.f65.ntmps (Tryz.f65.body.getD .skip) ⟨0, zipT 0 [(tInt .i64).enc 11], []⟩ (outQ Tryz.prog Tryz.f65.results.toList (.ret (limsV (limitsF 11)))) := by
  refine aRun_sound (ctx := [⟨_, raS⟩]) 4000 ?_
  rw [Tryz.ntmps65, Tryz.results65]
  simp only [Tryz.f65, Option.getD_some, zipT]
  simp only [go_sem]
  refine sw_drawF (ctx := [⟨_, rplainS⟩, ⟨_, raS⟩, ⟨_, rbS⟩, ⟨_, rcS⟩, ⟨_, rlimS⟩, ⟨_, rwithS⟩]) mixed ⟨[5], [(1, [480])], [(2, [480]), (4, [480])]⟩ (by kernel_rfl) ?_
  simp only [go_sem, re_4, rz_4, rw11, rl11]
  all_goals first | (intro z hz; omega) | exact ⟨fun z hz => by omega, by unfold maxLen; omega⟩ | exact ⟨by unfold maxLen; omega, fun z hz => by omega⟩
set_option maxHeartbeats 4000000 in
theorem rlimits12 : SW Tryz.prog ⟨none, 0⟩ Tryz.f65.ntmps (Tryz.f65.body.getD .skip) ⟨0, zipT 0 [(tInt .i64).enc 12], []⟩ (outQ Tryz.prog Tryz.f65.results.toList (.ret (limsV (limitsF 12)))) := by
  refine aRun_sound (ctx := [⟨_, raS⟩]) 4000 ?_
  rw [Tryz.ntmps65, Tryz.results65]
  simp only [Tryz.f65, Option.getD_some, zipT]
  simp only [go_sem]
  refine sw_drawF (ctx := [⟨_, rplainS⟩, ⟨_, raS⟩, ⟨_, rbS⟩, ⟨_, rcS⟩, ⟨_, rlimS⟩, ⟨_, rwithNS⟩]) mixed ⟨[], [], []⟩ (by kernel_rfl) ?_
  simp only [go_sem, re_13, rz_13, rw12, rl12]
  all_goals first | (intro z hz; omega) | exact ⟨fun z hz => by omega, by unfold maxLen; omega⟩ | exact ⟨by unfold maxLen; omega, fun z hz => by omega⟩
set_option maxHeartbeats 4000000 in
theorem rlimits13 : SW Tryz.prog ⟨none, 0⟩ Tryz.f65.ntmps (Tryz.f65.body.getD .skip) ⟨0, zipT 0 [(tInt .i64).enc 13], []⟩ (outQ Tryz.prog Tryz.f65.results.toList (.ret (limsV (limitsF 13)))) := by
  refine aRun_sound (ctx := [⟨_, raS⟩]) 4000 ?_
  rw [Tryz.ntmps65, Tryz.results65]
  simp only [Tryz.f65, Option.getD_some, zipT]
  simp only [go_sem]
  refine sw_drawF (ctx := [⟨_, rplainS⟩, ⟨_, raS⟩, ⟨_, rbS⟩, ⟨_, rcS⟩, ⟨_, rlimS⟩, ⟨_, rwithNS⟩]) mixed ⟨[], [], []⟩ (by kernel_rfl) ?_
  simp only [go_sem, re_13, rz_13, rw13, rl13]
  all_goals first | (intro z hz; omega) | exact ⟨fun z hz => by omega, by unfold maxLen; omega⟩ | exact ⟨by unfold maxLen; omega, fun z hz => by omega⟩
set_option maxHeartbeats 4000000 in
theorem rlimits14 : SW Tryz.prog ⟨none, 0⟩ Tryz.f65.ntmps (Tryz.f65.body.getD .skip) ⟨0, zipT 0 [(tInt .i64).enc 14], []⟩ (outQ Tryz.prog Tryz.f65.results.toList (.ret (limsV (limitsF 14)))) := by
  refine aRun_sound (ctx := [⟨_, raS⟩]) 4000 ?_
  rw [Tryz.ntmps65, Tryz.results65]
  simp only [Tryz.f65, Option.getD_some, zipT]
  simp only [go_sem]
  refine sw_drawF (ctx := [⟨_, rplainS⟩, ⟨_, raS⟩, ⟨_, rbS⟩, ⟨_, rcS⟩, ⟨_, rlimS⟩, ⟨_, rwithNS⟩]) mixed ⟨[], [], []⟩ (by kernel_rfl) ?_
  simp only [go_sem, re_13, rz_13, rw14, rl14]
  all_goals first | (intro z hz; omega) | exact ⟨fun z hz => by omega, by unfold maxLen; omega⟩ | exact ⟨by unfold maxLen; omega, fun z hz => by omega⟩
set_option maxHeartbeats 4000000 in
theorem rlimits15 : SW Tryz.prog ⟨none, 0⟩ Tryz.f65.ntmps (Tryz.f65.body.getD .skip) ⟨0, zipT 0 [(tInt .i64).enc 15], []⟩ (outQ Tryz.prog Tryz.f65.results.toList (.ret (limsV (limitsF 15)))) := by
  refine aRun_sound (ctx := [⟨_, raS⟩]) 4000 ?_
  rw [Tryz.ntmps65, Tryz.results65]
  simp only [Tryz.f65, Option.getD_some, zipT]
  simp only [go_sem]
  refine sw_drawF (ctx := [⟨_, rplainS⟩, ⟨_, raS⟩, ⟨_, rbS⟩, ⟨_, rcS⟩, ⟨_, rlimS⟩, ⟨_, rwithS⟩]) mixed ⟨[5], [(1, [608])], [(4, [608])]⟩ (by kernel_rfl) ?_
  simp only [go_sem, re_3, rz_3, rw15, rl15]
  all_goals first | (intro z hz; omega) | exact ⟨fun z hz => by omega, by unfold maxLen; omega⟩ | exact ⟨by unfold maxLen; omega, fun z hz => by omega⟩
set_option maxHeartbeats 4000000 in
theorem rlimits16 : SW Tryz.prog ⟨none, 0⟩ Tryz.f65.ntmps (Tryz.f65.body.getD .skip) ⟨0, zipT 0 [(tInt .i64).enc 16], []⟩ (outQ Tryz.prog Tryz.f65.results.toList (.ret (limsV (limitsF 16)))) := by
  refine aRun_sound (ctx := [⟨_, raS⟩]) 4000 ?_
  rw [Tryz.ntmps65, Tryz.results65]
  simp only [Tryz.f65, Option.getD_some, zipT]
  simp only [go_sem]
  refine sw_drawF (ctx := [⟨_, rplainS⟩, ⟨_, raS⟩, ⟨_, rbS⟩, ⟨_, rcS⟩, ⟨_, rlimS⟩, ⟨_, rwithNS⟩]) mixed ⟨[], [], []⟩ (by kernel_rfl) ?_
  simp only [go_sem, re_13, rz_13, rw16, rl16]
  all_goals first | (intro z hz; omega) | exact ⟨fun z hz => by omega, by unfold maxLen; omega⟩ | exact ⟨by unfold maxLen; omega, fun z hz => by omega⟩
set_option maxHeartbeats 4000000 in
theorem rlimits17 : SW Tryz.prog ⟨none, 0⟩ Tryz.f65.ntmps (Tryz.f65.body.getD .skip) ⟨0, zipT 0 [(tInt .i64).enc 17], []⟩ (outQ Tryz.prog Tryz.f65.results.toList (.ret (limsV (limitsF 17)))) := by
  refine aRun_sound (ctx := [⟨_, raS⟩]) 4000 ?_
  rw [Tryz.ntmps65, Tryz.results65]
  simp only [Tryz.f65, Option.getD_some, zipT]
  simp only [go_sem]
  refine sw_drawF (ctx := [⟨_, rplainS⟩, ⟨_, raS⟩, ⟨_, rbS⟩, ⟨_, rcS⟩, ⟨_, rlimS⟩, ⟨_, rwithS⟩]) mixed ⟨[5], [(1, [672])], [(4, [672])]⟩ (by kernel_rfl) ?_
  simp only [go_sem, re_3, rz_3, rw17, rl17]
  all_goals first | (intro z hz; omega) | exact ⟨fun z hz => by omega, by unfold maxLen; omega⟩ | exact ⟨by unfold maxLen; omega, fun z hz => by omega⟩
set_option maxHeartbeats 4000000 in
theorem rlimits18 : SW Tryz.prog ⟨none, 0⟩ Tryz.f137.ntmps (Tryz.f137.body.getD .skip) ⟨0, zipT 0 [(tInt .i64).enc 18], []⟩ (outQ Tryz.prog Tryz.f137.results.toList (.ret (limsV (limitsF 18)))) := by
  refine aRun_sound (ctx := [⟨_, raS⟩]) 4000 ?_
  rw [Tryz.ntmps137, Tryz.results137]
  simp only [Tryz.f137, Option.getD_some, zipT]
  simp only [go_sem]
  refine sw_drawF (ctx := [⟨_, rplainS⟩, ⟨_, raS⟩, ⟨_, rbS⟩, ⟨_, rcS⟩, ⟨_, rlimS⟩, ⟨_, rwithS⟩]) mixed ⟨[5], [(1, [144])], [(4, [144])]⟩ (by kernel_rfl) ?_
  simp only [go_sem, re_3, rz_3, rw18, rl18]
  all_goals first | (intro z hz; omega) | exact ⟨fun z hz => by omega, by unfold maxLen; omega⟩ | exact ⟨by unfold maxLen; omega, fun z hz => by omega⟩
set_option maxHeartbeats 4000000 in
theorem rlimits19 : SW Tryz.prog ⟨none, 0⟩ Tryz.f137.ntmps (Tryz.f137.body.getD .skip) ⟨0, zipT 0 [(tInt .i64).enc 19], []⟩ (outQ Tryz.prog Tryz.f137.results.toList (.ret (limsV (limitsF 19)))) := by
  refine aRun_sound (ctx := [⟨_, rplainS⟩, ⟨_, raS⟩, ⟨_, rbS⟩, ⟨_, rcS⟩, ⟨_, rlimS⟩, ⟨_, rwithS⟩]) 4000 ?_
  rw [Tryz.ntmps137, Tryz.results137]
  simp only [Tryz.f137, Option.getD_some, zipT]
  simp only [go_sem, re_2346, rz_2346, rw19, rl19]
  all_goals first | (intro z hz; omega) | exact ⟨fun z hz => by omega, by unfold maxLen; omega⟩ | exact ⟨by unfold maxLen; omega, fun z hz => by omega⟩
set_option maxHeartbeats 4000000 in
theorem rlimits20 : SW Tryz.prog ⟨none, 0⟩ Tryz.f137.ntmps (Tryz.f137.body.getD .skip) ⟨0, zipT 0 [(tInt .i64).enc 20], []⟩ (outQ Tryz.prog Tryz.f137.results.toList (.ret (limsV (limitsF 20)))) := by
  refine aRun_sound (ctx := [⟨_, rplainS⟩, ⟨_, raS⟩, ⟨_, rbS⟩, ⟨_, rcS⟩, ⟨_, rlimS⟩, ⟨_, rwithS⟩]) 4000 ?_
  rw [Tryz.ntmps137, Tryz.results137]
  simp only [Tryz.f137, Option.getD_some, zipT]
  simp only [go_sem, re_34, rz_34, rw20, rl20]
  all_goals first | (intro z hz; omega) | exact ⟨fun z hz => by omega, by unfold maxLen; omega⟩ | exact ⟨by unfold maxLen; omega, fun z hz => by omega⟩
set_option maxHeartbeats 4000000 in
theorem rlimits21 : SW Tryz.prog ⟨none, 0⟩ Tryz.f137.ntmps (Tryz.f137.body.getD .skip) ⟨0, zipT 0 [(tInt .i64).enc 21], []⟩ (outQ Tryz.prog Tryz.f137.results.toList (.ret (limsV (limitsF 21)))) := by
  refine aRun_sound (ctx := [⟨_, rplainS⟩, ⟨_, raS⟩, ⟨_, rbS⟩, ⟨_, rcS⟩, ⟨_, rlimS⟩, ⟨_, rwithS⟩]) 4000 ?_
  rw [Tryz.ntmps137, Tryz.results137]
  simp only [Tryz.f137, Option.getD_some, zipT]
  simp only [go_sem, re_34, rz_34, rw21, rl21]
  all_goals first | (intro z hz; omega) | exact ⟨fun z hz => by omega, by unfold maxLen; omega⟩ | exact ⟨by unfold maxLen; omega, fun z hz => by omega⟩
set_option maxHeartbeats 4000000 in
theorem rlimits22 : SW Tryz.prog ⟨none, 0⟩ Tryz.f137.ntmps (Tryz.f137.body.getD .skip) ⟨0, zipT 0 [(tInt .i64).enc 22], []⟩ (outQ Tryz.prog Tryz.f137.results.toList (.ret (limsV (limitsF 22)))) := by
  refine aRun_sound (ctx := [⟨_, rplainS⟩, ⟨_, raS⟩, ⟨_, rbS⟩, ⟨_, rcS⟩, ⟨_, rlimS⟩, ⟨_, rwithS⟩]) 4000 ?_
  rw [Tryz.ntmps137, Tryz.results137]
  simp only [Tryz.f137, Option.getD_some, zipT]
  simp only [go_sem, re_2345, rz_2345, rw22, rl22]
  all_goals first | (intro z hz; omega) | exact ⟨fun z hz => by omega, by unfold maxLen; omega⟩ | exact ⟨by unfold maxLen; omega, fun z hz => by omega⟩
set_option maxHeartbeats 4000000 in
theorem rlimits23 : SW Tryz.prog ⟨none, 0⟩ Tryz.f137.ntmps (Tryz.f137.body.getD .skip) ⟨0, zipT 0 [(tInt .i64).enc 23], []⟩ (outQ Tryz.prog Tryz.f137.results.toList (.ret (limsV (limitsF 23)))) := by
  refine aRun_sound (ctx := [⟨_, raS⟩]) 4000 ?_
  rw [Tryz.ntmps137, Tryz.results137]
  simp only [Tryz.f137, Option.getD_some, zipT]
  simp only [go_sem]
  refine sw_drawF (ctx := [⟨_, rplainS⟩, ⟨_, raS⟩, ⟨_, rbS⟩, ⟨_, rcS⟩, ⟨_, rlimS⟩, ⟨_, rwithS⟩]) mixed ⟨[7], [(2, [64, 320]), (3, [336])], [(6, [64, 320, 336])]⟩ (by kernel_rfl) ?_
  simp only [go_sem, re_123456, rz_123456, re_12345, rz_12345, rw23, rl23]
  all_goals first | (intro z hz; omega) | exact ⟨fun z hz => by omega, by unfold maxLen; omega⟩ | exact ⟨by unfold maxLen; omega, fun z hz => by omega⟩
set_option maxHeartbeats 4000000 in
theorem rlimits24 : SW Tryz.prog ⟨none, 0⟩ Tryz.f137.ntmps (Tryz.f137.body.getD .skip) ⟨0, zipT 0 [(tInt .i64).enc 24], []⟩ (outQ Tryz.prog Tryz.f137.results.toList (.ret (limsV (limitsF 24)))) := by
  refine aRun_sound (ctx := [⟨_, rplainS⟩, ⟨_, raS⟩, ⟨_, rbS⟩, ⟨_, rcS⟩, ⟨_, rlimS⟩, ⟨_, rwithS⟩]) 4000 ?_
  rw [Tryz.ntmps137, Tryz.results137]
  simp only [Tryz.f137, Option.getD_some, zipT]
  simp only [go_sem, re_12345, rz_12345, rw24, rl24]
  all_goals first | (intro z hz; omega) | exact ⟨fun z hz => by omega, by unfold maxLen; omega⟩ | exact ⟨by unfold maxLen; omega, fun z hz => by omega⟩
set_option maxHeartbeats 4000000 in
theorem rlimits25 : SW Tryz.prog ⟨none, 0⟩ Tryz.f137.ntmps (Tryz.f137.body.getD .skip) ⟨0, zipT 0 [(tInt .i64).enc 25], []⟩ (outQ Tryz.prog Tryz.f137.results.toList (.ret (limsV (limitsF 25)))) := by
  refine aRun_sound (ctx := [⟨_, rplainS⟩, ⟨_, raS⟩, ⟨_, rbS⟩, ⟨_, rcS⟩, ⟨_, rlimS⟩, ⟨_, rwithS⟩]) 4000 ?_
  rw [Tryz.ntmps137, Tryz.results137]
  simp only [Tryz.f137, Option.getD_some, zipT]
  simp only [go_sem, re_12345, rz_12345, rw25, rl25]
  all_goals first | (intro z hz; omega) | exact ⟨fun z hz => by omega, by unfold maxLen; omega⟩ | exact ⟨by unfold maxLen; omega, fun z hz => by omega⟩
set_option maxHeartbeats 4000000 in
theorem rlimits26 : SW Tryz.prog ⟨none, 0⟩ Tryz.f137.ntmps (Tryz.f137.body.getD .skip) ⟨0, zipT 0 [(tInt .i64).enc 26], []⟩ (outQ Tryz.prog Tryz.f137.results.toList (.ret (limsV (limitsF 26)))) := by
  refine aRun_sound (ctx := [⟨_, rplainS⟩, ⟨_, raS⟩, ⟨_, rbS⟩, ⟨_, rcS⟩, ⟨_, rlimS⟩, ⟨_, rwithS⟩]) 4000 ?_
  rw [Tryz.ntmps137, Tryz.results137]
  simp only [Tryz.f137, Option.getD_some, zipT]
  simp only [go_sem, re_12345, rz_12345, rw26, rl26]
  all_goals first | (intro z hz; omega) | exact ⟨fun z hz => by omega, by unfold maxLen; omega⟩ | exact ⟨by unfold maxLen; omega, fun z hz => by omega⟩
set_option maxHeartbeats 4000000 in
theorem rlimits27 : SW Tryz.prog ⟨none, 0⟩ Tryz.f137.ntmps (Tryz.f137.body.getD .skip) ⟨0, zipT 0 [(tInt .i64).enc 27], []⟩ (outQ Tryz.prog Tryz.f137.results.toList (.ret (limsV (limitsF 27)))) := by
  refine aRun_sound (ctx := [⟨_, raS⟩]) 4000 ?_
  rw [Tryz.ntmps137, Tryz.results137]
  simp only [Tryz.f137, Option.getD_some, zipT]
  simp only [go_sem]
  refine sw_drawF (ctx := [⟨_, rplainS⟩, ⟨_, raS⟩, ⟨_, rbS⟩, ⟨_, rcS⟩, ⟨_, rlimS⟩, ⟨_, rwithS⟩]) mixed ⟨[5], [(1, [64])], [(2, [64]), (4, [64])]⟩ (by kernel_rfl) ?_
  simp only [go_sem, re_12345, rz_12345, rw27, rl27]
  all_goals first | (intro z hz; omega) | exact ⟨fun z hz => by omega, by unfold maxLen; omega⟩ | exact ⟨by unfold maxLen; omega, fun z hz => by omega⟩
set_option maxHeartbeats 4000000 in
theorem rlimits28 : SW Tryz.prog ⟨none, 0⟩ Tryz.f137.ntmps (Tryz.f137.body.getD .skip) ⟨0, zipT 0 [(tInt .i64).enc 28], []⟩ (outQ Tryz.prog Tryz.f137.results.toList (.ret (limsV (limitsF 28)))) := by
  refine aRun_sound (ctx := [⟨_, rplainS⟩, ⟨_, raS⟩, ⟨_, rbS⟩, ⟨_, rcS⟩, ⟨_, rlimS⟩, ⟨_, rwithS⟩]) 4000 ?_
  rw [Tryz.ntmps137, Tryz.results137]
  simp only [Tryz.f137, Option.getD_some, zipT]
  simp only [go_sem, re_1245, rz_1245, rw28, rl28]
  all_goals first | (intro z hz; omega) | exact ⟨fun z hz => by omega, by unfold maxLen; omega⟩ | exact ⟨by unfold maxLen; omega, fun z hz => by omega⟩
set_option maxHeartbeats 4000000 in
theorem rlimits29 : SW Tryz.prog ⟨none, 0⟩ Tryz.f137.ntmps (Tryz.f137.body.getD .skip) ⟨0, zipT 0 [(tInt .i64).enc 29], []⟩ (outQ Tryz.prog Tryz.f137.results.toList (.ret (limsV (limitsF 29)))) := by
  refine aRun_sound (ctx := [⟨_, raS⟩]) 4000 ?_
  rw [Tryz.ntmps137, Tryz.results137]
  simp only [Tryz.f137, Option.getD_some, zipT]
  simp only [go_sem]
  refine sw_drawF (ctx := [⟨_, rplainS⟩, ⟨_, raS⟩, ⟨_, rbS⟩, ⟨_, rcS⟩, ⟨_, rlimS⟩, ⟨_, rwithS⟩]) mixed ⟨[5], [(1, [496])], [(4, [496])]⟩ (by kernel_rfl) ?_
  simp only [go_sem, re_1345, rz_1345, rw29, rl29]
  all_goals first | (intro z hz; omega) | exact ⟨fun z hz => by omega, by unfold maxLen; omega⟩ | exact ⟨by unfold maxLen; omega, fun z hz => by omega⟩
set_option maxHeartbeats 4000000 in
theorem rlimits30 : SW Tryz.prog ⟨none, 0⟩ Tryz.f137.ntmps (Tryz.f137.body.getD .skip) ⟨0, zipT 0 [(tInt .i64).enc 30], []⟩ (outQ Tryz.prog Tryz.f137.results.toList (.ret (limsV (limitsF 30)))) := by
  refine aRun_sound (ctx := [⟨_, raS⟩]) 4000 ?_
  rw [Tryz.ntmps137, Tryz.results137]
  simp only [Tryz.f137, Option.getD_some, zipT]
  simp only [go_sem]
  refine sw_drawF (ctx := [⟨_, rplainS⟩, ⟨_, raS⟩, ⟨_, rbS⟩, ⟨_, rcS⟩, ⟨_, rlimS⟩, ⟨_, rwithS⟩]) mixed ⟨[5], [(1, [528])], [(2, [528]), (4, [528])]⟩ (by kernel_rfl) ?_
  simp only [go_sem, re_134, rz_134, rw30, rl30]
  all_goals first | (intro z hz; omega) | exact ⟨fun z hz => by omega, by unfold maxLen; omega⟩ | exact ⟨by unfold maxLen; omega, fun z hz => by omega⟩
set_option maxHeartbeats 4000000 in
theorem rlimits31 : SW Tryz.prog ⟨none, 0⟩ Tryz.f137.ntmps (Tryz.f137.body.getD .skip) ⟨0, zipT 0 [(tInt .i64).enc 31], []⟩ (outQ Tryz.prog Tryz.f137.results.toList (.ret (limsV (limitsF 31)))) := by
  refine aRun_sound (ctx := [⟨_, raS⟩]) 4000 ?_
  rw [Tryz.ntmps137, Tryz.results137]
  simp only [Tryz.f137, Option.getD_some, zipT]
  simp only [go_sem]
  refine sw_drawF (ctx := [⟨_, rplainS⟩, ⟨_, raS⟩, ⟨_, rbS⟩, ⟨_, rcS⟩, ⟨_, rlimS⟩, ⟨_, rwithS⟩]) mixed ⟨[5], [(1, [560])], [(2, [560]), (4, [560])]⟩ (by kernel_rfl) ?_
  simp only [go_sem, re_1345, rz_1345, rw31, rl31]
  all_goals first | (intro z hz; omega) | exact ⟨fun z hz => by omega, by unfold maxLen; omega⟩ | exact ⟨by unfold maxLen; omega, fun z hz => by omega⟩
set_option maxHeartbeats 4000000 in
theorem rlimits32 : SW Tryz.prog ⟨none, 0⟩ Tryz.f137.ntmps (Tryz.f137.body.getD .skip) ⟨0, zipT 0 [(tInt .i64).enc 32], []⟩ (outQ Tryz.prog Tryz.f137.results.toList (.ret (limsV (limitsF 32)))) := by
  refine aRun_sound (ctx := [⟨_, raS⟩]) 4000 ?_
  rw [Tryz.ntmps137, Tryz.results137]
  simp only [Tryz.f137, Option.getD_some, zipT]
  simp only [go_sem]
  refine sw_drawF (ctx := [⟨_, rplainS⟩, ⟨_, raS⟩, ⟨_, rbS⟩, ⟨_, rcS⟩, ⟨_, rlimS⟩, ⟨_, rwithS⟩]) mixed ⟨[5], [(1, [592])], [(2, [592]), (4, [592])]⟩ (by kernel_rfl) ?_
  simp only [go_sem, re_13456, rz_13456, rw32, rl32]
  all_goals first | (intro z hz; omega) | exact ⟨fun z hz => by omega, by unfold maxLen; omega⟩ | exact ⟨by unfold maxLen; omega, fun z hz => by omega⟩
set_option maxHeartbeats 4000000 in
theorem rmore_none {op : Int} (h : op < 1 ∨ 32 < op) : SW Tryz.prog ⟨none, 0⟩ Tryz.f137.ntmps (Tryz.f137.body.getD .skip) ⟨0, zipT 0 [(tInt .i64).enc op], []⟩ (outQ Tryz.prog Tryz.f137.results.toList (.ret nilS)) := by
  refine aRun_sound (ctx := []) 4000 ?_
  rw [Tryz.ntmps137, Tryz.results137]
  simp only [Tryz.f137, Option.getD_some, zipT]
  have b18 : (op == 18) = false := by
    simp only [beq_eq_false_iff_ne, ne_eq]
    omega
  have b19 : (op == 19) = false := by
    simp only [beq_eq_false_iff_ne, ne_eq]
    omega
  have b20 : (op == 20) = false := by
    simp only [beq_eq_false_iff_ne, ne_eq]
    omega
  have b21 : (op == 21) = false := by
    simp only [beq_eq_false_iff_ne, ne_eq]
    omega
  have b22 : (op == 22) = false := by
    simp only [beq_eq_false_iff_ne, ne_eq]
    omega
  have b23 : (op == 23) = false := by
    simp only [beq_eq_false_iff_ne, ne_eq]
    omega
  have b24 : (op == 24) = false := by
    simp only [beq_eq_false_iff_ne, ne_eq]
    omega
  have b25 : (op == 25) = false := by
    simp only [beq_eq_false_iff_ne, ne_eq]
    omega
  have b26 : (op == 26) = false := by
    simp only [beq_eq_false_iff_ne, ne_eq]
    omega
  have b27 : (op == 27) = false := by
    simp only [beq_eq_false_iff_ne, ne_eq]
    omega
  have b28 : (op == 28) = false := by
    simp only [beq_eq_false_iff_ne, ne_eq]
    omega
  have b29 : (op == 29) = false := by
    simp only [beq_eq_false_iff_ne, ne_eq]
    omega
  have b30 : (op == 30) = false := by
    simp only [beq_eq_false_iff_ne, ne_eq]
    omega
  have b31 : (op == 31) = false := by
    simp only [beq_eq_false_iff_ne, ne_eq]
    omega
  have b32 : (op == 32) = false := by
    simp only [beq_eq_false_iff_ne, ne_eq]
    omega
  simp only [go_sem, b18, b19, b20, b21, b22, b23, b24, b25, b26, b27, b28, b29, b30, b31, b32, nilS]
theorem en_rmore (args : Array Value) (w : World) : (callFunc 137 args).run Tryz.prog w = .ok (.enter 137 args) w := by go_simp
def rmoreS : Spec Tryz.prog 137 :=
  mk1 _ _ _ Tryz.func137 rfl en_rmore (tInt .i64) ((fun op => op < 1 ∨ 17 < op)) ((fun op => .ret (limsO op))) (by rw [Tryz.ntmps137]; decide) (fun op h => by
  by_cases hq : 18 ≤ op ∧ op ≤ 32
  · have e : limsO op = limsV (limitsF op) := by unfold limsO; rw [if_pos (by omega)]
    rw [e]
    have : op = 18 ∨ op = 19 ∨ op = 20 ∨ op = 21 ∨ op = 22 ∨ op = 23 ∨ op = 24 ∨ op = 25 ∨ op = 26 ∨ op = 27 ∨ op = 28 ∨ op = 29 ∨ op = 30 ∨ op = 31 ∨ op = 32 := by omega
    rcases this with rfl | rfl | rfl | rfl | rfl | rfl | rfl | rfl | rfl | rfl | rfl | rfl | rfl | rfl | rfl
    · exact rlimits18
    · exact rlimits19
    · exact rlimits20
    · exact rlimits21
    · exact rlimits22
    · exact rlimits23
    · exact rlimits24
    · exact rlimits25
    · exact rlimits26
    · exact rlimits27
    · exact rlimits28
    · exact rlimits29
    · exact rlimits30
    · exact rlimits31
    · exact rlimits32
  · have e : limsO op = nilS := by unfold limsO; rw [if_neg (by omega)]
    rw [e]
    exact rmore_none (by omega))
theorem rmore_run {id : Nat} {h : Heap} {args : List AV} : (rmoreS).run id h args = runP (args1 (tInt .i64) ((fun op => op < 1 ∨ 17 < op))) ((fun op => .ret (limsO op))) h args := rfl
theorem rmore_pan {id : Nat} {h : Heap} {args : List AV} : (rmoreS).pan id h args = panP (args1 (tInt .i64) ((fun op => op < 1 ∨ 17 < op))) ((fun op => .ret (limsO op))) h args := rfl
set_option maxHeartbeats 4000000 in
theorem rlimits_more (op : Int) (h : op < 1 ∨ 17 < op) : SW Tryz.prog ⟨none, 0⟩ Tryz.f65.ntmps (Tryz.f65.body.getD .skip) ⟨0, zipT 0 [(tInt .i64).enc op], []⟩ (outQ Tryz.prog Tryz.f65.results.toList (.ret (limsO op))) := by
  refine aRun_sound (ctx := [⟨_, raS⟩, ⟨_, rmoreS⟩]) 4000 ?_
  rw [Tryz.ntmps65, Tryz.results65]
  simp only [Tryz.f65, Option.getD_some, zipT]
  have b1 : (op == 1) = false := by
    simp only [beq_eq_false_iff_ne, ne_eq]
    omega
  have b2 : (op == 2) = false := by
    simp only [beq_eq_false_iff_ne, ne_eq]
    omega
  have b3 : (op == 3) = false := by
    simp only [beq_eq_false_iff_ne, ne_eq]
    omega
  have b4 : (op == 4) = false := by
    simp only [beq_eq_false_iff_ne, ne_eq]
    omega
  have b5 : (op == 5) = false := by
    simp only [beq_eq_false_iff_ne, ne_eq]
    omega
  have b6 : (op == 6) = false := by
    simp only [beq_eq_false_iff_ne, ne_eq]
    omega
  have b7 : (op == 7) = false := by
    simp only [beq_eq_false_iff_ne, ne_eq]
    omega
  have b8 : (op == 8) = false := by
    simp only [beq_eq_false_iff_ne, ne_eq]
    omega
  have b9 : (op == 9) = false := by
    simp only [beq_eq_false_iff_ne, ne_eq]
    omega
  have b10 : (op == 10) = false := by
    simp only [beq_eq_false_iff_ne, ne_eq]
    omega
  have b11 : (op == 11) = false := by
    simp only [beq_eq_false_iff_ne, ne_eq]
    omega
  have b12 : (op == 12) = false := by
    simp only [beq_eq_false_iff_ne, ne_eq]
    omega
  have b13 : (op == 13) = false := by
    simp only [beq_eq_false_iff_ne, ne_eq]
    omega
  have b14 : (op == 14) = false := by
    simp only [beq_eq_false_iff_ne, ne_eq]
    omega
  have b15 : (op == 15) = false := by
    simp only [beq_eq_false_iff_ne, ne_eq]
    omega
  have b16 : (op == 16) = false := by
    simp only [beq_eq_false_iff_ne, ne_eq]
    omega
  have b17 : (op == 17) = false := by
    simp only [beq_eq_false_iff_ne, ne_eq]
    omega
  by_cases h2 : 1 ≤ op ∧ op ≤ 32
  · have e : limsO op = limsV (limitsF op) := by unfold limsO; rw [if_pos h2]
    rw [e]
    simp only [go_sem, b1, b2, b3, b4, b5, b6, b7, b8, b9, b10, b11, b12, b13, b14, b15, b16, b17, rmore_run, rmore_pan, h, e]
  · have e : limsO op = nilS := by unfold limsO; rw [if_neg h2]
    rw [e]
    simp only [go_sem, b1, b2, b3, b4, b5, b6, b7, b8, b9, b10, b11, b12, b13, b14, b15, b16, b17, rmore_run, rmore_pan, h, e, nilS]
theorem en_rlimits (args : Array Value) (w : World) : (callFunc 65 args).run Tryz.prog w = .ok (.enter 65 args) w := by go_simp
def rlimitsS : Spec Tryz.prog 65 :=
  mk1 _ _ _ Tryz.func65 rfl en_rlimits (tInt .i64) ((fun _ => True)) ((fun op => .ret (limsO op))) (by rw [Tryz.ntmps65]; decide) (fun op _ => by
  by_cases hq : 1 ≤ op ∧ op ≤ 17
  · have e : limsO op = limsV (limitsF op) := by unfold limsO; rw [if_pos (by omega)]
    rw [e]
    have : op = 1 ∨ op = 2 ∨ op = 3 ∨ op = 4 ∨ op = 5 ∨ op = 6 ∨ op = 7 ∨ op = 8 ∨ op = 9 ∨ op = 10 ∨ op = 11 ∨ op = 12 ∨ op = 13 ∨ op = 14 ∨ op = 15 ∨ op = 16 ∨ op = 17 := by omega
    rcases this with rfl | rfl | rfl | rfl | rfl | rfl | rfl | rfl | rfl | rfl | rfl | rfl | rfl | rfl | rfl | rfl | rfl
    · exact rlimits1
    · exact rlimits2
    · exact rlimits3
    · exact rlimits4
    · exact rlimits5
    · exact rlimits6
    · exact rlimits7
    · exact rlimits8
    · exact rlimits9
    · exact rlimits10
    · exact rlimits11
    · exact rlimits12
    · exact rlimits13
    · exact rlimits14
    · exact rlimits15
    · exact rlimits16
    · exact rlimits17
  · exact rlimits_more op (by omega))
theorem rlimits_run {id : Nat} {h : Heap} {args : List AV} : (rlimitsS).run id h args = runP (args1 (tInt .i64) ((fun _ => True))) ((fun op => .ret (limsO op))) h args := rfl
theorem rlimits_pan {id : Nat} {h : Heap} {args : List AV} : (rlimitsS).pan id h args = panP (args1 (tInt .i64) ((fun _ => True))) ((fun op => .ret (limsO op))) h args := rfl

end Go.Proofs.YtpjlafmhoifkmaaGreat
