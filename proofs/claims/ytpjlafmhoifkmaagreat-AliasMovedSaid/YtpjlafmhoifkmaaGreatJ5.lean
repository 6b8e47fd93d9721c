/- Instructions as lines: line, as a Spec. -/
import Derived.Test.YtpjlafmhoifkmaaGreatJ4
set_option linter.unusedVariables false
set_option linter.unusedSimpArgs false
namespace Go.Proofs.YtpjlafmhoifkmaaGreat
open Go.RowKit
set_option maxRecDepth 100000

/-- which step a function is -/
structure StTab where
  at_ : FuncId → Option Stp
  ok : ∀ {g : FuncId} {st : Stp}, at_ g = some st → st.g = g

def decStep (T : StTab) (b : Nat) : List LV → Option Stp
  | [.bf g [b'] []] => if b' = b then T.at_ g else none
  | _ => none
theorem decStep_inv {T : StTab} {b : Nat} {c : List LV} {st : Stp} (h : decStep T b c = some st) : c = stepL b st := by
  unfold decStep at h
  split at h
  · split at h
    case isFalse => cases h
    rename_i g b' e
    subst e
    rw [stepL, T.ok h]
  · cases h

def lineQ (x : Ins) (S : List Stp) (l : List OpV) : Prop := stepsQ x S l ∧ S.length ≤ 1000
def decLn (T : StTab) (h : Heap) : List AV → Option (Prop × List Nat × (ByteArray × List Stp × (Ins × ByteArray × List OpV)))
  | [A, .s (.l (.v (.string nm))), .s (.l (.sl sb 0 n))] => match decWr h A with
    | some ([b, tb], x, nm0, l) => match hget h sb with
      | some ⟨true, Tt, 1, rows⟩ => match decAll (decStep T b) rows with
        | some S => if Tt = 1 ∧ n = S.length ∧ sb ≠ b ∧ sb ≠ tb then some (lineQ x S l, [b, tb, sb], (nm, S, (x, nm0, l))) else none
        | none => none
      | _ => none
    | _ => none
  | _ => none
theorem decLn_ok {T : StTab} {h : Heap} {zs : List AV} {q : Prop} {bs : List Nat} {nm : ByteArray} {S : List Stp} {x : Ins} {nm0 : ByteArray} {l : List OpV} (hd : decLn T h zs = some (q, bs, nm, S, x, nm0, l)) :
    ∃ b tb sb, zs = [.s (.l (.p b 0 0)), sv nm, .s (.l (.sl sb 0 S.length))] ∧ bs = [b, tb, sb] ∧ b ≠ tb ∧ sb ≠ b ∧ sb ≠ tb ∧ hget h b = some (wrK x nm0 l.length tb) ∧ hget h tb = some (opsK l) ∧ hget h sb = some (stepsK b S) ∧ q = lineQ x S l := by
  unfold decLn at hd
  split at hd
  case h_2 => cases hd
  rename_i A nm' sb n
  split at hd
  case h_2 => cases hd
  rename_i b tb x' nm0' l' hw
  split at hd
  case h_2 => cases hd
  rename_i Tt rows hs
  split at hd
  case h_2 => cases hd
  rename_i S' hS
  split at hd
  case isFalse => cases hd
  rename_i hc
  obtain ⟨rfl, rfl, h1, h2⟩ := hc
  simp only [Option.some.injEq, Prod.mk.injEq] at hd
  obtain ⟨rfl, rfl, rfl, rfl, rfl, rfl, rfl⟩ := hd
  obtain ⟨b2, tb2, rfl, e, hne, g1, g2⟩ := decWr_ok hw
  simp only [List.cons.injEq, and_true] at e
  obtain ⟨rfl, rfl⟩ := e
  exact ⟨b, tb, sb, rfl, rfl, hne, h1, h2, g1, g2, by rw [hs, stepsK, decAll_inv (d := decStep T b) (e := stepL b) (fun c x hc => decStep_inv hc) hS], rfl⟩
theorem decLn_mono {T : StTab} {h h' : Heap} (hs : ∀ b k, hget h b = some k → hget h' b = some k) {zs : List AV} {r : Prop × List Nat × (ByteArray × List Stp × (Ins × ByteArray × List OpV))} (hd : decLn T h zs = some r) : decLn T h' zs = some r := by
  unfold decLn at hd ⊢
  split at hd
  case h_2 => cases hd
  split at hd
  case h_2 => cases hd
  rename_i hw
  simp only [decWr_mono hs hw]
  split at hd
  case h_2 => cases hd
  rename_i ht
  simp only [hs _ _ ht]
  exact hd
theorem stepsK_ren (b : Nat) (S : List Stp) (g : Nat → Nat) : (stepsK b S).ren g = stepsK (g b) S := by
  unfold stepsK Blk.ren
  simp [stepL, LV.ren, Function.comp_def]
def outLn (y : ByteArray × List Stp × (Ins × ByteArray × List OpV)) : RO :=
  .ret (.s (.agg [.v (.string y.1), .sl 1 0 (stepsF y.2.2.1 y.2.1 y.2.2.2.2).length])) [some (wrK y.2.2.1 y.1 (stepsF y.2.2.1 y.2.1 y.2.2.2.2).length 1)] [opsK (stepsF y.2.2.1 y.2.1 y.2.2.2.2)]
theorem en_line (args : Array Value) (w : World) : (callFunc 48 args).run Tryz.prog w = .ok (.enter 48 args) w := by go_simp
def lineS (T : StTab) : Spec Tryz.prog 48 :=
  mkQ 1 3 (by decide) _ _ _ Tryz.func48 rfl en_line (decLn T) (fun y => [.s (.l (.p 0 0 0)), sv y.1, .s (.l (.sl 2 0 y.2.1.length))]) (fun y => [wrK y.2.2.1 y.2.2.2.1 y.2.2.2.2.length 1, opsK y.2.2.2.2, stepsK 0 y.2.1]) outLn (by rw [Tryz.ntmps48]; decide) (fun hs hd => decLn_mono hs hd)
    (by
      intro h zs q' bs y hd hq
      obtain ⟨nm, S, x, nm0, l⟩ := y
      obtain ⟨b, tb, sb, rfl, rfl, n1, n2, n3, h1, h2, h3, rfl⟩ := decLn_ok hd
      refine ⟨by rw [Tryz.ntmps48]; show 3 ≤ 27; decide, rfl, rfl, by simp [n1, Ne.symm n2, Ne.symm n3], fun d => ⟨?_, ?_⟩⟩
      · intro j b' k hj hk
        match j, hj, hk with
        | 0, hj, hk =>
          simp at hj hk
          subst hj
          subst hk
          exact ⟨rfl, by rw [h1, wrK_ren]; rfl⟩
        | 1, hj, hk =>
          simp at hj hk
          subst hj
          subst hk
          exact ⟨rfl, by rw [h2, opsK_ren]⟩
        | 2, hj, hk =>
          simp at hj hk
          subst hj
          subst hk
          exact ⟨rfl, by rw [h3, stepsK_ren]; rfl⟩
      · intro ρ al vals hA
        match vals, hA with
        | [v, w, u], ⟨a, b, c, _⟩ => exact ⟨a, b, c, trivial⟩)
    (by
      intro h zs q' bs y hd hq
      obtain ⟨nm, S, x, nm0, l⟩ := y
      obtain ⟨b, tb, sb, rfl, rfl, n1, n2, n3, h1, h2, h3, rfl⟩ := decLn_ok hd
      exact line_sw S x nm0 nm l hq.1 hq.2)
theorem line_run {T : StTab} {id : Nat} {h : Heap} {args : List AV} : (lineS T).run id h args = runQ 1 (decLn T) outLn id h args := rfl
theorem line_pan {T : StTab} {id : Nat} {h : Heap} {args : List AV} : (lineS T).pan id h args = none := rfl

end Go.Proofs.YtpjlafmhoifkmaaGreat
