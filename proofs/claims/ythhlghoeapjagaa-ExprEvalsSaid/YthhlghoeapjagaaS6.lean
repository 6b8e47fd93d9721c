/- From the value logic to contracts of the elder kind: functions of one slice of terms. -/
import Derived.Test.YthhlghoeapjagaaQ6
set_option linter.unusedVariables false
set_option linter.unusedSimpArgs false
namespace Go.Proofs.Ythhlghoeapjagaa
open Go.RowKit

/-- a slice of terms, its capacity too -/
def TermsC (w : World) (A : Option Addr) (ts : List Term) (cap : Nat) : Prop :=
  Terms w w.heap.size A ts ∧ ts.length ≤ cap ∧ (cap = 0 ∨ ∃ b off, A = some ⟨b, off, none⟩ ∧ b < w.heap.size)

theorem wrep_terms {w : World} {A : Option Addr} {cap : Nat} {ts : List Term} (h : TermsC w A ts cap) :
    ∃ ρ : Nat → Loc, WRep w.heap.size w ρ (fun k => k = 0) [(0, some ⟨false, 57, 3, ts.map Term.lv⟩)] w ∧ ARep ρ (fun k => k = 0) (.s (.l (.sl 0 0 ts.length))) (.slice A ts.length cap) := by
  obtain ⟨hT, hc, hA⟩ := h
  have g : ∀ c k, hget [(0, some (⟨false, 57, 3, ts.map Term.lv⟩ : Blk))] c = some k → c = 0 ∧ k = ⟨false, 57, 3, ts.map Term.lv⟩ := by
    intro c k h
    simp only [hget] at h
    split at h
    · rename_i e; injection h with h; exact ⟨e.symm, h.symm⟩
    · cases h
  rcases hA with rfl | ⟨b, off, rfl, hb⟩
  · obtain rfl : ts = [] := List.eq_nil_of_length_eq_zero (by omega)
    refine ⟨fun _ => ⟨0, 0, 3, 0, false⟩, ⟨rfl, .refl _ _, fun c k h => ?_, fun c k h ho => ?_, fun c k h _ hn => ?_, fun c d k l h _ ho => ?_⟩, rfl, A, rfl, Nat.le_refl _, fun h => absurd h (by simp)⟩
    · obtain ⟨rfl, rfl⟩ := g c k h
      exact ⟨rfl, rfl, rfl, fun e he => (by simp at he), Nat.le_refl _, fun i j x hx => (by simp [cellAt] at hx), fun h => by cases h⟩
    · obtain ⟨rfl, rfl⟩ := g c k h; cases ho
    · obtain ⟨rfl, rfl⟩ := g c k h; exact absurd rfl hn
    · obtain ⟨rfl, rfl⟩ := g c k h; cases ho
  · refine ⟨fun _ => ⟨b, off, 3, cap, false⟩, ⟨rfl, .refl _ _, fun c k h => ?_, fun c k h ho => ?_, fun c k h _ _ => hb, fun c d k l h _ ho => ?_⟩, rfl, some ⟨b, off, none⟩, by simp, by simpa using hc, fun _ => by simp⟩
    · obtain ⟨rfl, rfl⟩ := g c k h
      refine ⟨rfl, rfl, rfl, fun e he => ?_, by simpa using hc, fun i j x hx => ?_, fun h => by cases h⟩
      · obtain ⟨t, _, rfl⟩ := List.mem_map.1 he; rfl
      · simp only [cellAt, List.getElem?_map] at hx
        cases ht : ts[i]? with
        | none => rw [ht] at hx; cases hx
        | some t =>
          rw [ht] at hx
          obtain ⟨-, c0, c1, c2⟩ := Terms.cells_at hT ht
          match j, hx with
          | 0, hx => injection hx with hx; subst hx; exact ⟨_, c0, rfl, rfl⟩
          | 1, hx => injection hx with hx; subst hx; exact ⟨_, c1, rfl, rfl⟩
          | 2, hx => injection hx with hx; subst hx; exact ⟨_, c2, rfl, rfl⟩
    · obtain ⟨rfl, rfl⟩ := g c k h; cases ho
    · obtain ⟨rfl, rfl⟩ := g c k h; cases ho

theorem sl_calls {P : Program} {f : FuncId} (S : Spec P f) (D : DecSl Term) (res : List Term → AV) (hrun : ∀ id h args, S.run id h args = runFlat (dec1 D) res 1 h args) (hsz : D.sz = 3) (hdec : ∀ ts, decAll D.dec (ts.map Term.lv) = some ts)
    {A : Option Addr} {cap : Nat} {ts : List Term} {w : World} {v : Value} (hT : TermsC w A ts cap) (hob : D.ob ts) (hv : ∀ ρ al u, ARep ρ al (res ts) u → u = v) :
    Calls P f #[.slice A ts.length cap] w fun e w' => e = .returned v ∧ Below w.heap.size w w' := by
  obtain ⟨ρ, hW, hA⟩ := wrep_terms hT
  have hr : S.run 16 [(0, some ⟨false, 57, 3, ts.map Term.lv⟩)] [.s (.l (.sl 0 0 ts.length))] = some ⟨(0 + ts.length ≤ (ts.map Term.lv).length) ∧ D.ob ts, res ts, []⟩ := by
    rw [hrun]
    simp only [runFlat, dec1, slEls, hget, if_true, hsz, List.length_cons, List.length_nil, List.drop_zero, take_map_len, hdec]
  refine (S.sound hr ⟨by simp, hob⟩ (B := w.heap.size) (w0 := w) (ρ := ρ) (al := fun k => k = 0) (w := w) [.slice A ts.length cap] hW (fun k h1 _ h => by omega) ⟨hA, trivial⟩).mono ?_
  rintro e w' ⟨u, ρ', rfl, _, hu, hw⟩
  exact ⟨by rw [hv _ _ _ hu], hw.below⟩

theorem textR_rep {ts : List Term} (ρ : Nat → Loc) (al : Nat → Prop) (u : Value) (h : ARep ρ al (textR ts) u) : u = .tuple #[.string (textAll numS ts).1, .int .i64 (textAll numS ts).2] := by
  obtain ⟨cs, rfl, h⟩ := h
  match cs, h with
  | [a, b], ⟨ha, hb, _⟩ => obtain rfl := ha; obtain rfl := hb; rfl

theorem few_any {A : Option Addr} {cap : Nat} {ts : List Term} {w : World} (hT : TermsC w A ts cap) (hob : Ts.ob ts) :
    Calls Try.prog 16 #[.slice A ts.length cap] w fun e w' => e = .returned (.bool (fewF ts)) ∧ Below w.heap.size w w' :=
  sl_calls fewS Ts _ (fun _ _ _ => few_run) Ts_sz Ts_dec hT hob fun _ _ _ h => h

theorem text_any {A : Option Addr} {cap : Nat} {ts : List Term} {w : World} (hT : TermsC w A ts cap) (hob : T64.ob ts) :
    Calls Try.prog 19 #[.slice A ts.length cap] w fun e w' => e = .returned (.tuple #[.string (textAll numS ts).1, .int .i64 (textAll numS ts).2]) ∧ Below w.heap.size w w' :=
  sl_calls textS T64 _ (fun _ _ _ => text_run) T64_sz T64_dec hT hob textR_rep

theorem rtext_any {A : Option Addr} {cap : Nat} {ts : List Term} {w : World} (hT : TermsC w A ts cap) (hob : T64.ob ts) :
    Calls Try.prog 20 #[.slice A ts.length cap] w fun e w' => e = .returned (.tuple #[.string (textAll numS ts).1, .int .i64 (textAll numS ts).2]) ∧ Below w.heap.size w w' :=
  sl_calls rtextS T64 _ (fun _ _ _ => rtext_run) T64_sz T64_dec hT hob textR_rep

end Go.Proofs.Ythhlghoeapjagaa
