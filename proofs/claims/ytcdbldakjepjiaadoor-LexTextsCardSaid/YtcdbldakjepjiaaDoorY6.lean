/- The value logic with lasting memory: ranges over functions, part 6: an iterator out of its body. No program in sight. -/
import Derived.Test.YtcdbldakjepjiaaDoorY5
set_option linter.unusedVariables false
set_option linter.unusedSimpArgs false
namespace Go.Proofs.YtcdbldakjepjiaaDoor
open Go.RowKit

/-- marks are taken away: nothing else is turned -/
structure UnmarkR (rs : List Nat) (w w' : World) : Prop where
  os : w'.os = w.os
  tape : w'.tape = w.tape
  output : w'.output = w.output
  size : w'.heap.size = w.heap.size
  same : ∀ k : Nat, k ∉ rs → w'.heap[k]? = w.heap[k]?

theorem leaves_marksR {P : Program} {F : Fence} {n : Nat} {fn : Func} {tm : Array Value} {R : Ending → World → Prop} {u : FrameMode} (hu : u ≠ .run) {d0 : List Deferred} : ∀ (rs : List Nat) (w : World), rs.Nodup → (∀ r ∈ rs, w.heap[r]? = some (.deferred (some []))) → (∀ w', UnmarkR rs w w' → LeavesInM F n P fn tm R d0 u w') → LeavesInM F n P fn tm R (rs.map mark ++ d0) u w
  | [], w, _, _, h => h w ⟨rfl, rfl, rfl, rfl, fun _ _ => rfl⟩
  | r :: rs, w, hd, hr, h => by
    have h0 := hr r (by simp)
    rw [List.nodup_cons] at hd
    refine ⟨hu, .inl ⟨r, _, rfl, run_takeDeferred h0, leaves_marksR hu rs _ hd.2 (fun q hq => ?_) fun w' hw' => h w' ⟨hw'.os, hw'.tape, hw'.output, hw'.size.trans (by simp [World.putObj]), fun k hk => ?_⟩⟩⟩
    · rw [World.putObj_heap_other (by rintro rfl; exact hd.1 hq)]
      exact hr q (by simp [hq])
    · simp only [List.mem_cons, not_or] at hk
      rw [hw'.same k hk.2]
      exact World.putObj_heap_other hk.1

section
variable {P : Program}

/-- how an iterator's body ends -/
def itQ (L : List (List AV)) : Exit → St → Nat × Bool → Prop
  | .normal, _, y => y.2 = true → y.1 = L.length
  | .ret, _, y => y.2 = true → y.1 = L.length
  | _, _, _ => False
theorem itQ_normal {L : List (List AV)} {s : St} {p : Nat} {b : Bool} : itQ L .normal s (p, b) = (b = true → p = L.length) := rfl
theorem itQ_ret {L : List (List AV)} {s : St} {p : Nat} {b : Bool} : itQ L .ret s (p, b) = (b = true → p = L.length) := rfl

theorem asRep_ds {ρ : Nat → Loc} {al : Al} {ds : List D} {caps : List Value} (h : DsRep al.M ds caps) : AsRep ρ al ((ofDs ds).map fun x => .s (.l x)) caps := asRep_l (DsRep.ls rfl h)

/-- An iterator, out of its body's walk. -/
def mkIt (f : FuncId) (fn : Func) (c : Code) (hf : P.funcs[f]? = some fn) (hb : fn.body = some c) (hr : fn.results = #[]) (hen : ∀ (args : Array Value) (w : World), (callFunc f args).run P w = .ok (.enter f args) w) (dec : List D → Option (Prop × List (List AV)))
    (hbody : ∀ {ds q L}, dec ds = some (q, L) → q → ∀ l, ds.length + 1 ≤ fn.ntmps ∧ SWy P l L ⟨none, 0⟩ fn.ntmps c ⟨0, zipT 0 (.s (.l (.v (.func (.yield l) #[] #[]))) :: (ofDs ds).map fun x => .s (.l x)), []⟩ (0, true) (itQ L)) : It P f where
  enter := hen
  dec := dec
  sound := by
    intro ds q L hd hq M W caps hG hM hcaps l γ R g hN hJ hp0 hl0 hMm
    obtain ⟨hlen, hsw⟩ := hbody hd hq l
    have hcl : caps.length = ds.length := by
      have := (asRep_ds (ρ := ρz) (al := alz M) hcaps).length
      rw [this]
      have h2 := (DsRep.ls (ρ := ρz) (al := alz M) rfl hcaps).length
      simp only [List.length_map]
      rw [← h2]
      have h3 : ∀ {ds : List D} {cs : List Value}, DsRep M ds cs → cs.length = ds.length := by
        intro ds
        induction ds with
        | nil => intro cs h; cases cs with
          | nil => rfl
          | cons _ _ => simp only [DsRep] at h
        | cons d ds ih => intro cs h; cases cs with
          | nil => simp only [DsRep] at h
          | cons c cs => simp only [DsRep] at h; simp [ih h.2.2]
      exact h3 hcaps
    have hT0 : TRep ρz (alz M) (zipT 0 (.s (.l (.v (.func (.yield l) #[] #[]))) :: (ofDs ds).map fun x => .s (.l x))) ((Value.func (.yield l) #[] #[] :: caps).toArray ++ Array.replicate (fn.ntmps - (Value.func (.yield l) #[] #[] :: caps).toArray.size) undef) :=
      enter_t (show AsRep ρz (alz M) (.s (.l (.v (.func (.yield l) #[] #[]))) :: (ofDs ds).map fun x => .s (.l x)) (Value.func (.yield l) #[] #[] :: caps) from ⟨rfl, asRep_ds hcaps⟩) _
    have H0 : YRep R fn.ntmps ⟨fun _ => False, M, [], [], hG⟩ W g ρz (alz M) ⟨0, zipT 0 (.s (.l (.v (.func (.yield l) #[] #[]))) :: (ofDs ds).map fun x => .s (.l x)), []⟩ { tmps := (Value.func (.yield l) #[] #[] :: caps).toArray ++ Array.replicate (fn.ntmps - (Value.func (.yield l) #[] #[] :: caps).toArray.size) undef, defers := [] } W g := by
      refine ⟨⟨?_, Marks.nil _ _ _, hT0, ⟨fun _ h => h.elim, .refl _ _, fun b k h => (by cases h), fun b k h => (by cases h), fun b k h => (by cases h), fun b c k l h => (by cases h), hM, fun b k h => (by cases h), fun b o y hy => .inl hy, Mem.le_refl _, fun j l h => (by cases h)⟩, fun b h => h.elim⟩, fun b k h => (by cases h), hJ, hN, fun b k h => (by cases h), fun b k h => (by cases h), fun b o y hy => (hMm b o y hy).1, fun b o y hy => (hMm b o y hy).2, fun k h => h.elim, fun rs hrs r hr => ?_, fun k hk => .inl hk, fun k hk => .inl hk⟩
      · simp only [Array.size_append, Array.size_replicate, List.size_toArray, List.length_cons]
        omega
      · have hrs' : ([] : List Deferred) = rs.map mark ++ [] := hrs
        simp at hrs'
        subst hrs'
        cases hr
    refine (callsIn_fw (ro := ⟨none, 0⟩) (n := 0)).1 (callsIn_of_wp_marks hf hb trivial (wpIn_mono (hsw γ R ⟨fun _ => False, M, [], [], hG⟩ W g ρz (alz M) _ W g rfl H0 hp0 hl0) ?_) rfl)
    rintro e a' w' ⟨ρ', al', s', g', H', hq'⟩
    obtain ⟨rs, h1, h2, h3⟩ := H'.r.defers
    have ret : (R.live g' = true → R.pos g' = L.length) → LeavesInM (Fw ⟨none, 0⟩) 0 P fn a'.tmps (fun e W' => (∃ v, e = .returned v) ∧ ∃ g', R.J g' W' ∧ (R.live g' = true → R.pos g' = L.length)) a'.defers .returning w' := by
      intro hp
      rw [h2]
      refine leaves_marksR (by simp) rs w' h1 (fun r hr => (h3 r hr).2) fun w2 hU => ?_
      have hres : (results fn a'.tmps).run P w2 = .ok (.tuple #[]) w2 := by
        unfold results
        rw [hr]
        simp [Array.mapM_eq_mapM_toList]
      refine ⟨_, hres, ⟨_, rfl⟩, g', R.steady _ _ _ H'.J ⟨hU.os, hU.tape, hU.output, by rw [hU.size]; exact Nat.le_refl _, fun k hk => hU.same k fun hm => H'.mks rs h2 k hm hk⟩, hp⟩
    cases e with
    | normal => exact ret hq'
    | ret => exact ret hq'
    | panic ch => exact hq'.elim
    | exit _ => exact hq'.elim
    | goto _ => exact hq'.elim
    | outgrown => exact hq'.elim

end

end Go.Proofs.YtcdbldakjepjiaaDoor
