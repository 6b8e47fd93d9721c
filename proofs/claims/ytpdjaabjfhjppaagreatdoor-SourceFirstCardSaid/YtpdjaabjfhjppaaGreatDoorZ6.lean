/- The value logic, computed: a callee is entered with what is handed over, and left. No program in sight. -/
import Derived.Test.YtpdjaabjfhjppaaGreatDoorZ5
set_option linter.unusedVariables false
set_option linter.unusedSimpArgs false
namespace Go.Proofs.YtpdjaabjfhjppaaGreatDoor
open Go.RowKit
set_option maxRecDepth 100000

noncomputable section
def chkH (n : Nat) (bs : List Nat) (ks : List Blk) (args : List AV) : Bool :=
  nodupR bs && ks.all (·.own) && allR bs (ks.flatMap Blk.refs) && allR bs (refsA args) && Nat.ble args.length n && Nat.blt 0 n
def hand2 (n : Nat) (args : List AV) (bs : List Nat) (ks : Option (List Blk)) : Option (List Nat × List AV × List Blk) := match ks with
  | some ks => cond (chkH n bs ks args) (some (bs, args.map (·.ren (ixR bs)), ks.map (·.ren (ixR bs)))) none
  | none => none
def hand1 (n : Nat) (h : Heap) (args : List AV) (bs : Option (List Nat)) : Option (List Nat × List AV × List Blk) := match bs with
  | some bs => hand2 n args bs (getBs h bs)
  | none => none
/-- the blocks that the arguments lead to, the arguments and the blocks by the callee's numbers -/
def handR (n : Nat) (h : Heap) (args : List AV) : Option (List Nat × List AV × List Blk) := hand1 n h args (reachR h 2000 (refsA args) [])

def optRefs (k : Option Blk) : List Nat := match k with
  | some k => k.refs
  | none => []
def eqNL (a b : List Nat) : Bool := List.rec (motive := fun _ => List Nat → Bool) (fun b => b.isEmpty) (fun x _ ih b => List.rec (motive := fun _ => Bool) false (fun y r _ => cond (Nat.beq x y) (ih r) false) b) a b
def optOwn (k : Option Blk) : Bool := match k with
  | some k => k.own
  | none => true
def chkL (K : Nat) (L todo : List Nat) (hs : List (Option Blk)) (nb : List Blk) : Bool :=
  nodupR L && allR L todo && allR L (nb.flatMap Blk.refs) && Nat.ble nb.length 16 && hs.all optOwn && nb.all (·.own) && eqNL (L.take K) (List.range K) && Nat.beq L.length (K + nb.length)
def left3 (K : Nat) (r : AV) (L todo : List Nat) (hs : List (Option Blk)) (nb : Option (List Blk)) : Option (AV × List (Option Blk) × List Blk) := match nb with
  | some nb => cond (chkL K L todo hs nb) (some (r.ren (ixR L), hs.map (Option.map (·.ren (ixR L))), nb.map (·.ren (ixR L)))) none
  | none => none
def left2 (K : Nat) (r : AV) (h : Heap) (todo : List Nat) (hs : List (Option Blk)) (L : Option (List Nat)) : Option (AV × List (Option Blk) × List Blk) := match L with
  | some L => left3 K r L todo hs (getBs h (L.drop K))
  | none => none
def left1 (K : Nat) (r : AV) (h : Heap) (hs : List (Option Blk)) : Option (AV × List (Option Blk) × List Blk) := left2 K r h (r.refs ++ hs.flatMap optRefs) hs (reachR h 2000 (r.refs ++ hs.flatMap optRefs) (List.range K))
/-- the result, the blocks that were handed over, the new ones, by numbers that the caller knows -/
def leftC (K : Nat) (h : Heap) (r : AV) : Option (AV × List (Option Blk) × List Blk) := left1 K r h ((List.range K).map (hgetR h))
end

theorem hand_some {n : Nat} {h : Heap} {args : List AV} {bs : List Nat} {as' : List AV} {ks' : List Blk} (hd : handR n h args = some (bs, as', ks')) :
    ∃ ks, reachR h 2000 (refsA args) [] = some bs ∧ getBs h bs = some ks ∧ chkH n bs ks args = true ∧ as' = args.map (·.ren (ixR bs)) ∧ ks' = ks.map (·.ren (ixR bs)) := by
  unfold handR hand1 at hd
  cases hr : reachR h 2000 (refsA args) [] with
  | none => rw [hr] at hd; cases hd
  | some b =>
    rw [hr] at hd
    simp only at hd
    unfold hand2 at hd
    cases hk : getBs h b with
    | none => rw [hk] at hd; cases hd
    | some ks =>
      rw [hk] at hd
      simp only at hd
      cases hc : chkH n b ks args
      · rw [hc] at hd; cases hd
      · rw [hc] at hd
        injection hd with hd
        injection hd with h1 hd
        injection hd with h2 h3
        subst h1
        exact ⟨ks, rfl, hk, hc, h2.symm, h3.symm⟩
theorem hand_mono {n : Nat} {h h' : Heap} (hs : ∀ b k, hget h b = some k → hget h' b = some k) {args : List AV} {x : List Nat × List AV × List Blk} (hd : handR n h args = some x) : handR n h' args = some x := by
  obtain ⟨bs, as', ks'⟩ := x
  obtain ⟨ks, h1, h2, h3, rfl, rfl⟩ := hand_some hd
  unfold handR hand1
  rw [reach_mono hs _ h1]
  simp only
  rw [getBs_mono hs h2]
  simp only [hand2]
  rw [h3]
  rfl
theorem ix_back {bs : List Nat} {d : Nat} {l : List Nat} (h : ∀ b ∈ l, b ∈ bs) : ∀ b ∈ l, (fun j => bs.getD j d) (ixR bs b) = b := fun b hb => getD_ix (h b hb)
theorem asRep_ren {ρ : Nat → Loc} {al : Al} {g : Nat → Nat} : ∀ {xs : List AV} {vs : List Value}, AsRep ρ al (xs.map (·.ren g)) vs → AsRep (fun b => ρ (g b)) (alR al g) xs vs
  | [], [], _ => trivial
  | [], _ :: _, h => h.elim
  | _ :: _, [], h => h.elim
  | _ :: _, _ :: _, ⟨a, b⟩ => ⟨a.ren, asRep_ren b⟩
theorem hand_ok {n : Nat} {h : Heap} {args : List AV} {bs : List Nat} {as' : List AV} {ks' : List Blk} (hd : handR n h args = some (bs, as', ks')) :
    as'.length ≤ n ∧ 0 < n ∧ ks'.length = bs.length ∧ bs.Nodup ∧ ∀ d : Nat, (∀ (j b : Nat) (k : Blk), bs[j]? = some b → ks'[j]? = some k → k.own = true ∧ hget h b = some (k.ren fun j => bs.getD j d)) ∧
      ∀ (ρ : Nat → Loc) (al : Al) (vals : List Value), AsRep ρ al args vals → AsRep (fun j => ρ (bs.getD j d)) (alR al fun j => bs.getD j d) as' vals := by
  obtain ⟨ks, h1, h2, h3, rfl, rfl⟩ := hand_some hd
  unfold chkH at h3
  simp only [Bool.and_eq_true] at h3
  obtain ⟨⟨⟨⟨⟨c1, c2⟩, c3⟩, c4⟩, c5⟩, c6⟩ := h3
  have c3 := allR_iff c3
  have c4 := allR_iff c4
  obtain ⟨g1, g2⟩ := getBs_at h2
  refine ⟨by rw [List.length_map]; exact Nat.le_of_ble_eq_true c5, by simpa [Nat.blt_eq] using c6, by rw [List.length_map]; exact g1, nodupR_iff c1, fun d => ⟨fun j b k hj hk => ?_, fun ρ al vals hA => ?_⟩⟩
  · rw [List.getElem?_map, Option.map_eq_some_iff] at hk
    obtain ⟨k0, hk, rfl⟩ := hk
    have hm := List.mem_of_getElem? hk
    refine ⟨(show k0.own = true from List.all_eq_true.1 c2 k0 hm), ?_⟩
    rw [Blk.back (ix_back fun b hb => c3 b (List.mem_flatMap.2 ⟨k0, hm, hb⟩))]
    exact g2 j b k0 hj hk
  · refine asRep_ren ?_
    rw [map_back2 (g := fun x : AV => x.ren (ixR bs)) (f := fun x : AV => x.ren fun j => bs.getD j d) fun x hx => AV.back (ix_back fun b hb => c4 b (List.mem_flatMap.2 ⟨x, hx, hb⟩))]
    exact hA

theorem eqNL_iff : ∀ {a b : List Nat}, eqNL a b = true → a = b
  | [], b, h => by cases b with | nil => rfl | cons _ _ => cases h
  | x :: a, [], h => by cases h
  | x :: a, y :: b, h => by
    have h : cond (Nat.beq x y) (eqNL a b) false = true := h
    by_cases e : x = y
    · rw [nbt e] at h
      rw [e, eqNL_iff h]
    · rw [nbf e] at h
      cases h
theorem mem_zipO : ∀ {ks : List (Option Blk)} {j : Nat} {p : Nat × Option Blk}, p ∈ zipO j ks → ∃ i, ks[i]? = some p.2 ∧ p.1 = j + i
  | [], _, _, h => by cases h
  | k :: ks, j, p, h => by
    rw [zipO, List.mem_cons] at h
    rcases h with rfl | h
    · exact ⟨0, rfl, rfl⟩
    · obtain ⟨i, h1, h2⟩ := mem_zipO h
      exact ⟨i + 1, h1, by omega⟩
theorem left_ok {K : Nat} {s : St} {r r' : AV} {hs : List (Option Blk)} {ns : List Blk} (hl : leftC K s.h r = some (r', hs, ns)) :
    hs.length = K ∧ ns.length ≤ 16 ∧ (∀ k, some k ∈ hs → k.own = true) ∧ (∀ k ∈ ns, k.own = true) ∧ Wk ⟨none, K⟩ ⟨s.nx, (0, r) :: s.t, s.h⟩ ⟨K + ns.length, [(0, r')], zipO 0 hs ++ zipH K ns⟩ := by
  obtain ⟨H0, hH0⟩ : ∃ H0, (List.range K).map (hgetR s.h) = H0 := ⟨_, rfl⟩
  unfold leftC left1 left2 at hl
  rw [hH0] at hl
  obtain ⟨todo, htodo⟩ : ∃ t, r.refs ++ H0.flatMap optRefs = t := ⟨_, rfl⟩
  rw [htodo] at hl
  cases hL : reachR s.h 2000 todo (List.range K) with
  | none => rw [hL] at hl; cases hl
  | some L =>
    rw [hL] at hl
    simp only at hl
    unfold left3 at hl
    cases hk : getBs s.h (L.drop K) with
    | none => rw [hk] at hl; cases hl
    | some nb =>
      rw [hk] at hl
      simp only at hl
      cases hc : chkL K L todo H0 nb
      · rw [hc] at hl; cases hl
      · rw [hc] at hl
        injection hl with hl
        injection hl with e1 hl
        injection hl with e2 e3
        subst e1 e2 e3
        unfold chkL at hc
        simp only [Bool.and_eq_true] at hc
        obtain ⟨⟨⟨⟨⟨⟨⟨c1, c2⟩, c3⟩, c4⟩, c5⟩, c6⟩, c7⟩, c8⟩ := hc
        have c2 := allR_iff c2
        have c3 := allR_iff c3
        have c4 := Nat.le_of_ble_eq_true c4
        have c7 := eqNL_iff c7
        have c8 := Nat.eq_of_beq_eq_true c8
        have hLK : ∀ j, j < K → L[j]? = some j := by
          intro j hj
          have : (L.take K)[j]? = some j := by rw [c7, List.getElem?_range hj]
          rwa [List.getElem?_take_of_lt hj] at this
        have hlen0 : H0.length = K := by rw [← hH0]; simp
        have own0 : ∀ k, some k ∈ H0 → k.own = true := fun k hk => List.all_eq_true.1 c5 _ hk
        have ownN : ∀ k ∈ nb, k.own = true := fun k hk => List.all_eq_true.1 c6 _ hk
        refine ⟨by simp [hlen0], by simpa using c4, fun k hk => ?_, fun k hk => ?_, ?_⟩
        · obtain ⟨q, hq, e⟩ := List.mem_map.1 hk
          rw [Option.map_eq_some_iff] at e
          obtain ⟨k0, rfl, rfl⟩ := e
          exact own0 k0 hq
        · obtain ⟨k0, hq, rfl⟩ := List.mem_map.1 hk
          exact ownN k0 hq
        · refine Wk.ren L hLK (by rw [c8]; simp) (nodupR_iff c1) ?_ ?_
          · intro p hp
            simp only [List.mem_singleton] at hp
            subst hp
            show tget ((0, r) :: s.t) 0 = _
            rw [tget, if_pos rfl]
            exact (AV.back (ix_back fun b hb => c2 b (by rw [← htodo]; exact List.mem_append_left _ hb))).symm
          · intro p hp k hkp
            rcases List.mem_append.1 hp with hp | hp
            · obtain ⟨i, h1, h2⟩ := mem_zipO hp
              rw [hkp, List.getElem?_map, Option.map_eq_some_iff] at h1
              obtain ⟨q, h1, h3⟩ := h1
              rw [Option.map_eq_some_iff] at h3
              obtain ⟨k0, rfl, rfl⟩ := h3
              have hi : i < K := by rw [← hlen0]; exact (List.getElem?_eq_some_iff.1 h1).1
              have hq : hget s.h i = some k0 := by
                rw [← hH0, List.getElem?_map, List.getElem?_range hi] at h1
                simp only [Option.map_some, Option.some.injEq] at h1
                rw [← hgetR_eq]
                exact h1
              rw [Blk.back (ix_back fun b hb => c2 b (by rw [← htodo]; exact List.mem_append_right _ (List.mem_flatMap.2 ⟨_, List.mem_of_getElem? h1, hb⟩)))]
              show hget s.h (L.getD p.1 s.nx) = _
              rw [h2, Nat.zero_add, List.getD_eq_getElem?_getD, hLK i hi]
              exact hq
            · rw [zipH_zipO] at hp
              obtain ⟨i, h1, h2⟩ := mem_zipO hp
              rw [hkp, List.map_map, List.getElem?_map, Option.map_eq_some_iff] at h1
              obtain ⟨k0, h1, h3⟩ := h1
              simp only [Function.comp, Option.some.injEq] at h3
              subst h3
              obtain ⟨g1, g2⟩ := getBs_at hk
              have hm := List.mem_of_getElem? h1
              rw [Blk.back (ix_back fun b hb => c3 b (List.mem_flatMap.2 ⟨k0, hm, hb⟩))]
              have hil : i < nb.length := (List.getElem?_eq_some_iff.1 h1).1
              have hLi : (L.drop K)[i]? = some ((L.drop K)[i]'(by rw [← g1]; exact hil)) := List.getElem?_eq_getElem _
              show hget s.h (L.getD p.1 s.nx) = _
              rw [h2, List.getD_eq_getElem?_getD, ← List.getElem?_drop, hLi]
              exact g2 i _ k0 hLi h1
end Go.Proofs.YtpdjaabjfhjppaaGreatDoor
