/- The value logic with lasting memory, part 10: a region that draws its order does what the order of the text does. No program in sight. -/
import Derived.Test.YtcdbldakjepjiaaDoorU9
set_option linter.unusedVariables false
set_option linter.unusedSimpArgs false
namespace Go.Proofs.YtcdbldakjepjiaaDoor
open Go.RowKit

section
variable {P : Program} {ctx : Ctx P} {ro : Cf} {n : Nat} {B : Base} {w0 : World}

def lst (listed : Array Bool) (k : Nat) : Bool := listed.getD k false

/-- how things stand when these operations have been carried out -/
structure Phi (n : Nat) (B : Base) (w0 : World) (l : List Oper) (rs : List Ent) (s : St) (listed : Array Bool) (a : Act) (w : World) : Prop where
  len : listed.size = l.length
  down : ∀ k j, k < l.length → j < l.length → lst listed k = true → bit ((befs [] l).getD k 0) j = true → lst listed j = true
  size : a.tmps.size = n
  defers : Marks w0.heap.size B.ds a.defers w
  rep : ∃ ρ al, TRep ρ al (Tm (lst listed) rs 0 s.t) a.tmps ∧ WRep B w0 ρ al (Hp (lst listed) rs 0 s.h) w ∧ ∀ b, al b → b < s.nx ∨ ∃ k, k < l.length ∧ lst listed k = true ∧ s.nx + 16 * k ≤ b ∧ b < s.nx + 16 * k + 16

theorem lst_set {listed : Array Bool} {i k : Nat} (hi : i < listed.size) : lst (listed.setIfInBounds i true) k = (lst listed k || decide (k = i)) := by
  unfold lst
  rw [Array.getD_eq_getD_getElem?, Array.getElem?_setIfInBounds, Array.getD_eq_getD_getElem?]
  by_cases e : i = k
  · subst e
    rw [if_pos rfl, if_pos hi]
    simp
  · rw [if_neg e]
    have : ¬ k = i := fun h => e h.symm
    simp [this]

/-- one operation more -/
theorem Phi.next {l : List Oper} {ms : Ms} (D : DOk l ms) {rs : List Ent} {s : St} {Q : Exit → Act → World → Prop} {K : Act → World → Prop} (hlen : rs.length = l.length)
    (hent : ∀ (k : Nat) (o : Oper), l[k]? = some o → ∃ e, rs[k]? = some e ∧ EntOk P ctx n ms s.nx s.h l s.t (befs [] l) rs k o e)
    (hh0 : ∀ b k, hget s.h b = some k → b < s.nx)
    {listed : Array Bool} {a : Act} {w : World} (H : Phi n B w0 l rs s listed a w) {i : Nat} {o : Oper} (ho : l[i]? = some o) (hi : lst listed i = false) (hrdy : ∀ e ∈ o.after.toList, bindsE e = true → lst listed e.on = true)
    (hK : ∀ a' w', Phi n B w0 l rs s (listed.setIfInBounds i true) a' w' → K a' w') :
    if Region.wanted o (yielded l.toArray a.tmps) then o.wpIn (Fw ro) 0 P a w K Q else (∀ f, o.about P w a.eval = some f → (Fw ro).fn f) ∧ K (a.put o.dst undef) w := by
  have hil : i < l.length := (List.getElem?_eq_some_iff.1 ho).1
  have his : i < listed.size := by rw [H.len]; exact hil
  -- what stands ahead of it is done
  have hbef : ∀ k, k < l.length → bit ((befs [] l).getD i 0) k = true → lst listed k = true := by
    intro k hk hb
    obtain ⟨_, e, he, hbe, h | h⟩ := D.bef i o k ho hk hb
    · rw [← h]; exact hrdy e he hbe
    · have h1 := D.edge i o ho e he hbe
      exact H.down e.on k (by omega) hk (hrdy e he hbe) h
  -- what it stands ahead of is not
  have hbeh : ∀ k, k < l.length → bit ((befs [] l).getD k 0) i = true → lst listed k = false := by
    intro k hk hb
    cases hq : lst listed k with
    | false => rfl
    | true => have := H.down k i hk hil hq hb; rw [hi] at this; cases this
  have hdst : ∀ (k : Nat) (e : Ent), rs[k]? = some e → ∃ x, l[k]? = some x ∧ e.dst = x.dst := by
    intro k e he
    have hk : k < l.length := by rw [← hlen]; exact (List.getElem?_eq_some_iff.1 he).1
    obtain ⟨e', h1, h2⟩ := hent k l[k] (List.getElem?_eq_getElem hk)
    rw [he] at h1
    injection h1 with h1
    subst h1
    exact ⟨_, List.getElem?_eq_getElem hk, h2.1⟩
  -- a slot that it looks at holds what it held in the order of the text
  have hslot : ∀ d, d ∈ looks o l → tget (Tm (fun _ => true) (rs.take i) 0 s.t) d = tget (Tm (lst listed) rs 0 s.t) d := by
    intro d hd
    rw [Tm_take]
    refine Tm_congr rfl fun j e he hde => ?_
    simp only [Nat.zero_add, Bool.true_and]
    obtain ⟨x, hx, hxd⟩ := hdst j e he
    have hj : j < l.length := (List.getElem?_eq_some_iff.1 hx).1
    by_cases hji : j = i
    · subst hji; rw [hi]; simp
    · rcases D.tied i j o x ho hx hji (.inl (tied_of (.inr ⟨hxd ▸ hde, hd⟩))) with h | h
      · have := (D.bef i o j ho hj h).1
        rw [hbef j hj h]
        simpa using this
      · have := (D.bef j x i hx hil h).1
        rw [hbeh j hj h]
        simp; omega
  obtain ⟨e, hei, hed, hdok, hcase⟩ := hent i o ho
  obtain ⟨ρ, al, hT, hW, hal⟩ := H.rep
  have hid : ∀ b, s.nx + 16 * i ≤ b → b < s.nx + 16 * i + 16 → ¬ al b := by
    intro b h1 h2 hb
    rcases hal b hb with h | ⟨k, hk, hlk, h3, h4⟩
    · omega
    · have : k = i := by omega
      subst this
      rw [hi] at hlk; cases hlk
  have hguard : ∀ (g : Nat) (want q : Bool), o.guard = some (g, want) → gAt l (Tm (fun _ => true) (rs.take i) 0 s.t) g = .s (.l (.v (.bool q))) → yielded l.toArray a.tmps g = some q := by
    intro g want q hg hq
    refine gAt_yield hT H.size ?_
    rw [← hq]
    unfold gAt
    obtain ⟨_, hgl⟩ := D.guard i o g want ho hg
    cases hx : l[g]? with
    | none => rfl
    | some x =>
      simp only
      cases hxd : x.dst with
      | none => rfl
      | some d =>
        simp only
        exact (hslot d (by unfold looks; simp [hg, hx, hxd])).symm
  -- the new standing
  have fin : ∀ v w' ρ' al', Ext ρ ρ' al al' → (∀ b, al' b → alW al (s.nx + 16 * i) b) → ARep ρ' al' e.r v → WRep B w0 ρ' al' (e.E ++ Hp (lst listed) rs 0 s.h) w' → KeepsD w w' → (∀ b, inE e.E b = true → b < s.nx + 16 * (i + 1) ∧ (e.E ≠ [] → heapy o.op = true) ∧ b ∉ declOf ms.hs i) → K (a.put o.dst v) w' := by
    intro v w' ρ' al' hE hsub hA hw hko hEi
    have hp' : ∀ k, lst (listed.setIfInBounds i true) k = (lst listed k || decide (k = i)) := fun k => lst_set his
    have hpi : lst (listed.setIfInBounds i true) i = true := by rw [hp']; simp
    have hpn : ∀ k, k ≠ i → lst (listed.setIfInBounds i true) k = lst listed k := fun k hk => by rw [hp']; simp [hk]
    refine hK _ _ ⟨by simp [H.len], ?_, put_size.trans H.size, (by rw [put_defers]; exact H.defers.keep hko), ρ', al', ?_, ?_, ?_⟩
    · intro k j hk hj h1 h2
      by_cases hji : j = i
      · rw [hji]; exact hpi
      · rw [hpn j hji]
        by_cases hki : k = i
        · subst hki; exact hbef j hj h2
        · rw [hpn k hki] at h1; exact H.down k j hk hj h1 h2
    · intro d
      have hput := (hT.ext hE).putT (d := o.dst) H.size hdok hA d
      have e1 : tget (Tm (lst (listed.setIfInBounds i true)) rs 0 s.t) d = tget (putT (Tm (lst listed) rs 0 s.t) o.dst e.r) d := by
        by_cases hd : o.dst = some d
        · rw [hd, putT, tget, if_pos rfl]
          refine Tm_last (hed.trans hd) hei (by rw [Nat.zero_add]; exact hpi) fun m y hm hy hyd => ?_
          rw [Nat.zero_add, hpn m (by omega)]
          obtain ⟨x, hx, hxd⟩ := hdst m y hy
          have hml : m < l.length := (List.getElem?_eq_some_iff.1 hx).1
          rcases D.tied i m o x ho hx (by omega) (.inl (tied_of (.inl ⟨hd, .inr (hxd ▸ hyd)⟩))) with h | h
          · have := (D.bef i o m ho hml h).1; omega
          · exact hbeh m hml h
        · have e2 : tget (putT (Tm (lst listed) rs 0 s.t) o.dst e.r) d = tget (Tm (lst listed) rs 0 s.t) d := by
            cases hq : o.dst with
            | none => rfl
            | some q => rw [putT, tget, if_neg (fun hh => hd (by rw [hq, hh]))]
          rw [e2]
          refine Tm_congr rfl fun j y hy hyd => ?_
          rw [Nat.zero_add]
          refine hpn j ?_
          rintro rfl
          rw [hei] at hy
          injection hy with hy
          subst hy
          exact hd (hed ▸ hyd)
      rw [e1]
      exact hput
    · refine hw.sub fun b k hk => ?_
      rw [← hk, hget_app]
      split
      · rename_i hb
        refine (Hp_last hb hei (by rw [Nat.zero_add]; exact hpi) fun m y hm hy hyb => ?_).symm
        rw [Nat.zero_add, hpn m (by omega)]
        obtain ⟨x, hx, hxd⟩ := hdst m y hy
        have hml : m < l.length := (List.getElem?_eq_some_iff.1 hx).1
        obtain ⟨y', hy', hok⟩ := hent m x hx
        rw [hy] at hy'
        injection hy' with hy'
        subst hy'
        have hne : e.E ≠ [] := by intro h0; rw [h0] at hb; simp [inE] at hb
        have hord : bit ((befs [] l).getD i 0) m = true ∨ bit ((befs [] l).getD m 0) i = true := by
          rcases hok.2.2 with ⟨R, _, _, hk1, _, hk2, _⟩ | ⟨_, hk2, _⟩
          · rw [hk2] at hyb
            obtain ⟨h1, h2, _⟩ := eOk_in hk1 hyb
            rcases h2 with h2 | h2 | h2
            · have := (hEi b hb).1; omega
            · exact D.tied i m o x ho hx (by omega) (.inr ⟨h2, (hEi b hb).2.1 hne⟩)
            · exact D.unord ho (by omega) h2 (hEi b hb).2.2
          · rw [hk2] at hyb; simp [inE] at hyb
        rcases hord with h | h
        · have := (D.bef i o m ho hml h).1; omega
        · exact hbeh m hml h
      · rename_i hb
        refine (Hp_congr rfl fun j y hy hyb => ?_).symm
        rw [Nat.zero_add]
        refine hpn j ?_
        rintro rfl
        rw [hei] at hy
        injection hy with hy
        subst hy
        exact hb hyb
    · intro b hb'
      rcases hsub b hb' with hb | hb
      · rcases hal b hb with h | ⟨k, hk, hlk, h3, h4⟩
        · exact .inl h
        · exact .inr ⟨k, hk, by rw [hp', hlk]; rfl, h3, h4⟩
      · exact .inr ⟨i, hil, hpi, hb.1, hb.2⟩
  rcases hcase with ⟨R, hR, hob, hek, hr1, hr2, hg⟩ | ⟨hr1, hr2, g, want, hg, hq⟩
  · have hw : Region.wanted o (yielded l.toArray a.tmps) = true := by
      rcases hg with hg | ⟨g, want, hg, hq⟩
      · simp [Region.wanted, hg]
      · have := hguard g want want hg hq
        simp [Region.wanted, hg, this]
    rw [if_pos hw]
    have hops : ∀ x ∈ o.op.operands, evT (Tm (fun _ => true) (rs.take i) 0 s.t) x = evT (Tm (lst listed) rs 0 s.t) x := by
      intro x hx
      cases x with
      | tmp d =>
        refine hslot d ?_
        unfold looks
        refine List.mem_append.2 (.inl (List.mem_filterMap.2 ⟨.tmp d, by simpa using hx, rfl⟩))
      | const v => rfl
      | global g => rfl
      | func f => rfl
    rw [aOp_congr hops] at hR
    have hR' : aOp P ctx (s.nx + 16 * i) o.op (evT (Tm (lst listed) rs 0 s.t)) (Hp (lst listed) rs 0 s.h) = some R := by
      cases hhp : heapy o.op with
      | false => exact (aOp_still hhp hR).1
      | true =>
        refine aOp_mono (fun b k hk => ?_) hR
        obtain ⟨hnb, hk⟩ := hget_veil hk
        rw [← hk, Hp_take]
        -- the entry that is seen is the one that was seen in the order of the text
        have hq : ∀ (j : Nat) (y : Ent), rs[j]? = some y → inE y.E b = true → lst listed j = true → s.nx + 16 * j ≤ b ∨ (bit ((befs [] l).getD i 0) j && decide (j < 0 + i)) = true := by
          intro j y hy hyb hlj
          obtain ⟨x, hx, hxd⟩ := hdst j y hy
          have hjl : j < l.length := (List.getElem?_eq_some_iff.1 hx).1
          obtain ⟨y', hy', hok⟩ := hent j x hx
          rw [hy] at hy'
          injection hy' with hy'
          subst hy'
          rcases hok.2.2 with ⟨R', _, _, hk1, _, hk2, _⟩ | ⟨_, hk2, _⟩
          · rw [hk2] at hyb
            obtain ⟨h1, h2, _⟩ := eOk_in hk1 hyb
            have hji : j ≠ i := by rintro rfl; rw [hi] at hlj; cases hlj
            have hor : (bit ((befs [] l).getD i 0) j = true ∨ bit ((befs [] l).getD j 0) i = true) → (bit ((befs [] l).getD i 0) j && decide (j < 0 + i)) = true := by
              rintro (h | h)
              · have := (D.bef i o j ho hjl h).1
                rw [h, Bool.true_and]
                exact decide_eq_true (by omega)
              · have := hbeh j hjl h; rw [hlj] at this; cases this
            rcases h2 with h2 | h2 | h2
            · exact .inl h2
            · exact .inr (hor (D.tied i j o x ho hx hji (.inr ⟨h2, hhp⟩)))
            · exact .inr (hor (D.unord ho hji h2 hnb))
          · rw [hk2] at hyb; simp [inE] at hyb
        have hub : ∀ (j : Nat) (y : Ent), rs[j]? = some y → inE y.E b = true → b < s.nx + 16 * (j + 1) := by
          intro j y hy hyb
          obtain ⟨x, hx, hxd⟩ := hdst j y hy
          obtain ⟨y', hy', hok⟩ := hent j x hx
          rw [hy] at hy'
          injection hy' with hy'
          subst hy'
          rcases hok.2.2 with ⟨R', _, _, hk1, _, hk2, _⟩ | ⟨_, hk2, _⟩
          · rw [hk2] at hyb; exact (eOk_in hk1 hyb).1
          · rw [hk2] at hyb; simp [inE] at hyb
        by_cases hex : ∃ j, j < rs.length ∧ ∃ y, rs[j]? = some y ∧ inE y.E b = true ∧ (bit ((befs [] l).getD i 0) j && decide (j < 0 + i)) = true
        · obtain ⟨j, hj, ⟨y, hy, hyb, hqj⟩, hlast⟩ := exists_last hex
          have hlj : lst listed j = true := hbef j (by omega) (by simp only [Bool.and_eq_true] at hqj; exact hqj.1)
          have h1 : hget (Hp (lst listed) rs 0 s.h) b = hget y.E b := by
            refine Hp_last (p := lst listed) hyb hy (by rw [Nat.zero_add]; exact hlj) fun m z hm hz hzb => ?_
            rw [Nat.zero_add]
            cases hlm : lst listed m with
            | false => rfl
            | true =>
              rcases hq m z hz hzb hlm with h | h
              · have := hub j y hy hyb; omega
              · exact (hlast m hm (List.getElem?_eq_some_iff.1 hz).1 ⟨z, hz, hzb, h⟩).elim
          have h2 : hget (Hp (fun m => bit ((befs [] l).getD i 0) m && decide (m < 0 + i)) rs 0 s.h) b = hget y.E b := by
            refine Hp_last (p := fun m => bit ((befs [] l).getD i 0) m && decide (m < 0 + i)) hyb hy (by simp only [Nat.zero_add] at hqj ⊢; exact hqj) fun m z hm hz hzb => ?_
            simp only [Nat.zero_add]
            cases hqm : (bit ((befs [] l).getD i 0) m && decide (m < i)) with
            | false => rfl
            | true => exact (hlast m hm (List.getElem?_eq_some_iff.1 hz).1 ⟨z, hz, hzb, by rw [Nat.zero_add]; exact hqm⟩).elim
          exact h1.trans h2.symm
        · have hno : ∀ (j : Nat) (y : Ent), rs[j]? = some y → inE y.E b = true → (bit ((befs [] l).getD i 0) j && decide (j < 0 + i)) = false := by
            intro j y hy hyb
            cases hqm : (bit ((befs [] l).getD i 0) j && decide (j < 0 + i)) with
            | false => rfl
            | true => exact (hex ⟨j, (List.getElem?_eq_some_iff.1 hy).1, y, hy, hyb, hqm⟩).elim
          have h2 : hget (Hp (fun m => bit ((befs [] l).getD i 0) m && decide (m < 0 + i)) rs 0 s.h) b = hget s.h b :=
            Hp_none (p := fun m => bit ((befs [] l).getD i 0) m && decide (m < 0 + i)) fun j y hy hyb => by simp only [Nat.zero_add]; have := hno j y hy hyb; simpa only [Nat.zero_add] using this
          have hk0 : hget s.h b = some k := by rw [← hk, Hp_take]; exact h2.symm
          have hb0 := hh0 b k hk0
          have h1 : hget (Hp (lst listed) rs 0 s.h) b = hget s.h b := by
            refine Hp_none (p := lst listed) fun j y hy hyb => ?_
            rw [Nat.zero_add]
            cases hlm : lst listed j with
            | false => rfl
            | true =>
              rcases hq j y hy hyb hlm with h | h
              · omega
              · rw [hno j y hy hyb] at h; cases h
          exact h1.trans h2.symm
    refine aOp_wp' hT hW hid hR' hob fun v w' ρ' al' hE hsub hA hw' hko => fin v w' ρ' al' hE hsub (by rw [hr1]; exact hA) (by rw [hr2]; exact hw') hko fun b hb => ?_
    rw [hr2] at hb ⊢
    refine ⟨(eOk_in hek hb).1, fun hne => ?_, (eOk_in hek hb).2.2⟩
    cases hhp : heapy o.op with
    | true => rfl
    | false => exact (hne (aOp_still (id' := 0) (h' := []) hhp hR').2).elim
  · have hy := hguard g want (!want) hg hq
    rw [if_neg (by simp only [Region.wanted, hg, hy]; cases want <;> decide)]
    refine ⟨fun _ _ => trivial, fin undef w ρ _ (ext_refl_lift _) (fun _ hb => hb) (by rw [hr1]; trivial) (by rw [hr2]; exact hW.lift alW_inl) (.refl w) fun b hb => ?_⟩
    rw [hr2] at hb
    simp [inE] at hb

theorem cnt_set {listed : Array Bool} {i : Nat} (hi : i < listed.size) (hl : lst listed i = false) : (listed.setIfInBounds i true).toList.count false + 1 = listed.toList.count false := by
  have hg : listed.toList[i]'(by simpa using hi) = false := by
    unfold lst at hl
    rw [Array.getD_eq_getD_getElem?, Array.getElem?_eq_getElem hi] at hl
    simpa using hl
  have hpos : 0 < listed.toList.count false := List.count_pos_iff.2 (hg ▸ List.getElem_mem _)
  rw [Array.toList_setIfInBounds, List.count_set (by simpa using hi), hg]
  simp
  have : 0 < Array.count false listed := by simpa using hpos
  omega

/-- A region that draws its order, whatever the order: what the order of the text does. -/
theorem sw_drawF (hm : P.follows .mixedOrders = true) {id : Nat} {l : List Oper} (ms : Ms) (hok : drawOk l ms = true) {s : St} {Q : Exit → St → Prop} (h : aDr P ctx n ms s.nx s.h Q l l 0 [] [] s.t) : SW P ro n (.region id l.toArray true) s Q := by
  intro B w0 ρ al a w hpl H
  have D := drawOk_dok hok
  obtain ⟨rs, hlen, -, hent, hq⟩ := aDr_ents s.t h rfl rfl rfl
  simp only [Nat.zero_add] at hlen hent hq
  have hh0 : ∀ b k, hget s.h b = some k → b < s.nx := fun b k hk => H.al b (H.w.blk b k hk).here
  refine wpIn_region_any hm ?_
  have key : ∀ (fuel : Nat) (listed : Array Bool) (a : Act) (w : World), Phi n B w0 l rs s listed a w → listed.toList.count false ≤ fuel → wpAnyIn (Fw ro) 0 P .any l.toArray (fun e a' w' => ∃ ρ' al' s', RepS n B w0 ρ' al' s' a' w' ∧ Q e s') fuel listed a w := by
    have hdone : ∀ (listed : Array Bool) (a : Act) (w : World), Phi n B w0 l rs s listed a w → Region.ready .any l.toArray listed = [] → ∃ ρ' al' s', RepS n B w0 ρ' al' s' a w ∧ Q .normal s' := by
      intro listed a w H hr
      have hall : ∀ k, k < l.length → lst listed k = true := by
        intro k
        induction k using Nat.strongRecOn with
        | _ k ih =>
          intro hk
          cases hlk : lst listed k with
          | true => rfl
          | false =>
            exfalso
            have hks : k < listed.size := by rw [H.len]; exact hk
            have : k ∈ Region.ready .any l.toArray listed := by
              unfold Region.ready
              refine List.mem_filter.2 ⟨List.mem_range.2 (by simpa using hk), ?_⟩
              have h1 : listed.getD k true = false := by
                unfold lst at hlk
                rw [Array.getD_eq_getD_getElem?, Array.getElem?_eq_getElem hks] at hlk ⊢
                exact hlk
              simp only [h1, Bool.not_false, Bool.true_and, List.getElem?_toArray, List.getElem?_eq_getElem hk, Option.map_some, Option.getD_some]
              rw [← Array.all_toList, List.all_eq_true]
              intro e he
              cases hb : Region.binds .any e with
              | false => rfl
              | true =>
                have h2 := D.edge k l[k] (List.getElem?_eq_getElem hk) e he hb
                have h3 := ih e.on h2 (by omega)
                unfold lst at h3
                simpa using h3
            rw [hr] at this
            cases this
      obtain ⟨ρ, al, hT, hW, hal⟩ := H.rep
      have hlt : ∀ (j : Nat) (e : Ent), rs[j]? = some e → lst listed (0 + j) = true := fun j e he => by
        rw [Nat.zero_add]; exact hall j (by rw [← hlen]; exact (List.getElem?_eq_some_iff.1 he).1)
      refine ⟨ρ, al, _, ⟨H.size, H.defers, fun d => ?_, hW.sub fun b k hk => ?_, fun b hb => ?_⟩, hq⟩
      · have := hT d
        rw [Tm_congr (p' := fun _ => true) rfl fun j e he _ => hlt j e he] at this
        exact this
      · rw [← hk]
        exact Hp_congr rfl fun j e he _ => hlt j e he
      · rcases hal b hb with h | ⟨k, hk, _, h3, h4⟩
        · show b < _ + _; omega
        · show b < s.nx + 16 * l.length; omega
    intro fuel
    induction fuel with
    | zero =>
      intro listed a w H hc
      have hr : Region.ready .any l.toArray listed = [] := by
        rw [List.eq_nil_iff_forall_not_mem]
        intro i hi
        obtain ⟨hi1, hi2⟩ := List.mem_filter.1 hi
        have hil : i < listed.size := by rw [H.len]; simpa using hi1
        simp only [Bool.and_eq_true, Bool.not_eq_true'] at hi2
        have h0 : listed.toList.count false = 0 := by omega
        rw [List.count_eq_zero] at h0
        apply h0
        have : listed[i] = false := by
          have := hi2.1
          rwa [Array.getD_eq_getD_getElem?, Array.getElem?_eq_getElem hil] at this
        rw [← this]
        simp
      exact ⟨hr, hdone listed a w H hr⟩
    | succ fuel ih =>
      intro listed a w H hc
      refine ⟨hdone listed a w H, fun i hi => ?_⟩
      obtain ⟨hi1, hi2⟩ := List.mem_filter.1 hi
      have hil : i < l.length := by simpa using hi1
      have his : i < listed.size := by rw [H.len]; exact hil
      simp only [Bool.and_eq_true, Bool.not_eq_true', List.getElem?_toArray, List.getElem?_eq_getElem hil, Option.map_some, Option.getD_some] at hi2
      have hli : lst listed i = false := by
        have := hi2.1
        unfold lst
        rw [Array.getD_eq_getD_getElem?, Array.getElem?_eq_getElem his] at this ⊢
        exact this
      have hrdy : ∀ e ∈ l[i].after.toList, bindsE e = true → lst listed e.on = true := by
        intro e he hb
        have := hi2.2
        rw [← Array.all_toList, List.all_eq_true] at this
        have h1 := this e he
        unfold bindsE at hb
        rw [hb] at h1
        unfold lst
        simpa using h1
      unfold wpOpIn
      simp only [List.getElem?_toArray, List.getElem?_eq_getElem hil]
      have hcs := cnt_set his hli
      have := Phi.next (P := P) (ctx := ctx) (ro := ro) (K := wpAnyIn (Fw ro) 0 P .any l.toArray (fun e a' w' => ∃ ρ' al' s', RepS n B w0 ρ' al' s' a' w' ∧ Q e s') fuel (listed.setIfInBounds i true)) (Q := fun e a' w' => ∃ ρ' al' s', RepS n B w0 ρ' al' s' a' w' ∧ Q e s') D hlen hent hh0 H (List.getElem?_eq_getElem hil) hli hrdy fun a' w' H' => ih _ a' w' H' (by omega)
      split
      · rename_i hw
        rw [if_pos hw] at this
        exact this
      · rename_i hw
        rw [if_neg hw] at this
        exact this
  have hrep : lst (Array.replicate l.toArray.size false) = fun _ => false := by
    funext k
    unfold lst
    rw [Array.getD_eq_getD_getElem?, Array.getElem?_replicate]
    split <;> rfl
  refine key _ _ _ _ ⟨by simp, (fun k j _ _ h _ => by rw [hrep] at h; cases h), H.size, H.defers, ρ, al, ?_, ?_, fun b hb => .inl (H.al b hb)⟩ (by simp)
  · intro d
    rw [hrep, Tm_none fun _ _ _ _ => rfl]
    exact H.t d
  · refine (H.w.drew).sub fun b k hk => ?_
    rw [hrep, Hp_none fun _ _ _ _ => rfl] at hk
    exact hk

/-- .. where all wait for what changes blocks -/
theorem sw_draw (hm : P.follows .mixedOrders = true) {id : Nat} {l : List Oper} (ms : List Nat) (hok : drawOk l ⟨ms, [], []⟩ = true) {s : St} {Q : Exit → St → Prop} (h : aDr P ctx n ⟨ms, [], []⟩ s.nx s.h Q l l 0 [] [] s.t) : SW P ro n (.region id l.toArray true) s Q := sw_drawF hm _ hok h

end

end Go.Proofs.YtcdbldakjepjiaaDoor
