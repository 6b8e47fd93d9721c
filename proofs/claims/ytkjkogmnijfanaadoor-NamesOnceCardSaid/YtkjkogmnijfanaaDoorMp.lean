/- One map[string]bool in the value logic: looked up in drawn regions, stored into, made. -/
import Derived.Test.YtkjkogmnijfanaaDoorY6
set_option linter.unusedVariables false
set_option linter.unusedSimpArgs false
namespace Go.Proofs.YtkjkogmnijfanaaDoor
open Go.RowKit

/-- the map: its type, where it lies, its keys (each holds true) -/
structure MapX where
  mt : TypeId
  r : Nat
  ks : List ByteArray

def kvs (ks : List ByteArray) : List (Value × Value) := ks.map fun k => (Value.string k, Value.bool true)
def MapAt (X : MapX) (w : World) : Prop := ∃ es clk, w.heap[X.r]? = some (.map es clk) ∧ es.toList.map (fun e => (e.key, e.val)) = kvs X.ks
def LookOk (P : Program) (mt : TypeId) : Prop := ∀ (r : Nat) (ks : List ByteArray) (w : World) (k : ByteArray), MapAt ⟨mt, r, ks⟩ w → (Instr.lookup mt (.map (some r)) (.string k) false).run P w = .ok (.bool (ks.any fun x => k == x)) w
def XOk (P : Program) (X : MapX) (B : Base) (w0 : World) : Prop := B.S X.r ∧ LookOk P X.mt ∧ MapAt X w0

abbrev CtxM (P : Program) := MapX × Ctx P

def mapLook (X : MapX) (mt : TypeId) (x i : AV) : Option Res :=
  match x, i with
  | .s (.l (.v (.map (some r)))), .s (.l (.v (.string k))) => if mt = X.mt ∧ r = X.r then some ⟨True, .s (.l (.v (.bool (X.ks.any fun x => k == x)))), []⟩ else none
  | _, _ => none

noncomputable def bOp (P : Program) (ctx : CtxM P) (id : Nat) (o : Op) (ev : Operand → AV) (h : Heap) : Option Res :=
  match o with
  | .lookup mt x i false => mapLook ctx.1 mt (ev x) (ev i)
  | o => aOp P ctx.2 id o ev h

section
variable {P : Program} {ctx : CtxM P} {id : Nat} {o : Op} {ev ev' : Operand → AV} {h h' : Heap} {R : Res}
theorem bOp_look {mt : TypeId} {x i : Operand} : bOp P ctx id (.lookup mt x i false) ev h = mapLook ctx.1 mt (ev x) (ev i) := rfl
theorem bOp_else (hn : ∀ mt x i, o ≠ .lookup mt x i false) : bOp P ctx id o ev h = aOp P ctx.2 id o ev h := by
  unfold bOp
  split
  · exact absurd rfl (hn _ _ _)
  · rfl
theorem look_or (o : Op) : (∃ mt x i, o = .lookup mt x i false) ∨ ∀ mt x i, o ≠ .lookup mt x i false := by
  cases o with
  | lookup mt x i ok =>
    cases ok with
    | false => exact .inl ⟨_, _, _, rfl⟩
    | true => exact .inr fun _ _ _ h => by cases h
  | _ => exact .inr fun _ _ _ h => by cases h

theorem bOp_mono (hs : ∀ b k, hget h b = some k → hget h' b = some k) (hr : bOp P ctx id o ev h = some R) : bOp P ctx id o ev h' = some R := by
  rcases look_or o with ⟨mt, x, i, rfl⟩ | hn
  · exact hr
  · rw [bOp_else hn] at hr ⊢
    exact aOp_mono hs hr
theorem bOp_still (hh : heapy o = false) {id' : Nat} (hr : bOp P ctx id o ev h = some R) : bOp P ctx id' o ev h' = some R ∧ R.E = [] := by
  rcases look_or o with ⟨mt, x, i, rfl⟩ | hn
  · cases hh
  · rw [bOp_else hn] at hr ⊢
    exact aOp_still hh hr
theorem bOp_congr (he : ∀ x ∈ o.operands, ev x = ev' x) : bOp P ctx id o ev h = bOp P ctx id o ev' h := by
  rcases look_or o with ⟨mt, x, i, rfl⟩ | hn
  · rw [bOp_look, bOp_look, he x (by simp [Op.operands]), he i (by simp [Op.operands])]
  · rw [bOp_else hn, bOp_else hn]
    exact aOp_congr he
end

section
variable {P : Program} {ctx : CtxM P} {ro : Cf} {n : Nat} {B : Base} {w0 : World} {ρ : Nat → Loc} {al : Al} {a : Act} {w : World}
theorem bOp_wp' (hX : XOk P ctx.1 B w0) {t : Tmps} {h : Heap} (hT : TRep ρ al t a.tmps) (hW : WRep B w0 ρ al h w) {id : Nat} (hid : ∀ b, id ≤ b → b < id + 16 → ¬ al b) {o : Oper} {R : Res} {Q : Exit → Act → World → Prop} {K : Act → World → Prop} (hs : bOp P ctx id o.op (evT t) h = some R) (hob : R.ob)
    (hK : ∀ v w' ρ' al', Ext ρ ρ' al al' → (∀ b, al' b → alW al id b) → ARep ρ' al' R.r v → WRep B w0 ρ' al' (R.E ++ h) w' → KeepsD w w' → K (a.put o.dst v) w') : o.wpIn (Fw ro) 0 P a w K Q := by
  rcases look_or o.op with ⟨mt, x, i, ho⟩ | hn
  · rw [ho, bOp_look] at hs
    unfold mapLook at hs
    split at hs
    case h_2 => cases hs
    rename_i r k hx hi
    split at hs
    case isFalse => cases hs
    rename_i hc
    obtain ⟨rfl, rfl⟩ := hc
    injection hs with hs
    subst hs
    have vx : a.eval x = .map (some ctx.1.r) := by have := evT_rep hT x; rw [hx] at this; exact this
    have vi : a.eval i = .string k := by have := evT_rep hT i; rw [hi] at this; exact this
    refine ⟨fun _ _ => trivial, ?_⟩
    rw [Oper.semAt_eq _ _ _ (by rw [ho]; intro c h; cases h)]
    obtain ⟨hS, hL, es, clk, h1, h2⟩ := hX
    have hsem : (execOp a.eval o).run P w = .ok (.value (.bool (ctx.1.ks.any fun x => k == x))) w := by
      have := hL ctx.1.r ctx.1.ks w k ⟨es, clk, by rw [hW.below.block _ hS]; exact h1, h2⟩
      simp only [execOp, ho, vx, vi, Sem.run_bind, this]
      rfl
    rw [hsem]
    exact hK _ w ρ al (Ext.refl ρ al) (fun _ hb => .inl hb) rfl hW (.refl w)
  · rw [bOp_else hn] at hs
    exact aOp_wp' hT hW hid hs hob hK
end

noncomputable def bDr (P : Program) (ctx : CtxM P) (n : Nat) (ms : Ms) (nx : Nat) (h0 : Heap) (Q : Exit → St → Prop) (all : List Oper) : List Oper → Nat → List Nat → List Ent → Tmps → Prop
  | [], i, _, rs, T => Q .normal ⟨nx + 16 * i, T, Hp (fun _ => true) rs 0 h0⟩
  | o :: l, i, acc, rs, T =>
    match o.guard with
    | none => match bOp P ctx (nx + 16 * i) o.op (evT T) (veil (declOf ms.hs i) (Hp (bit (befOf acc o.after.toList)) rs 0 h0)) with
      | some R => dstOk n o.dst = true ∧ R.ob ∧ eOk ms nx i R.E ∧ bDr P ctx n ms nx h0 Q all l (i + 1) (acc ++ [befOf acc o.after.toList]) (rs ++ [⟨o.dst, R.r, R.E⟩]) (putT T o.dst R.r)
      | none => False
    | some (j, want) => match gAt all T j with
      | .s (.l (.v (.bool q))) => dstOk n o.dst = true ∧ (if q = want then match bOp P ctx (nx + 16 * i) o.op (evT T) (veil (declOf ms.hs i) (Hp (bit (befOf acc o.after.toList)) rs 0 h0)) with
          | some R => dstOk n o.dst = true ∧ R.ob ∧ eOk ms nx i R.E ∧ bDr P ctx n ms nx h0 Q all l (i + 1) (acc ++ [befOf acc o.after.toList]) (rs ++ [⟨o.dst, R.r, R.E⟩]) (putT T o.dst R.r)
          | none => False
        else bDr P ctx n ms nx h0 Q all l (i + 1) (acc ++ [befOf acc o.after.toList]) (rs ++ [⟨o.dst, .s (.l .any), []⟩]) (putT T o.dst (.s (.l .any))))
      | _ => False

def bDk (P : Program) (ctx : CtxM P) (n : Nat) (ms : Ms) (nx : Nat) (h0 : Heap) (Q : Exit → St → Prop) (all : List Oper) (d : Option Tmp) (l : List Oper) (i : Nat) (acc : List Nat) (rs : List Ent) (T : Tmps) : Option Res → Prop
  | some R => dstOk n d = true ∧ R.ob ∧ eOk ms nx i R.E ∧ bDr P ctx n ms nx h0 Q all l (i + 1) acc (rs ++ [⟨d, R.r, R.E⟩]) (putT T d R.r)
  | none => False

section
variable {P : Program} {ctx : CtxM P} {n : Nat} {ms : Ms} {nx : Nat} {h0 : Heap} {Q : Exit → St → Prop} {all l : List Oper} {i : Nat} {acc : List Nat} {rs : List Ent} {T : Tmps}
theorem bDr_nil : bDr P ctx n ms nx h0 Q all [] i acc rs T = Q .normal ⟨nx + 16 * i, T, Hp (fun _ => true) rs 0 h0⟩ := by simp only [bDr]
theorem bDr_one {d : Option Tmp} {op : Op} {t : TypeId} {p : String} {af : Array Edge} : bDr P ctx n ms nx h0 Q all (⟨d, op, t, p, af, none⟩ :: l) i acc rs T = bDk P ctx n ms nx h0 Q all d l i (acc ++ [befOf acc af.toList]) rs T (bOp P ctx (nx + 16 * i) op (evT T) (veil (declOf ms.hs i) (Hp (bit (befOf acc af.toList)) rs 0 h0))) := by simp only [bDr, bDk]
theorem bDr_yes {d : Option Tmp} {op : Op} {t : TypeId} {p : String} {af : Array Edge} {j : Nat} {want : Bool} (hd : dstOk n d = true) (hj : gAt all T j = .s (.l (.v (.bool want)))) : bDr P ctx n ms nx h0 Q all (⟨d, op, t, p, af, some (j, want)⟩ :: l) i acc rs T = bDk P ctx n ms nx h0 Q all d l i (acc ++ [befOf acc af.toList]) rs T (bOp P ctx (nx + 16 * i) op (evT T) (veil (declOf ms.hs i) (Hp (bit (befOf acc af.toList)) rs 0 h0))) := by
  simp only [bDr, hj, hd, true_and, if_pos]
  cases bOp P ctx (nx + 16 * i) op (evT T) (veil (declOf ms.hs i) (Hp (bit (befOf acc af.toList)) rs 0 h0)) <;> simp [bDk, hd]
theorem bDr_no {d : Option Tmp} {op : Op} {t : TypeId} {p : String} {af : Array Edge} {j : Nat} {want : Bool} (hd : dstOk n d = true) (hj : gAt all T j = .s (.l (.v (.bool (!want))))) : bDr P ctx n ms nx h0 Q all (⟨d, op, t, p, af, some (j, want)⟩ :: l) i acc rs T = bDr P ctx n ms nx h0 Q all l (i + 1) (acc ++ [befOf acc af.toList]) (rs ++ [⟨d, .s (.l .any), []⟩]) (putT T d (.s (.l .any))) := by
  simp only [bDr, hj, hd, true_and]
  rw [if_neg (by cases want <;> simp)]
theorem bDk_some {d : Option Tmp} {ob : Prop} {x : AV} {E : Heap} : bDk P ctx n ms nx h0 Q all d l i acc rs T (some ⟨ob, x, E⟩) = (dstOk n d = true ∧ ob ∧ eOk ms nx i E ∧ bDr P ctx n ms nx h0 Q all l (i + 1) acc (rs ++ [⟨d, x, E⟩]) (putT T d x)) := rfl

def EntOkB (P : Program) (ctx : CtxM P) (n : Nat) (ms : Ms) (nx : Nat) (h0 : Heap) (all : List Oper) (t0 : Tmps) (bs : List Nat) (rs : List Ent) (k : Nat) (o : Oper) (e : Ent) : Prop :=
  e.dst = o.dst ∧ dstOk n o.dst = true ∧
  ((∃ R, bOp P ctx (nx + 16 * k) o.op (evT (Tm (fun _ => true) (rs.take k) 0 t0)) (veil (declOf ms.hs k) (Hp (bit (bs.getD k 0)) (rs.take k) 0 h0)) = some R ∧ R.ob ∧ eOk ms nx k R.E ∧ e.r = R.r ∧ e.E = R.E ∧ (o.guard = none ∨ ∃ j want, o.guard = some (j, want) ∧ gAt all (Tm (fun _ => true) (rs.take k) 0 t0) j = .s (.l (.v (.bool want))))) ∨
   (e.r = .s (.l .any) ∧ e.E = [] ∧ ∃ j want, o.guard = some (j, want) ∧ gAt all (Tm (fun _ => true) (rs.take k) 0 t0) j = .s (.l (.v (.bool (!want))))))

theorem bDr_ents (t0 : Tmps) : ∀ {l : List Oper} {i : Nat} {acc : List Nat} {rs : List Ent} {T : Tmps}, bDr P ctx n ms nx h0 Q all l i acc rs T → T = Tm (fun _ => true) rs 0 t0 → acc.length = i → rs.length = i →
    ∃ rs', rs'.length = i + l.length ∧ rs'.take i = rs ∧ (∀ (k : Nat) (o : Oper), l[k]? = some o → ∃ e, rs'[i + k]? = some e ∧ EntOkB P ctx n ms nx h0 all t0 (befs acc l) rs' (i + k) o e) ∧ Q .normal ⟨nx + 16 * (i + l.length), Tm (fun _ => true) rs' 0 t0, Hp (fun _ => true) rs' 0 h0⟩
  | [], i, acc, rs, T, h, hT, ha, hr => by
    simp only [bDr] at h
    subst hT
    exact ⟨rs, by simp [hr], by rw [← hr]; simp, by simp, by simpa using h⟩
  | o :: l, i, acc, rs, T, h, hT, ha, hr => by
    have go : ∀ (e : Ent), bDr P ctx n ms nx h0 Q all l (i + 1) (acc ++ [befOf acc o.after.toList]) (rs ++ [e]) (putT T e.dst e.r) → (∀ rs' : List Ent, rs'.take i = rs → EntOkB P ctx n ms nx h0 all t0 (befs acc (o :: l)) rs' i o e) → ∃ rs', rs'.length = i + (o :: l).length ∧ rs'.take i = rs ∧ (∀ (k : Nat) (x : Oper), (o :: l)[k]? = some x → ∃ e, rs'[i + k]? = some e ∧ EntOkB P ctx n ms nx h0 all t0 (befs acc (o :: l)) rs' (i + k) x e) ∧ Q .normal ⟨nx + 16 * (i + (o :: l).length), Tm (fun _ => true) rs' 0 t0, Hp (fun _ => true) rs' 0 h0⟩ := by
      intro e hn he
      obtain ⟨rs', g1, g2, g3, g4⟩ := bDr_ents t0 (l := l) hn (by rw [Tm_snoc, if_pos rfl, hT]) (by simp [ha]) (by simp [hr])
      have hpre : rs'.take i = rs := by
        have := congrArg (List.take i) g2
        rw [List.take_take, Nat.min_eq_left (by omega)] at this
        rw [this, ← hr, List.take_left]
      have hei : rs'[i]? = some e := by
        have : (rs'.take (i + 1))[i]? = some e := by rw [g2, ← hr, List.getElem?_append_right (Nat.le_refl _)]; simp
        rwa [List.getElem?_take, if_pos (by omega)] at this
      refine ⟨rs', by rw [g1, List.length_cons]; omega, hpre, ?_, ?_⟩
      · intro k x hx
        cases k with
        | zero =>
          simp at hx
          subst hx
          exact ⟨e, hei, he rs' hpre⟩
        | succ k =>
          have := g3 k x (by simpa using hx)
          rw [show i + 1 + k = i + (k + 1) by omega] at this
          exact this
      · rw [show i + (o :: l).length = i + 1 + l.length by simp; omega]
        exact g4
    have hbs : (befs acc (o :: l)).getD i 0 = befOf acc o.after.toList := by rw [← ha]; exact befs_next
    simp only [bDr] at h
    split at h
    · rename_i hg
      split at h
      case h_2 => exact h.elim
      rename_i R hR
      obtain ⟨h1, h2, h3, h4⟩ := h
      refine go ⟨o.dst, R.r, R.E⟩ h4 fun rs' hp => ⟨rfl, h1, .inl ⟨R, ?_, h2, h3, rfl, rfl, .inl hg⟩⟩
      rw [hp, hbs, ← hT]
      exact hR
    · rename_i j want hg
      split at h
      case h_2 => exact h.elim
      rename_i q hq
      obtain ⟨h1, h⟩ := h
      split at h
      · rename_i hqw
        split at h
        case h_2 => exact h.elim
        rename_i R hR
        obtain ⟨h1, h2, h3, h4⟩ := h
        refine go ⟨o.dst, R.r, R.E⟩ h4 fun rs' hp => ⟨rfl, h1, .inl ⟨R, ?_, h2, h3, rfl, rfl, .inr ⟨j, want, hg, ?_⟩⟩⟩
        · rw [hp, hbs, ← hT]
          exact hR
        · rw [hp, ← hT, hq, hqw]
      · rename_i hqw
        refine go ⟨o.dst, .s (.l .any), []⟩ h fun rs' hp => ⟨rfl, h1, .inr ⟨rfl, rfl, j, want, hg, ?_⟩⟩
        rw [hp, ← hT, hq]
        cases q <;> cases want <;> simp_all
end

section
variable {P : Program} {ctx : CtxM P} {ro : Cf} {n : Nat} {B : Base} {w0 : World}
theorem Phi.nextB (hX : XOk P ctx.1 B w0) {l : List Oper} {ms : Ms} (D : DOk l ms) {rs : List Ent} {s : St} {Q : Exit → Act → World → Prop} {K : Act → World → Prop} (hlen : rs.length = l.length)
    (hent : ∀ (k : Nat) (o : Oper), l[k]? = some o → ∃ e, rs[k]? = some e ∧ EntOkB P ctx n ms s.nx s.h l s.t (befs [] l) rs k o e)
    (hh0 : ∀ b k, hget s.h b = some k → b < s.nx)
    {listed : Array Bool} {a : Act} {w : World} (H : Phi n B w0 l rs s listed a w) {i : Nat} {o : Oper} (ho : l[i]? = some o) (hi : lst listed i = false) (hrdy : ∀ e ∈ o.after.toList, bindsE e = true → lst listed e.on = true)
    (hK : ∀ a' w', Phi n B w0 l rs s (listed.setIfInBounds i true) a' w' → K a' w') :
    if Region.wanted o (yielded l.toArray a.tmps) then o.wpIn (Fw ro) 0 P a w K Q else (∀ f, o.about P w a.eval = some f → (Fw ro).fn f) ∧ K (a.put o.dst undef) w := by
  have hil : i < l.length := (List.getElem?_eq_some_iff.1 ho).1
  have his : i < listed.size := by rw [H.len]; exact hil
  -- what stands ahead of it is done
  have hbef : ∀ k, k < l.length → bit ((befs [] l).getD i 0) k = true → lst listed k = true := by
    intro k hk hb
    obtain ⟨_, e, he, hbe, h | h⟩ := D.bef i o k ho hk hb
    · rw [← h]; exact hrdy e he hbe
    · have h1 := D.edge i o ho e he hbe
      exact H.down e.on k (by omega) hk (hrdy e he hbe) h
  -- what it stands ahead of is not
  have hbeh : ∀ k, k < l.length → bit ((befs [] l).getD k 0) i = true → lst listed k = false := by
    intro k hk hb
    cases hq : lst listed k with
    | false => rfl
    | true => have := H.down k i hk hil hq hb; rw [hi] at this; cases this
  have hdst : ∀ (k : Nat) (e : Ent), rs[k]? = some e → ∃ x, l[k]? = some x ∧ e.dst = x.dst := by
    intro k e he
    have hk : k < l.length := by rw [← hlen]; exact (List.getElem?_eq_some_iff.1 he).1
    obtain ⟨e', h1, h2⟩ := hent k l[k] (List.getElem?_eq_getElem hk)
    rw [he] at h1
    injection h1 with h1
    subst h1
    exact ⟨_, List.getElem?_eq_getElem hk, h2.1⟩
  -- a slot that it looks at holds what it held in the order of the text
  have hslot : ∀ d, d ∈ looks o l → tget (Tm (fun _ => true) (rs.take i) 0 s.t) d = tget (Tm (lst listed) rs 0 s.t) d := by
    intro d hd
    rw [Tm_take]
    refine Tm_congr rfl fun j e he hde => ?_
    simp only [Nat.zero_add, Bool.true_and]
    obtain ⟨x, hx, hxd⟩ := hdst j e he
    have hj : j < l.length := (List.getElem?_eq_some_iff.1 hx).1
    by_cases hji : j = i
    · subst hji; rw [hi]; simp
    · rcases D.tied i j o x ho hx hji (.inl (tied_of (.inr ⟨hxd ▸ hde, hd⟩))) with h | h
      · have := (D.bef i o j ho hj h).1
        rw [hbef j hj h]
        simpa using this
      · have := (D.bef j x i hx hil h).1
        rw [hbeh j hj h]
        simp; omega
  obtain ⟨e, hei, hed, hdok, hcase⟩ := hent i o ho
  obtain ⟨ρ, al, hT, hW, hal⟩ := H.rep
  have hid : ∀ b, s.nx + 16 * i ≤ b → b < s.nx + 16 * i + 16 → ¬ al b := by
    intro b h1 h2 hb
    rcases hal b hb with h | ⟨k, hk, hlk, h3, h4⟩
    · omega
    · have : k = i := by omega
      subst this
      rw [hi] at hlk; cases hlk
  have hguard : ∀ (g : Nat) (want q : Bool), o.guard = some (g, want) → gAt l (Tm (fun _ => true) (rs.take i) 0 s.t) g = .s (.l (.v (.bool q))) → yielded l.toArray a.tmps g = some q := by
    intro g want q hg hq
    refine gAt_yield hT H.size ?_
    rw [← hq]
    unfold gAt
    obtain ⟨_, hgl⟩ := D.guard i o g want ho hg
    cases hx : l[g]? with
    | none => rfl
    | some x =>
      simp only
      cases hxd : x.dst with
      | none => rfl
      | some d =>
        simp only
        exact (hslot d (by unfold looks; simp [hg, hx, hxd])).symm
  -- the new standing
  have fin : ∀ v w' ρ' al', Ext ρ ρ' al al' → (∀ b, al' b → alW al (s.nx + 16 * i) b) → ARep ρ' al' e.r v → WRep B w0 ρ' al' (e.E ++ Hp (lst listed) rs 0 s.h) w' → KeepsD w w' → (∀ b, inE e.E b = true → b < s.nx + 16 * (i + 1) ∧ (e.E ≠ [] → heapy o.op = true) ∧ b ∉ declOf ms.hs i) → K (a.put o.dst v) w' := by
    intro v w' ρ' al' hE hsub hA hw hko hEi
    have hp' : ∀ k, lst (listed.setIfInBounds i true) k = (lst listed k || decide (k = i)) := fun k => lst_set his
    have hpi : lst (listed.setIfInBounds i true) i = true := by rw [hp']; simp
    have hpn : ∀ k, k ≠ i → lst (listed.setIfInBounds i true) k = lst listed k := fun k hk => by rw [hp']; simp [hk]
    refine hK _ _ ⟨by simp [H.len], ?_, put_size.trans H.size, (by rw [put_defers]; exact H.defers.keep hko), ρ', al', ?_, ?_, ?_⟩
    · intro k j hk hj h1 h2
      by_cases hji : j = i
      · rw [hji]; exact hpi
      · rw [hpn j hji]
        by_cases hki : k = i
        · subst hki; exact hbef j hj h2
        · rw [hpn k hki] at h1; exact H.down k j hk hj h1 h2
    · intro d
      have hput := (hT.ext hE).putT (d := o.dst) H.size hdok hA d
      have e1 : tget (Tm (lst (listed.setIfInBounds i true)) rs 0 s.t) d = tget (putT (Tm (lst listed) rs 0 s.t) o.dst e.r) d := by
        by_cases hd : o.dst = some d
        · rw [hd, putT, tget, if_pos rfl]
          refine Tm_last (hed.trans hd) hei (by rw [Nat.zero_add]; exact hpi) fun m y hm hy hyd => ?_
          rw [Nat.zero_add, hpn m (by omega)]
          obtain ⟨x, hx, hxd⟩ := hdst m y hy
          have hml : m < l.length := (List.getElem?_eq_some_iff.1 hx).1
          rcases D.tied i m o x ho hx (by omega) (.inl (tied_of (.inl ⟨hd, .inr (hxd ▸ hyd)⟩))) with h | h
          · have := (D.bef i o m ho hml h).1; omega
          · exact hbeh m hml h
        · have e2 : tget (putT (Tm (lst listed) rs 0 s.t) o.dst e.r) d = tget (Tm (lst listed) rs 0 s.t) d := by
            cases hq : o.dst with
            | none => rfl
            | some q => rw [putT, tget, if_neg (fun hh => hd (by rw [hq, hh]))]
          rw [e2]
          refine Tm_congr rfl fun j y hy hyd => ?_
          rw [Nat.zero_add]
          refine hpn j ?_
          rintro rfl
          rw [hei] at hy
          injection hy with hy
          subst hy
          exact hd (hed ▸ hyd)
      rw [e1]
      exact hput
    · refine hw.sub fun b k hk => ?_
      rw [← hk, hget_app]
      split
      · rename_i hb
        refine (Hp_last hb hei (by rw [Nat.zero_add]; exact hpi) fun m y hm hy hyb => ?_).symm
        rw [Nat.zero_add, hpn m (by omega)]
        obtain ⟨x, hx, hxd⟩ := hdst m y hy
        have hml : m < l.length := (List.getElem?_eq_some_iff.1 hx).1
        obtain ⟨y', hy', hok⟩ := hent m x hx
        rw [hy] at hy'
        injection hy' with hy'
        subst hy'
        have hne : e.E ≠ [] := by intro h0; rw [h0] at hb; simp [inE] at hb
        have hord : bit ((befs [] l).getD i 0) m = true ∨ bit ((befs [] l).getD m 0) i = true := by
          rcases hok.2.2 with ⟨R, _, _, hk1, _, hk2, _⟩ | ⟨_, hk2, _⟩
          · rw [hk2] at hyb
            obtain ⟨h1, h2, _⟩ := eOk_in hk1 hyb
            rcases h2 with h2 | h2 | h2
            · have := (hEi b hb).1; omega
            · exact D.tied i m o x ho hx (by omega) (.inr ⟨h2, (hEi b hb).2.1 hne⟩)
            · exact D.unord ho (by omega) h2 (hEi b hb).2.2
          · rw [hk2] at hyb; simp [inE] at hyb
        rcases hord with h | h
        · have := (D.bef i o m ho hml h).1; omega
        · exact hbeh m hml h
      · rename_i hb
        refine (Hp_congr rfl fun j y hy hyb => ?_).symm
        rw [Nat.zero_add]
        refine hpn j ?_
        rintro rfl
        rw [hei] at hy
        injection hy with hy
        subst hy
        exact hb hyb
    · intro b hb'
      rcases hsub b hb' with hb | hb
      · rcases hal b hb with h | ⟨k, hk, hlk, h3, h4⟩
        · exact .inl h
        · exact .inr ⟨k, hk, by rw [hp', hlk]; rfl, h3, h4⟩
      · exact .inr ⟨i, hil, hpi, hb.1, hb.2⟩
  rcases hcase with ⟨R, hR, hob, hek, hr1, hr2, hg⟩ | ⟨hr1, hr2, g, want, hg, hq⟩
  · have hw : Region.wanted o (yielded l.toArray a.tmps) = true := by
      rcases hg with hg | ⟨g, want, hg, hq⟩
      · simp [Region.wanted, hg]
      · have := hguard g want want hg hq
        simp [Region.wanted, hg, this]
    rw [if_pos hw]
    have hops : ∀ x ∈ o.op.operands, evT (Tm (fun _ => true) (rs.take i) 0 s.t) x = evT (Tm (lst listed) rs 0 s.t) x := by
      intro x hx
      cases x with
      | tmp d =>
        refine hslot d ?_
        unfold looks
        refine List.mem_append.2 (.inl (List.mem_filterMap.2 ⟨.tmp d, by simpa using hx, rfl⟩))
      | const v => rfl
      | global g => rfl
      | func f => rfl
    rw [bOp_congr hops] at hR
    have hR' : bOp P ctx (s.nx + 16 * i) o.op (evT (Tm (lst listed) rs 0 s.t)) (Hp (lst listed) rs 0 s.h) = some R := by
      cases hhp : heapy o.op with
      | false => exact (bOp_still hhp hR).1
      | true =>
        refine bOp_mono (fun b k hk => ?_) hR
        obtain ⟨hnb, hk⟩ := hget_veil hk
        rw [← hk, Hp_take]
        -- the entry that is seen is the one that was seen in the order of the text
        have hq : ∀ (j : Nat) (y : Ent), rs[j]? = some y → inE y.E b = true → lst listed j = true → s.nx + 16 * j ≤ b ∨ (bit ((befs [] l).getD i 0) j && decide (j < 0 + i)) = true := by
          intro j y hy hyb hlj
          obtain ⟨x, hx, hxd⟩ := hdst j y hy
          have hjl : j < l.length := (List.getElem?_eq_some_iff.1 hx).1
          obtain ⟨y', hy', hok⟩ := hent j x hx
          rw [hy] at hy'
          injection hy' with hy'
          subst hy'
          rcases hok.2.2 with ⟨R', _, _, hk1, _, hk2, _⟩ | ⟨_, hk2, _⟩
          · rw [hk2] at hyb
            obtain ⟨h1, h2, _⟩ := eOk_in hk1 hyb
            have hji : j ≠ i := by rintro rfl; rw [hi] at hlj; cases hlj
            have hor : (bit ((befs [] l).getD i 0) j = true ∨ bit ((befs [] l).getD j 0) i = true) → (bit ((befs [] l).getD i 0) j && decide (j < 0 + i)) = true := by
              rintro (h | h)
              · have := (D.bef i o j ho hjl h).1
                rw [h, Bool.true_and]
                exact decide_eq_true (by omega)
              · have := hbeh j hjl h; rw [hlj] at this; cases this
            rcases h2 with h2 | h2 | h2
            · exact .inl h2
            · exact .inr (hor (D.tied i j o x ho hx hji (.inr ⟨h2, hhp⟩)))
            · exact .inr (hor (D.unord ho hji h2 hnb))
          · rw [hk2] at hyb; simp [inE] at hyb
        have hub : ∀ (j : Nat) (y : Ent), rs[j]? = some y → inE y.E b = true → b < s.nx + 16 * (j + 1) := by
          intro j y hy hyb
          obtain ⟨x, hx, hxd⟩ := hdst j y hy
          obtain ⟨y', hy', hok⟩ := hent j x hx
          rw [hy] at hy'
          injection hy' with hy'
          subst hy'
          rcases hok.2.2 with ⟨R', _, _, hk1, _, hk2, _⟩ | ⟨_, hk2, _⟩
          · rw [hk2] at hyb; exact (eOk_in hk1 hyb).1
          · rw [hk2] at hyb; simp [inE] at hyb
        by_cases hex : ∃ j, j < rs.length ∧ ∃ y, rs[j]? = some y ∧ inE y.E b = true ∧ (bit ((befs [] l).getD i 0) j && decide (j < 0 + i)) = true
        · obtain ⟨j, hj, ⟨y, hy, hyb, hqj⟩, hlast⟩ := exists_last hex
          have hlj : lst listed j = true := hbef j (by omega) (by simp only [Bool.and_eq_true] at hqj; exact hqj.1)
          have h1 : hget (Hp (lst listed) rs 0 s.h) b = hget y.E b := by
            refine Hp_last (p := lst listed) hyb hy (by rw [Nat.zero_add]; exact hlj) fun m z hm hz hzb => ?_
            rw [Nat.zero_add]
            cases hlm : lst listed m with
            | false => rfl
            | true =>
              rcases hq m z hz hzb hlm with h | h
              · have := hub j y hy hyb; omega
              · exact (hlast m hm (List.getElem?_eq_some_iff.1 hz).1 ⟨z, hz, hzb, h⟩).elim
          have h2 : hget (Hp (fun m => bit ((befs [] l).getD i 0) m && decide (m < 0 + i)) rs 0 s.h) b = hget y.E b := by
            refine Hp_last (p := fun m => bit ((befs [] l).getD i 0) m && decide (m < 0 + i)) hyb hy (by simp only [Nat.zero_add] at hqj ⊢; exact hqj) fun m z hm hz hzb => ?_
            simp only [Nat.zero_add]
            cases hqm : (bit ((befs [] l).getD i 0) m && decide (m < i)) with
            | false => rfl
            | true => exact (hlast m hm (List.getElem?_eq_some_iff.1 hz).1 ⟨z, hz, hzb, by rw [Nat.zero_add]; exact hqm⟩).elim
          exact h1.trans h2.symm
        · have hno : ∀ (j : Nat) (y : Ent), rs[j]? = some y → inE y.E b = true → (bit ((befs [] l).getD i 0) j && decide (j < 0 + i)) = false := by
            intro j y hy hyb
            cases hqm : (bit ((befs [] l).getD i 0) j && decide (j < 0 + i)) with
            | false => rfl
            | true => exact (hex ⟨j, (List.getElem?_eq_some_iff.1 hy).1, y, hy, hyb, hqm⟩).elim
          have h2 : hget (Hp (fun m => bit ((befs [] l).getD i 0) m && decide (m < 0 + i)) rs 0 s.h) b = hget s.h b :=
            Hp_none (p := fun m => bit ((befs [] l).getD i 0) m && decide (m < 0 + i)) fun j y hy hyb => by simp only [Nat.zero_add]; have := hno j y hy hyb; simpa only [Nat.zero_add] using this
          have hk0 : hget s.h b = some k := by rw [← hk, Hp_take]; exact h2.symm
          have hb0 := hh0 b k hk0
          have h1 : hget (Hp (lst listed) rs 0 s.h) b = hget s.h b := by
            refine Hp_none (p := lst listed) fun j y hy hyb => ?_
            rw [Nat.zero_add]
            cases hlm : lst listed j with
            | false => rfl
            | true =>
              rcases hq j y hy hyb hlm with h | h
              · omega
              · rw [hno j y hy hyb] at h; cases h
          exact h1.trans h2.symm
    refine bOp_wp' hX hT hW hid hR' hob fun v w' ρ' al' hE hsub hA hw' hko => fin v w' ρ' al' hE hsub (by rw [hr1]; exact hA) (by rw [hr2]; exact hw') hko fun b hb => ?_
    rw [hr2] at hb ⊢
    refine ⟨(eOk_in hek hb).1, fun hne => ?_, (eOk_in hek hb).2.2⟩
    cases hhp : heapy o.op with
    | true => rfl
    | false => exact (hne (bOp_still (id' := 0) (h' := []) hhp hR').2).elim
  · have hy := hguard g want (!want) hg hq
    rw [if_neg (by simp only [Region.wanted, hg, hy]; cases want <;> decide)]
    refine ⟨fun _ _ => trivial, fin undef w ρ _ (ext_refl_lift _) (fun _ hb => hb) (by rw [hr1]; trivial) (by rw [hr2]; exact hW.lift alW_inl) (.refl w) fun b hb => ?_⟩
    rw [hr2] at hb
    simp [inE] at hb

/-- A walk in worlds where that map lies and stays. -/
def SX (P : Program) (X : MapX) (ro : Cf) (n : Nat) (c : Code) (s : St) (Q : Exit → St → Prop) : Prop :=
  ∀ B w0 ρ al a w, B.pl.length = ro.K → XOk P X B w0 → RepS n B w0 ρ al s a w → c.wpIn (Fw ro) 0 P (fun e a' w' => ∃ ρ' al' s', RepS n B w0 ρ' al' s' a' w' ∧ Q e s') a w

theorem sw_drawB (hm : P.follows .mixedOrders = true) {id : Nat} {l : List Oper} (ms : Ms) (hok : drawOk l ms = true) {s : St} {Q : Exit → St → Prop} (h : bDr P ctx n ms s.nx s.h Q l l 0 [] [] s.t) : SX P ctx.1 ro n (.region id l.toArray true) s Q := by
  intro B w0 ρ al a w hpl hX H
  have D := drawOk_dok hok
  obtain ⟨rs, hlen, -, hent, hq⟩ := bDr_ents s.t h rfl rfl rfl
  simp only [Nat.zero_add] at hlen hent hq
  have hh0 : ∀ b k, hget s.h b = some k → b < s.nx := fun b k hk => H.al b (H.w.blk b k hk).here
  refine wpIn_region_any hm ?_
  have key : ∀ (fuel : Nat) (listed : Array Bool) (a : Act) (w : World), Phi n B w0 l rs s listed a w → listed.toList.count false ≤ fuel → wpAnyIn (Fw ro) 0 P .any l.toArray (fun e a' w' => ∃ ρ' al' s', RepS n B w0 ρ' al' s' a' w' ∧ Q e s') fuel listed a w := by
    have hdone : ∀ (listed : Array Bool) (a : Act) (w : World), Phi n B w0 l rs s listed a w → Region.ready .any l.toArray listed = [] → ∃ ρ' al' s', RepS n B w0 ρ' al' s' a w ∧ Q .normal s' := by
      intro listed a w H hr
      have hall : ∀ k, k < l.length → lst listed k = true := by
        intro k
        induction k using Nat.strongRecOn with
        | _ k ih =>
          intro hk
          cases hlk : lst listed k with
          | true => rfl
          | false =>
            exfalso
            have hks : k < listed.size := by rw [H.len]; exact hk
            have : k ∈ Region.ready .any l.toArray listed := by
              unfold Region.ready
              refine List.mem_filter.2 ⟨List.mem_range.2 (by simpa using hk), ?_⟩
              have h1 : listed.getD k true = false := by
                unfold lst at hlk
                rw [Array.getD_eq_getD_getElem?, Array.getElem?_eq_getElem hks] at hlk ⊢
                exact hlk
              simp only [h1, Bool.not_false, Bool.true_and, List.getElem?_toArray, List.getElem?_eq_getElem hk, Option.map_some, Option.getD_some]
              rw [← Array.all_toList, List.all_eq_true]
              intro e he
              cases hb : Region.binds .any e with
              | false => rfl
              | true =>
                have h2 := D.edge k l[k] (List.getElem?_eq_getElem hk) e he hb
                have h3 := ih e.on h2 (by omega)
                unfold lst at h3
                simpa using h3
            rw [hr] at this
            cases this
      obtain ⟨ρ, al, hT, hW, hal⟩ := H.rep
      have hlt : ∀ (j : Nat) (e : Ent), rs[j]? = some e → lst listed (0 + j) = true := fun j e he => by
        rw [Nat.zero_add]; exact hall j (by rw [← hlen]; exact (List.getElem?_eq_some_iff.1 he).1)
      refine ⟨ρ, al, _, ⟨H.size, H.defers, fun d => ?_, hW.sub fun b k hk => ?_, fun b hb => ?_⟩, hq⟩
      · have := hT d
        rw [Tm_congr (p' := fun _ => true) rfl fun j e he _ => hlt j e he] at this
        exact this
      · rw [← hk]
        exact Hp_congr rfl fun j e he _ => hlt j e he
      · rcases hal b hb with h | ⟨k, hk, _, h3, h4⟩
        · show b < _ + _; omega
        · show b < s.nx + 16 * l.length; omega
    intro fuel
    induction fuel with
    | zero =>
      intro listed a w H hc
      have hr : Region.ready .any l.toArray listed = [] := by
        rw [List.eq_nil_iff_forall_not_mem]
        intro i hi
        obtain ⟨hi1, hi2⟩ := List.mem_filter.1 hi
        have hil : i < listed.size := by rw [H.len]; simpa using hi1
        simp only [Bool.and_eq_true, Bool.not_eq_true'] at hi2
        have h0 : listed.toList.count false = 0 := by omega
        rw [List.count_eq_zero] at h0
        apply h0
        have : listed[i] = false := by
          have := hi2.1
          rwa [Array.getD_eq_getD_getElem?, Array.getElem?_eq_getElem hil] at this
        rw [← this]
        simp
      exact ⟨hr, hdone listed a w H hr⟩
    | succ fuel ih =>
      intro listed a w H hc
      refine ⟨hdone listed a w H, fun i hi => ?_⟩
      obtain ⟨hi1, hi2⟩ := List.mem_filter.1 hi
      have hil : i < l.length := by simpa using hi1
      have his : i < listed.size := by rw [H.len]; exact hil
      simp only [Bool.and_eq_true, Bool.not_eq_true', List.getElem?_toArray, List.getElem?_eq_getElem hil, Option.map_some, Option.getD_some] at hi2
      have hli : lst listed i = false := by
        have := hi2.1
        unfold lst
        rw [Array.getD_eq_getD_getElem?, Array.getElem?_eq_getElem his] at this ⊢
        exact this
      have hrdy : ∀ e ∈ l[i].after.toList, bindsE e = true → lst listed e.on = true := by
        intro e he hb
        have := hi2.2
        rw [← Array.all_toList, List.all_eq_true] at this
        have h1 := this e he
        unfold bindsE at hb
        rw [hb] at h1
        unfold lst
        simpa using h1
      unfold wpOpIn
      simp only [List.getElem?_toArray, List.getElem?_eq_getElem hil]
      have hcs := cnt_set his hli
      have := Phi.nextB (P := P) (hX := hX) (ctx := ctx) (ro := ro) (K := wpAnyIn (Fw ro) 0 P .any l.toArray (fun e a' w' => ∃ ρ' al' s', RepS n B w0 ρ' al' s' a' w' ∧ Q e s') fuel (listed.setIfInBounds i true)) (Q := fun e a' w' => ∃ ρ' al' s', RepS n B w0 ρ' al' s' a' w' ∧ Q e s') D hlen hent hh0 H (List.getElem?_eq_getElem hil) hli hrdy fun a' w' H' => ih _ a' w' H' (by omega)
      split
      · rename_i hw
        rw [if_pos hw] at this
        exact this
      · rename_i hw
        rw [if_neg hw] at this
        exact this
  have hrep : lst (Array.replicate l.toArray.size false) = fun _ => false := by
    funext k
    unfold lst
    rw [Array.getD_eq_getD_getElem?, Array.getElem?_replicate]
    split <;> rfl
  refine key _ _ _ _ ⟨by simp, (fun k j _ _ h _ => by rw [hrep] at h; cases h), H.size, H.defers, ρ, al, ?_, ?_, fun b hb => .inl (H.al b hb)⟩ (by simp)
  · intro d
    rw [hrep, Tm_none fun _ _ _ _ => rfl]
    exact H.t d
  · refine (H.w.drew).sub fun b k hk => ?_
    rw [hrep, Hp_none fun _ _ _ _ => rfl] at hk
    exact hk
end

end Go.Proofs.YtkjkogmnijfanaaDoor
