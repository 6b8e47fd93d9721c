/- Lines: functions that look at one number of their caller's; numbers. -/
import Derived.Test.YtcdbldakjepjiaaDoorWs
import Derived.Test.YtcdbldakjepjiaaDoorL5
set_option linter.unusedVariables false
set_option linter.unusedSimpArgs false
namespace Go.Proofs.YtcdbldakjepjiaaDoor
open Go.RowKit

def runO {X : Type} (dec : List AV → Option (Prop × X)) (out : X → AV) (zs : List AV) : Option Res := match dec zs with | some (q, x) => some ⟨q, out x, []⟩ | none => none
/-- a function of plain values; its result hangs on lasting memory at most -/
def mkS {P : Program} {X : Type} (f : FuncId) (hen : ∀ (args : Array Value) (w : World), (callFunc f args).run P w = .ok (.enter f args) w) (dec : List AV → Option (Prop × X)) (vs : X → List Value) (out : X → AV)
    (hdec : ∀ {zs : List AV} {q : Prop} {x : X}, dec zs = some (q, x) → ∀ (ρ : Nat → Loc) (al : Al) (vals : List Value), AsRep ρ al zs vals → vals = vs x)
    (hout : ∀ (x : X) (ρ : Nat → Loc) (al : Al) (v : Value), ARep ρ0 (al0 al.M) (out x) v → ARep ρ al (out x) v)
    (calls : ∀ {zs : List AV} {q : Prop} {x : X}, dec zs = some (q, x) → q → ∀ (M : Mem) (w : World), Gok M → (∀ b o y, M b o = some y → w.cell? ⟨b, o, none⟩ = some y) →
      Calls P f (vs x).toArray w fun e w' => (∃ v, e = .returned v ∧ ARep ρ0 (al0 M) (out x) v) ∧ Below w.heap.size w w') : Spec P f where
  enter := hen
  run := fun _ _ args => runO dec out args
  mono := by
    intro id h h' args R hs hr
    exact hr
  sound := by
    intro id h args R hr hob B w0 ρ al w vals H hid hA
    unfold runO at hr
    split at hr
    case h_2 => cases hr
    rename_i q x hd
    injection hr with hr
    subst hr
    obtain rfl := hdec hd ρ al vals hA
    refine (calls hd hob al.M w H.gok (fun b o y hy => H.mem b o y hy)).mono ?_
    rintro e w' ⟨⟨v, rfl, hv⟩, hb⟩
    exact ⟨v, ρ, al, rfl, .refl _ _, fun b hb => .inl hb, hout x ρ al v hv, H.step (.refl _ _) (H.below.trans ((keeps_below hb).mono fun k hk => H.size k hk)) (fun b k hk hc => hb.block _ (H.lt hk hc)) (fun b ⟨_, _, hb'⟩ => hb.block _ (H.memLt hb'))⟩

/-! ### Functions that look at one number of their caller's -/
structure Xb (X : Type) where
  dec : List AV → Option (Nat × X)
  enc : X → List AV
  len : Nat
  enc_len : ∀ x, (enc x).length = len
  ok : ∀ {zs : List AV} {b : Nat} {x : X}, dec zs = some (b, x) → ∀ {ρ ρ' : Nat → Loc} {al al' : Al} {vals : List Value}, (∀ y, LRep ρ al (.p b 0 0) y → LRep ρ' al' (.p 0 0 0) y) → al.M.le al'.M → AsRep ρ al zs vals → AsRep ρ' al' (enc x) vals
def numK (T : TypeId) (z : Int) : Blk := ⟨true, T, 1, [[.v (.int .i64 z)]]⟩
def decB {X : Type} (T : TypeId) (D : Xb X) (q : X → Int → Prop) (h : Heap) (zs : List AV) : Option (Prop × List Nat × (X × Int)) :=
  match D.dec zs with
  | some (b, x) => match hget h b with
    | some ⟨true, T', 1, [[.v (.int .i64 z)]]⟩ => if T' = T then some (q x z, [b], (x, z)) else none
    | _ => none
  | none => none
theorem decB_some {X : Type} {T : TypeId} {D : Xb X} {q : X → Int → Prop} {h : Heap} {zs : List AV} {r : Prop × List Nat × (X × Int)} (hd : decB T D q h zs = some r) : ∃ b x z, D.dec zs = some (b, x) ∧ hget h b = some (numK T z) ∧ r = (q x z, [b], (x, z)) := by
  unfold decB at hd
  split at hd
  case h_2 => cases hd
  rename_i b x h1
  split at hd
  case h_2 => cases hd
  rename_i T' z h2
  split at hd
  case isFalse => cases hd
  rename_i e
  subst e
  injection hd with hd
  exact ⟨b, x, z, h1, h2, hd.symm⟩
def mkB {P : Program} {X : Type} (f : FuncId) (fn : Func) (c : Code) (hf : P.funcs[f]? = some fn) (hb : fn.body = some c)
    (hen : ∀ (args : Array Value) (w : World), (callFunc f args).run P w = .ok (.enter f args) w) (T : TypeId) (D : Xb X) (q : X → Int → Prop) (out : X → Int → AV) (hn : D.len ≤ fn.ntmps)
    (body : ∀ x z, q x z → SW P ⟨none, 1⟩ fn.ntmps c ⟨1, zipT 0 (D.enc x), zipH 0 [numK T z]⟩ (outR P fn.results.toList 1 (.ret (out x z) [some (numK T z)] []))) : Spec P f :=
  mkR 1 1 (by decide) f fn c hf hb hen (decB T D q) (fun x => D.enc x.1) (fun x => [numK T x.2]) (fun x => .ret (out x.1 x.2) [some (numK T x.2)] [])
    (by
      intro h h' args r hs hd
      obtain ⟨b, x, z, h1, h2, rfl⟩ := decB_some hd
      unfold decB
      rw [h1]
      simp only [hs _ _ h2, numK, if_true])
    (by
      intro h zs q' bs x hd hq
      obtain ⟨b, x', z, h1, h2, e⟩ := decB_some hd
      injection e with e1 e
      injection e with e2 e3
      subst e2
      subst e3
      refine ⟨by rw [D.enc_len]; exact hn, rfl, rfl, by simp, fun d => ⟨?_, ?_⟩⟩
      · intro j b' k hj hk
        match j, hj, hk with
        | 0, hj, hk =>
          simp at hj hk
          subst hj
          subst hk
          exact ⟨rfl, by rw [h2]; rfl⟩
      · intro ρ al vals hA
        exact D.ok (al := al) h1 (fun y hy => hy) (Mem.le_refl _) hA)
    (by
      intro h zs q' bs x hd hq
      obtain ⟨b, x', z, h1, h2, e⟩ := decB_some hd
      injection e with e1 e
      injection e with e2 e3
      subst e1
      subst e3
      exact body _ _ hq)

/-- number$1: a digit of a number to that base -/
def xbChar : Xb Int where
  dec := fun | [.s (.l (.v (.int .u8 c))), .s (.l (.p b 0 0))] => some (b, c) | _ => none
  enc := fun c => [.s (.l (.v (.int .u8 c))), pv 0 0 0]
  len := 2
  enc_len := fun _ => rfl
  ok := by
    intro zs b x h ρ ρ' al al' vals hp hM hA
    split at h
    · injection h with h
      injection h with h1 h2
      subst h1
      subst h2
      match vals, hA with
      | [v, u], ⟨a, b, _⟩ => exact ⟨a, hp u b, trivial⟩
    · cases h
theorem en_isdig (args : Array Value) (w : World) : (callFunc 127 args).run Tryd.prog w = .ok (.enter 127 args) w := by go_simp
theorem leftB {st : St} {r : AV} {k : Blk} (hr : r.plain = true) (hk : hget st.h 0 = some k) (ho : k.own = true) (hren : ∀ g, k.ren g = k) : leftR 1 st (.ret r [some k] []) (some r) := by
  refine ⟨hr, [some k], [], rfl, rfl, by simp, by simpa using ho, by simp, Wk.ren [0] (by intro j hj; have : j = 0 := (by simpa using hj); subst this; rfl) (by simp) (by simp) (fun p hp => by cases hp) ?_⟩
  intro p hp k' hk'
  simp only [zipO, zipH, List.append_nil, List.mem_cons, List.not_mem_nil, or_false] at hp
  subst hp
  simp only [Option.some.injEq] at hk'
  subst hk'
  rw [hren]
  exact hk
theorem numK_ren (T : TypeId) (z : Int) (g : Nat → Nat) : (numK T z).ren g = numK T z := rfl
theorem isdig_sw (c z : Int) (h : 0 ≤ c ∧ c ≤ 255) : SW Tryd.prog ⟨none, 1⟩ Tryd.f127.ntmps (Tryd.f127.body.getD .skip) ⟨1, zipT 0 [.s (.l (.v (.int .u8 c))), pv 0 0 0], zipH 0 [numK 3 z]⟩ (outR Tryd.prog Tryd.f127.results.toList 1 (.ret (bv (decide (hexB c < z))) [some (numK 3 z)] [])) := by
  refine aRun_sound (ctx := [⟨_, hexS⟩]) 4000 ?_
  rw [Tryd.ntmps127, Tryd.results127]
  simp only [Tryd.f127, Option.getD_some, zipT]
  simp only [go_sem, Nat.reduceOr, Nat.reducePow, Nat.reduceDiv, Nat.reduceMod, Nat.reduceBEq, Int.reduceBEq, Int.reduceBNe, Int.reduceEq, Int.reduceLT, Int.reduceLE, Int.reduceToNat, reduceIte, reduceCtorEq, Nat.reduceEqDiff, Nat.reduceAdd, Nat.reduceLT, Nat.reduceLeDiff, Nat.reduceMul, Nat.reduceSub, numK]
  refine sw_draw (ctx := [⟨_, hexS⟩]) mixed [] (by kernel_rfl) ?_
  simp only [go_sem, Nat.reduceOr, Nat.reducePow, Nat.reduceDiv, Nat.reduceMod, Nat.reduceBEq, Int.reduceBEq, Int.reduceBNe, Int.reduceEq, Int.reduceLT, Int.reduceLE, Int.reduceToNat, reduceIte, reduceCtorEq, Nat.reduceEqDiff, Nat.reduceAdd, Nat.reduceLT, Nat.reduceLeDiff, Nat.reduceMul, Nat.reduceSub, numK, hex_run, hex_pan, h]
  exact leftB rfl rfl rfl (fun _ => rfl)
def isdigS : Spec Tryd.prog 127 :=
  mkB _ _ _ Tryd.func127 rfl en_isdig 3 xbChar (fun c _ => 0 ≤ c ∧ c ≤ 255) (fun c z => bv (decide (hexB c < z))) (by rw [Tryd.ntmps127]; decide) (fun c z h => isdig_sw c z h)
theorem isdig_run {id : Nat} {h : Heap} {args : List AV} : isdigS.run id h args = runR 1 (decB 3 xbChar (fun c _ => 0 ≤ c ∧ c ≤ 255)) (fun x => .ret (bv (decide (hexB x.1 < x.2))) [some (numK 3 x.2)] []) id h args := rfl
theorem isdig_pan {id : Nat} {h : Heap} {args : List AV} : isdigS.pan id h args = panR (decB 3 xbChar (fun c _ => 0 ≤ c ∧ c ≤ 255)) (fun x => .ret (bv (decide (hexB x.1 < x.2))) [some (numK 3 x.2)] []) h args := rfl

/-- run over digits -/
def fnDig : AV := .fn 127 [] [.p 0 0 0]
def xbStr : Xb ByteArray where
  dec := fun | [.s (.l (.v (.string s))), .fn g [] [.p b 0 0]] => if g = 127 then some (b, s) else none | _ => none
  enc := fun s => [sv s, fnDig]
  len := 2
  enc_len := fun _ => rfl
  ok := by
    intro zs b x h ρ ρ' al al' vals hp hM hA
    split at h
    · split at h
      · rename_i e
        subst e
        injection h with h
        injection h with h1 h2
        subst h1
        subst h2
        match vals, hA with
        | [v, u], ⟨a, b, _⟩ =>
          refine ⟨a, ?_, trivial⟩
          obtain ⟨f, c, e1, e2, e3⟩ := b
          match c, e3 with
          | [y], ⟨o, g1, _⟩ => exact ⟨f, [y], e1, (match f, e2 with | [], _ => trivial), o, hp y g1, trivial⟩
      · cases h
    · cases h
theorem en_run2 (args : Array Value) (w : World) : (callFunc 56 args).run Tryd.prog w = .ok (.enter 56 args) w := by go_simp
def digR (z : Int) (s : ByteArray) : Nat := hexRun z (toBytes s)
theorem hexRun_step (z : Int) {s : ByteArray} {i : Nat} (h : i < s.size) : hexRun z ((toBytes s).drop i) = if hexB (byteAt s i) < z then 1 + hexRun z ((toBytes s).drop (i + 1)) else 0 := by
  unfold hexRun
  rw [runL_step _ _ _ (by rw [toBytes_length]; exact h), byteAt_bAt]
  simp only [decide_eq_true_eq]
set_option maxHeartbeats 1000000 in
theorem runD_sw (s : ByteArray) (z : Int) (hs : s.size ≤ 1099511627776) : SW Tryd.prog ⟨none, 1⟩ Tryd.f56.ntmps (Tryd.f56.body.getD .skip) ⟨1, zipT 0 [sv s, fnDig], zipH 0 [numK 3 z]⟩ (outR Tryd.prog Tryd.f56.results.toList 1 (.ret (iv (hexRun z (toBytes s))) [some (numK 3 z)] [])) := by
  refine aRun_sound (ctx := [⟨_, isdigS⟩]) 4000 ?_
  rw [Tryd.ntmps56, Tryd.results56]
  simp only [Tryd.f56, Option.getD_some, zipT]
  simp only [go_sem, Nat.reduceOr, Nat.reducePow, Nat.reduceDiv, Nat.reduceMod, Nat.reduceBEq, Int.reduceBEq, Int.reduceBNe, Int.reduceEq, Int.reduceLT, Int.reduceLE, Int.reduceToNat, reduceIte, reduceCtorEq, Nat.reduceEqDiff, Nat.reduceAdd, Nat.reduceLT, Nat.reduceLeDiff, Nat.reduceMul, Nat.reduceSub, numK, fnDig]
  refine sw_loop (ι := Nat) (fun i => i ≤ s.size ∧ hexRun z (toBytes s) = i + hexRun z ((toBytes s).drop i)) (fun i => ⟨1, [(0, sv s), (1, fnDig), (5, iv i)], [(0, some (numK 3 z))]⟩) (fun i => s.size - i) 0 ⟨Nat.zero_le _, by simp⟩ (Wk.renL [0] (by simp) (by simp) (by simp) rfl rfl) ?_
  rintro i ⟨hi, hr⟩
  refine aRun_sound (ctx := [⟨_, isdigS⟩]) 4000 ?_
  have hb := byteAt_range s i
  have hdz : ∀ d : Nat, hexRun z ((toBytes s).drop (s.size + d)) = 0 := fun d => runL_end _ _ _ (by rw [toBytes_length]; omega)
  by_cases hlt : i < s.size
  · have hltI : (i : Int) < s.size := by omega
    have hst := hexRun_step z hlt
    have ei : IntKind.i64.wrap ((i : Int) + 1) = ((i + 1 : Nat) : Int) := by rw [IntKind.wrap_i64]; omega
    by_cases hx : hexB (byteAt s i) < z
    · rw [if_pos hx] at hst
      simp only [go_sem, Nat.reduceOr, Nat.reducePow, Nat.reduceDiv, Nat.reduceMod, Nat.reduceBEq, Int.reduceBEq, Int.reduceBNe, Int.reduceEq, Int.reduceLT, Int.reduceLE, Int.reduceToNat, reduceIte, reduceCtorEq, Nat.reduceEqDiff, Nat.reduceAdd, Nat.reduceLT, Nat.reduceLeDiff, Nat.reduceMul, Nat.reduceSub, numK, fnDig, isdig_run, isdig_pan, decB, xbChar, hltI, hx, hb, ei]
      exact ⟨i + 1, ⟨hlt, by rw [hr, hst]; omega⟩, by omega, Wk.renL [0] (by simp) (by simp) (by simp) rfl rfl⟩
    · rw [if_neg hx] at hst
      have e : hexRun z (toBytes s) = i := by omega
      simp only [go_sem, Nat.reduceOr, Nat.reducePow, Nat.reduceDiv, Nat.reduceMod, Nat.reduceBEq, Int.reduceBEq, Int.reduceBNe, Int.reduceEq, Int.reduceLT, Int.reduceLE, Int.reduceToNat, reduceIte, reduceCtorEq, Nat.reduceEqDiff, Nat.reduceAdd, Nat.reduceLT, Nat.reduceLeDiff, Nat.reduceMul, Nat.reduceSub, numK, fnDig, isdig_run, isdig_pan, decB, xbChar, hltI, hx, hb, e]
      exact leftB rfl rfl rfl (fun _ => rfl)
  · have hltI : ¬ (i : Int) < s.size := by omega
    obtain rfl : i = s.size := by omega
    have e : hexRun z (toBytes s) = s.size := by have := hdz 0; rw [Nat.add_zero] at this; omega
    simp only [go_sem, Nat.reduceOr, Nat.reducePow, Nat.reduceDiv, Nat.reduceMod, Nat.reduceBEq, Int.reduceBEq, Int.reduceBNe, Int.reduceEq, Int.reduceLT, Int.reduceLE, Int.reduceToNat, reduceIte, reduceCtorEq, Nat.reduceEqDiff, Nat.reduceAdd, Nat.reduceLT, Nat.reduceLeDiff, Nat.reduceMul, Nat.reduceSub, numK, fnDig, hltI, e]
    exact leftB rfl rfl rfl (fun _ => rfl)
def runDS : Spec Tryd.prog 56 :=
  mkB _ _ _ Tryd.func56 rfl en_run2 3 xbStr (fun s _ => s.size ≤ 1099511627776) (fun s z => iv (hexRun z (toBytes s))) (by rw [Tryd.ntmps56]; decide) (fun s z h => runD_sw s z h)
theorem runD_run {id : Nat} {h : Heap} {args : List AV} : runDS.run id h args = runR 1 (decB 3 xbStr (fun s _ => s.size ≤ 1099511627776)) (fun x => .ret (iv (hexRun x.2 (toBytes x.1))) [some (numK 3 x.2)] []) id h args := rfl
theorem runD_pan {id : Nat} {h : Heap} {args : List AV} : runDS.pan id h args = panR (decB 3 xbStr (fun s _ => s.size ≤ 1099511627776)) (fun x => .ret (iv (hexRun x.2 (toBytes x.1))) [some (numK 3 x.2)] []) h args := rfl

/-! ### interfaces that are not nil -/
theorem run_ifaceNe {P : Program} {t : TypeId} {u v : Value} {x y : Operand} {b : Bool} {w : World} (h1 : binOp .neq t u v = (do pure (.bool (!(← Op.equal t u v))))) (h3 : (eqGuard .neq t x y u v).run P w = .ok () w) (h4 : ∀ d, (Op.equalIn (d + 1) t u v).run P w = .ok b w) : (do eqGuard .neq t x y u v; binOp .neq t u v : Sem Value).run P w = .ok (.bool (!b)) w := by
  have h5 : (Op.equal t u v).run P w = .ok b w := by
    unfold Op.equal
    rw [show Op.maxDepth = 9999 + 1 from rfl]
    exact h4 9999
  rw [Sem.run_bind, h3, Result.andThen_ok, h1, Sem.run_bind, h5]
  rfl
theorem pure_iface_ne {P : Program} {t u : TypeId} {v c : Value} {x : Operand} (h : kT P t = 4) : pureV P (do eqGuard .neq t x (.const c) (.iface u v) .nilIface; binOp .neq t (.iface u v) .nilIface) = some (.bool true) := by
  obtain ⟨ms, hu⟩ := kT_iface h
  exact pureV_eq fun w => run_ifaceNe (b := false) rfl rfl (fun d => by simp only [Op.equalIn, Sem.run_bind, run_underlying hu, Result.andThen_ok]; rfl)
theorem pure_nil_ne {P : Program} {t : TypeId} {c : Value} {x : Operand} (h : kT P t = 4) : pureV P (do eqGuard .neq t x (.const c) .nilIface .nilIface; binOp .neq t .nilIface .nilIface) = some (.bool false) := by
  obtain ⟨ms, hu⟩ := kT_iface h
  exact pureV_eq fun w => run_ifaceNe (b := true) rfl (by cases x <;> rfl) (fun d => by simp only [Op.equalIn, Sem.run_bind, run_underlying hu, Result.andThen_ok]; rfl)

/-! ### strconv.ParseUint -/
theorem en_toErr (args : Array Value) (w : World) : (callFunc 133 args).run Tryd.prog w = .ok (.enter 133 args) w := by go_simp
def errD : LV := .d (.ifc 156 (.pd []))
def decErr : List AV → Option (Prop × (ByteArray × ByteArray × Int × Int))
  | [.s (.l (.v (.string a))), .s (.l (.v (.string s))), .s (.l (.v (.int .i64 x))), .s (.l (.v (.int .i64 y))), .s (.l (.v (.iface T (.int .i64 1))))] => some (s.size ≤ 281474976710656 ∧ T = 155, (a, s, x, y))
  | _ => none
def decErr2 (zs : List AV) : Option (Prop × (List AV × (ByteArray × ByteArray × Int × Int))) := match decErr zs with | some (q, x) => some (q, (zs, x)) | none => none
def toErrS : Spec Tryd.prog 133 :=
  mkS _ en_toErr decErr2 (fun x => match x.1 with
      | [.s (.l (.v a)), .s (.l (.v b)), .s (.l (.v c)), .s (.l (.v d)), .s (.l (.v e))] => [a, b, c, d, e]
      | _ => []) (fun _ => .s (.l errD))
    (by
      intro zs q x hd ρ al vals hA
      unfold decErr2 at hd
      split at hd
      case h_2 => cases hd
      rename_i q' y h1
      injection hd with hd
      injection hd with e1 e2
      subst e2
      unfold decErr at h1
      split at h1
      · match vals, hA with
        | [a, b, c, d, e], ⟨h1, h2, h3, h4, h5, _⟩ =>
          obtain rfl := (show a = _ from h1)
          obtain rfl := (show b = _ from h2)
          obtain rfl := (show c = _ from h3)
          obtain rfl := (show d = _ from h4)
          obtain rfl := (show e = _ from h5)
          rfl
      · cases h1)
    (fun _ _ _ _ h => h)
    (by
      intro zs q x hd hq M w hG hM
      unfold decErr2 at hd
      split at hd
      case h_2 => cases hd
      rename_i q' y h1
      injection hd with hd
      injection hd with e1 e2
      subst e2
      subst e1
      unfold decErr at h1
      split at h1
      · injection h1 with h1
        injection h1 with e1 e2
        subst e1
        obtain ⟨hs, rfl⟩ := hq
        obtain ⟨⟨ev, he1, he2⟩, _⟩ := hG
        refine (toErr_any _ _ _ _ ev w hs (hM _ _ _ he1) he2).mono ?_
        rintro e w' ⟨⟨N, rfl⟩, hb⟩
        refine ⟨⟨_, rfl, ?_⟩, hb⟩
        simp only [ARep, SRep, LRep, errD, DRep, DsAt]
        exact ⟨_, rfl, N, 0, rfl, trivial⟩
      · cases h1)
theorem toErr_run {id : Nat} {h : Heap} {zs : List AV} : toErrS.run id h zs = runO decErr2 (fun _ => .s (.l errD)) zs := rfl
theorem toErr_pan {id : Nat} {h : Heap} {zs : List AV} : toErrS.pan id h zs = none := rfl

def parE (n : Int) : AV := if n < 18446744073709551616 then .tup [.l (.v (.int .u64 n)), .l (.v .nilIface)] else .tup [.l (.v (.int .u64 18446744073709551615)), .l errD]
theorem en_parse (args : Array Value) (w : World) : (callFunc 128 args).run Tryd.prog w = .ok (.enter 128 args) w := by go_simp
def parseS : Spec Tryd.prog 128 :=
  mk3 _ _ _ Tryd.func128 rfl en_parse (tStr) (tInt .i64) (tInt .i64) ((fun s b n => parOk s b ∧ n = 64)) ((fun s b _ => .ret (parE (natL b (toBytes s))))) (by rw [Tryd.ntmps128]; decide) (fun s b n h => by
  obtain ⟨h, rfl⟩ := h
  have hsz : s.size ≤ 281474976710656 := by have := h.2.1; omega
  refine aRun_sound (ctx := [⟨_, parS⟩, ⟨_, toErrS⟩]) 4000 ?_
  rw [Tryd.ntmps128, Tryd.results128]
  simp only [Tryd.f128, Option.getD_some, zipT]
  have hb1 := @pure_nil_ne Tryd.prog 84 .nilIface (.tmp 17) (by kernel_rfl)
  have hb2 : ∀ u v, _ := fun u v => @pure_iface_ne Tryd.prog 84 u v .nilIface (.tmp 17) (by kernel_rfl)
  by_cases hn : natL b (toBytes s) < 18446744073709551616
  · have e1 : parV (natL b (toBytes s)) = .tup [.l (.v (.int .u64 (natL b (toBytes s)))), .l (.v .nilIface)] := by unfold parV; rw [if_pos hn]
    have e2 : parE (natL b (toBytes s)) = .tup [.l (.v (.int .u64 (natL b (toBytes s)))), .l (.v .nilIface)] := by unfold parE; rw [if_pos hn]
    simp only [go_sem, Nat.reduceOr, Nat.reducePow, Nat.reduceDiv, Nat.reduceMod, Nat.reduceBEq, Int.reduceBEq, Int.reduceBNe, Int.reduceEq, Int.reduceLT, Int.reduceLE, Int.reduceToNat, reduceIte, reduceCtorEq, Nat.reduceEqDiff, Nat.reduceAdd, Nat.reduceLT, Nat.reduceLeDiff, Nat.reduceMul, Nat.reduceSub, par_run, par_pan, h, e1, e2, ↓hb1]
  · have e1 : parV (natL b (toBytes s)) = .tup [.l (.v (.int .u64 18446744073709551615)), .l (.v (.iface errT (.int .i64 1)))] := by unfold parV; rw [if_neg hn]
    have e2 : parE (natL b (toBytes s)) = .tup [.l (.v (.int .u64 18446744073709551615)), .l errD] := by unfold parE; rw [if_neg hn]
    simp only [go_sem, Nat.reduceOr, Nat.reducePow, Nat.reduceDiv, Nat.reduceMod, Nat.reduceBEq, Int.reduceBEq, Int.reduceBNe, Int.reduceEq, Int.reduceLT, Int.reduceLE, Int.reduceToNat, reduceIte, reduceCtorEq, Nat.reduceEqDiff, Nat.reduceAdd, Nat.reduceLT, Nat.reduceLeDiff, Nat.reduceMul, Nat.reduceSub, par_run, par_pan, h, e1, e2, errT, toErr_run, toErr_pan, runO, decErr2, decErr, hsz, errD, ↓hb2])
theorem parse_run {id : Nat} {h : Heap} {args : List AV} : (parseS).run id h args = runP (args3 (tStr) (tInt .i64) (tInt .i64) ((fun s b n => parOk s b ∧ n = 64))) (fun x => ((fun s b _ => .ret (parE (natL b (toBytes s))))) x.1 x.2.1 x.2.2) h args := rfl
theorem parse_pan {id : Nat} {h : Heap} {args : List AV} : (parseS).pan id h args = panP (args3 (tStr) (tInt .i64) (tInt .i64) ((fun s b n => parOk s b ∧ n = 64))) (fun x => ((fun s b _ => .ret (parE (natL b (toBytes s))))) x.1 x.2.1 x.2.2) h args := rfl

end Go.Proofs.YtcdbldakjepjiaaDoor
