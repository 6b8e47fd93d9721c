/- The document's lines: the functions. -/
import Derived.Test.YtpjlafmhoifkmaaGreatQ12
import Derived.Test.YtpjlafmhoifkmaaGreatQ15
import Derived.Test.YtpjlafmhoifkmaaGreatQ16
import Derived.Test.YtpjlafmhoifkmaaGreatQ17
import Derived.Test.YtpjlafmhoifkmaaGreatQ18
set_option linter.unusedVariables false
set_option linter.unusedSimpArgs false
namespace Go.Proofs.YtpjlafmhoifkmaaGreat
open Go.RowKit
set_option maxRecDepth 100000

set_option maxHeartbeats 4000000 in
theorem rdist_sw (x : Ins) (h : icheckF x = 0) (ho : x.op = 1 ∨ (7 ≤ x.op ∧ x.op ≤ 11)) : SW Tryz.prog ⟨none, 0⟩ Tryz.f73.ntmps (Tryz.f73.body.getD .skip) ⟨0, zipT 0 [(tAgg insR).enc x], []⟩ (outQ Tryz.prog Tryz.f73.results.toList (.ret (lineV (rdistF x)))) := by
  have q := plB_of h
  clear h
  have qadr := q.adr
  have qfar := q.far
  clear q
  obtain ⟨op, xx, ss, rd, rn, rm, ra, a, b, c⟩ := x
  simp only at ho qadr qfar
  have hop : op = 1 ∨ op = 7 ∨ op = 8 ∨ op = 9 ∨ op = 10 ∨ op = 11 := by omega
  clear ho
  rcases hop with rfl | rfl | rfl | rfl | rfl | rfl
  · have qa := qadr rfl
    cases xx
    · have e : rdistF ⟨1, false, ss, rd, rn, rm, ra, a, b, c⟩ = (((⟨#[97, 100, 114]⟩ : ByteArray), [oReg rd true, oTo a])) := by first | rfl | (unfold rdistF; simp [*]; done) | (unfold rdistF; simp [*]; omega)
      rw [e]
      exact rd1w ss rd rn rm ra a b c 
    · have e : rdistF ⟨1, true, ss, rd, rn, rm, ra, a, b, c⟩ = (((⟨#[97, 100, 114, 112]⟩ : ByteArray), [oReg rd true, oTo (4096 * a)])) := by first | rfl | (unfold rdistF; simp [*]; done) | (unfold rdistF; simp [*]; omega)
      rw [e]
      exact rd1x ss rd rn rm ra a b c (by omega)
  · have e : rdistF ⟨7, xx, ss, rd, rn, rm, ra, a, b, c⟩ = (((⟨#[98, 46]⟩ : ByteArray) ++ (nameF 2 b).1, [oTo (4 * a)])) := by first | rfl | (unfold rdistF; simp [*]; done) | (unfold rdistF; simp [*]; omega)
    rw [e]
    exact rd7 xx ss rd rn rm ra a b c (by have := qfar (by decide) (by decide); omega)
  · have e : rdistF ⟨8, xx, ss, rd, rn, rm, ra, a, b, c⟩ = ((flagF (⟨#[98]⟩ : ByteArray) ss (⟨#[108]⟩ : ByteArray), [oTo (4 * a)])) := by first | rfl | (unfold rdistF; simp [*]; done) | (unfold rdistF; simp [*]; omega)
    rw [e]
    exact rd8 xx ss rd rn rm ra a b c (by have := qfar (by decide) (by decide); omega)
  · have e : rdistF ⟨9, xx, ss, rd, rn, rm, ra, a, b, c⟩ = ((pickF b [(⟨#[99, 98, 122]⟩ : ByteArray), (⟨#[99, 98, 110, 122]⟩ : ByteArray)], [oReg rd xx, oTo (4 * a)])) := by first | rfl | (unfold rdistF; simp [*]; done) | (unfold rdistF; simp [*]; omega)
    rw [e]
    exact rd9 xx ss rd rn rm ra a b c (by have := qfar (by decide) (by decide); omega)
  · have e : rdistF ⟨10, xx, ss, rd, rn, rm, ra, a, b, c⟩ = ((pickF b [(⟨#[116, 98, 122]⟩ : ByteArray), (⟨#[116, 98, 110, 122]⟩ : ByteArray)], [oReg rd (decide (31 < c)), oNum c, oTo (4 * a)])) := by first | rfl | (unfold rdistF; simp [*]; done) | (unfold rdistF; simp [*]; omega)
    rw [e]
    exact rd10 xx ss rd rn rm ra a b c (by have := qfar (by decide) (by decide); omega)
  · by_cases hb : b = 4
    · subst hb
      have e : rdistF ⟨11, xx, ss, rd, rn, rm, ra, a, 4, c⟩ = (((⟨#[101, 114, 101, 116]⟩ : ByteArray), [])) := by first | rfl | (unfold rdistF; simp [*]; done) | (unfold rdistF; simp [*]; omega)
      rw [e]
      exact rd11e xx ss rd rn rm ra a c 
    · have e : rdistF ⟨11, xx, ss, rd, rn, rm, ra, a, b, c⟩ = ((pickF b [(⟨#[98, 114]⟩ : ByteArray), (⟨#[98, 108, 114]⟩ : ByteArray), (⟨#[114, 101, 116]⟩ : ByteArray)], [oReg rn true])) := by first | rfl | (unfold rdistF; simp [*]; done) | (unfold rdistF; simp [*]; omega)
      rw [e]
      exact rd11 xx ss rd rn rm ra a b c hb
theorem en_rdist (args : Array Value) (w : World) : (callFunc 73 args).run Tryz.prog w = .ok (.enter 73 args) w := by go_simp
def rdistS : Spec Tryz.prog 73 :=
  mk1 _ _ _ Tryz.func73 rfl en_rdist (tAgg insR) ((fun x => icheckF x = 0 ∧ (x.op = 1 ∨ (7 ≤ x.op ∧ x.op ≤ 11)))) ((fun x => .ret (lineV (rdistF x)))) (by rw [Tryz.ntmps73]; decide) (fun x h => rdist_sw x h.1 h.2)
theorem rdist_run {id : Nat} {h : Heap} {args : List AV} : (rdistS).run id h args = runP (args1 (tAgg insR) ((fun x => icheckF x = 0 ∧ (x.op = 1 ∨ (7 ≤ x.op ∧ x.op ≤ 11))))) ((fun x => .ret (lineV (rdistF x)))) h args := rfl
theorem rdist_pan {id : Nat} {h : Heap} {args : List AV} : (rdistS).pan id h args = panP (args1 (tAgg insR) ((fun x => icheckF x = 0 ∧ (x.op = 1 ∨ (7 ≤ x.op ∧ x.op ≤ 11))))) ((fun x => .ret (lineV (rdistF x)))) h args := rfl

set_option maxHeartbeats 4000000 in
theorem rimm_sw (x : Ins) (h : icheckF x = 0) (ho : 2 ≤ x.op ∧ x.op ≤ 6) : SW Tryz.prog ⟨none, 0⟩ Tryz.f74.ntmps (Tryz.f74.body.getD .skip) ⟨0, zipT 0 [(tAgg insR).enc x], []⟩ (outQ Tryz.prog Tryz.f74.results.toList (.ret (lineV (rimmF x)))) := by
  have q := plB_of h
  clear h
  have qwide := q.wide
  clear q
  obtain ⟨op, xx, ss, rd, rn, rm, ra, a, b, c⟩ := x
  simp only at ho qwide
  have hop : op = 2 ∨ op = 3 ∨ op = 4 ∨ op = 5 ∨ op = 6 := by omega
  clear ho
  rcases hop with rfl | rfl | rfl | rfl | rfl
  · by_cases hc : c = 1
    · subst hc
      have e : rimmF ⟨2, xx, ss, rd, rn, rm, ra, a, b, 1⟩ = ((flagF (pickF b [(⟨#[97, 100, 100]⟩ : ByteArray), (⟨#[115, 117, 98]⟩ : ByteArray)]) ss (⟨#[115]⟩ : ByteArray), [spF (!ss) rd xx, oSP rn xx, oWith (oNum a) 1 12])) := by first | rfl | (unfold rimmF; simp [*]; done) | (unfold rimmF; simp [*]; omega)
      rw [e]
      exact ri2c xx ss rd rn rm ra a b 
    · have e : rimmF ⟨2, xx, ss, rd, rn, rm, ra, a, b, c⟩ = ((flagF (pickF b [(⟨#[97, 100, 100]⟩ : ByteArray), (⟨#[115, 117, 98]⟩ : ByteArray)]) ss (⟨#[115]⟩ : ByteArray), [spF (!ss) rd xx, oSP rn xx, oNum a])) := by first | rfl | (unfold rimmF; simp [*]; done) | (unfold rimmF; simp [*]; omega)
      rw [e]
      exact ri2 xx ss rd rn rm ra a b c hc
  · have e : rimmF ⟨3, xx, ss, rd, rn, rm, ra, a, b, c⟩ = ((pickF b [(⟨#[97, 110, 100]⟩ : ByteArray), (⟨#[111, 114, 114]⟩ : ByteArray), (⟨#[101, 111, 114]⟩ : ByteArray), (⟨#[97, 110, 100, 115]⟩ : ByteArray)], [spF (decide (b < 3)) rd xx, oReg rn xx, oNum a])) := by first | rfl | (unfold rimmF; simp [*]; done) | (unfold rimmF; simp [*]; omega)
    rw [e]
    exact ri3 xx ss rd rn rm ra a b c 
  · by_cases hc : 0 < c
    · have e : rimmF ⟨4, xx, ss, rd, rn, rm, ra, a, b, c⟩ = ((pickF b [(⟨#[109, 111, 118, 110]⟩ : ByteArray), emp, (⟨#[109, 111, 118, 122]⟩ : ByteArray), (⟨#[109, 111, 118, 107]⟩ : ByteArray)], [oReg rd xx, oWith (oNum a) 1 (16 * c)])) := by first | rfl | (unfold rimmF; simp [*]; done) | (unfold rimmF; simp [*]; omega)
      rw [e]
      exact ri4c xx ss rd rn rm ra a b c ⟨hc, (qwide rfl).2⟩
    · have e : rimmF ⟨4, xx, ss, rd, rn, rm, ra, a, b, c⟩ = ((pickF b [(⟨#[109, 111, 118, 110]⟩ : ByteArray), emp, (⟨#[109, 111, 118, 122]⟩ : ByteArray), (⟨#[109, 111, 118, 107]⟩ : ByteArray)], [oReg rd xx, oNum a])) := by first | rfl | (unfold rimmF; simp [*]; done) | (unfold rimmF; simp [*]; omega)
      rw [e]
      exact ri4 xx ss rd rn rm ra a b c hc
  · have e : rimmF ⟨5, xx, ss, rd, rn, rm, ra, a, b, c⟩ = ((pickF b [(⟨#[115, 98, 102, 109]⟩ : ByteArray), (⟨#[98, 102, 109]⟩ : ByteArray), (⟨#[117, 98, 102, 109]⟩ : ByteArray)], [oReg rd xx, oReg rn xx, oNum a, oNum c])) := by first | rfl | (unfold rimmF; simp [*]; done) | (unfold rimmF; simp [*]; omega)
    rw [e]
    exact ri5 xx ss rd rn rm ra a b c 
  · have e : rimmF ⟨6, xx, ss, rd, rn, rm, ra, a, b, c⟩ = (((⟨#[101, 120, 116, 114]⟩ : ByteArray), [oReg rd xx, oReg rn xx, oReg rm xx, oNum a])) := by first | rfl | (unfold rimmF; simp [*]; done) | (unfold rimmF; simp [*]; omega)
    rw [e]
    exact ri6 xx ss rd rn rm ra a b c 
theorem en_rimm (args : Array Value) (w : World) : (callFunc 74 args).run Tryz.prog w = .ok (.enter 74 args) w := by go_simp
def rimmS : Spec Tryz.prog 74 :=
  mk1 _ _ _ Tryz.func74 rfl en_rimm (tAgg insR) ((fun x => icheckF x = 0 ∧ (2 ≤ x.op ∧ x.op ≤ 6))) ((fun x => .ret (lineV (rimmF x)))) (by rw [Tryz.ntmps74]; decide) (fun x h => rimm_sw x h.1 h.2)
theorem rimm_run {id : Nat} {h : Heap} {args : List AV} : (rimmS).run id h args = runP (args1 (tAgg insR) ((fun x => icheckF x = 0 ∧ (2 ≤ x.op ∧ x.op ≤ 6)))) ((fun x => .ret (lineV (rimmF x)))) h args := rfl
theorem rimm_pan {id : Nat} {h : Heap} {args : List AV} : (rimmS).pan id h args = panP (args1 (tAgg insR) ((fun x => icheckF x = 0 ∧ (2 ≤ x.op ∧ x.op ≤ 6)))) ((fun x => .ret (lineV (rimmF x)))) h args := rfl

set_option maxHeartbeats 4000000 in
theorem rsys_sw (x : Ins) (h : icheckF x = 0) (ho : 12 ≤ x.op ∧ x.op ≤ 17) : SW Tryz.prog ⟨none, 0⟩ Tryz.f75.ntmps (Tryz.f75.body.getD .skip) ⟨0, zipT 0 [(tAgg insR).enc x], []⟩ (outQ Tryz.prog Tryz.f75.results.toList (.ret (lineV (rsysF x)))) := by
  have q := plB_of h
  clear h
  have qsys := q.sys
  clear q
  obtain ⟨op, xx, ss, rd, rn, rm, ra, a, b, c⟩ := x
  simp only at ho qsys
  have hop : op = 12 ∨ op = 13 ∨ op = 14 ∨ op = 15 ∨ op = 16 ∨ op = 17 := by omega
  clear ho
  rcases hop with rfl | rfl | rfl | rfl | rfl | rfl
  · have e : rsysF ⟨12, xx, ss, rd, rn, rm, ra, a, b, c⟩ = ((pickF b [(⟨#[115, 118, 99]⟩ : ByteArray), (⟨#[104, 118, 99]⟩ : ByteArray), (⟨#[115, 109, 99]⟩ : ByteArray), (⟨#[98, 114, 107]⟩ : ByteArray), (⟨#[104, 108, 116]⟩ : ByteArray), (⟨#[100, 99, 112, 115, 49]⟩ : ByteArray), (⟨#[100, 99, 112, 115, 50]⟩ : ByteArray), (⟨#[100, 99, 112, 115, 51]⟩ : ByteArray)], [oNum a])) := by first | rfl | (unfold rsysF; simp [*]; done) | (unfold rsysF; simp [*]; omega)
    rw [e]
    exact rs12 xx ss rd rn rm ra a b c 
  · have e : rsysF ⟨13, xx, ss, rd, rn, rm, ra, a, b, c⟩ = (((⟨#[104, 105, 110, 116]⟩ : ByteArray), [oNum a])) := by first | rfl | (unfold rsysF; simp [*]; done) | (unfold rsysF; simp [*]; omega)
    rw [e]
    exact rs13 xx ss rd rn rm ra a b c 
  · by_cases h4 : b = 4
    · subst h4
      have e : rsysF ⟨14, xx, ss, rd, rn, rm, ra, a, 4, c⟩ = ((pickF 0 [(⟨#[100, 115, 98]⟩ : ByteArray), (⟨#[100, 109, 98]⟩ : ByteArray)], [oOf 7 a])) := by first | rfl | (unfold rsysF; simp [*]; done) | (unfold rsysF; simp [*]; omega)
      rw [e]
      exact rs144 xx ss rd rn rm ra a c 
    by_cases h5 : b = 5
    · subst h5
      have e : rsysF ⟨14, xx, ss, rd, rn, rm, ra, a, 5, c⟩ = ((pickF 1 [(⟨#[100, 115, 98]⟩ : ByteArray), (⟨#[100, 109, 98]⟩ : ByteArray)], [oOf 7 a])) := by first | rfl | (unfold rsysF; simp [*]; done) | (unfold rsysF; simp [*]; omega)
      rw [e]
      exact rs145 xx ss rd rn rm ra a c 
    by_cases h2 : b = 2
    · subst h2
      have e : rsysF ⟨14, xx, ss, rd, rn, rm, ra, a, 2, c⟩ = (((⟨#[99, 108, 114, 101, 120]⟩ : ByteArray), [oNum a])) := by first | rfl | (unfold rsysF; simp [*]; done) | (unfold rsysF; simp [*]; omega)
      rw [e]
      exact rs142 xx ss rd rn rm ra a c 
    · have e : rsysF ⟨14, xx, ss, rd, rn, rm, ra, a, b, c⟩ = (((⟨#[105, 115, 98]⟩ : ByteArray), [oNum a])) := by first | rfl | (unfold rsysF; simp [*]; done) | (unfold rsysF; simp [*]; omega)
      rw [e]
      exact rs14 xx ss rd rn rm ra a b c ⟨h4, h5, h2⟩
  · by_cases hb : b = 1
    · subst hb
      have e : rsysF ⟨15, xx, ss, rd, rn, rm, ra, a, 1, c⟩ = (((⟨#[109, 114, 115]⟩ : ByteArray), [oReg rd true, oOf 6 a])) := by first | rfl | (unfold rsysF; simp [*]; done) | (unfold rsysF; simp [*]; omega)
      rw [e]
      exact rs151 xx ss rd rn rm ra a c 
    · have e : rsysF ⟨15, xx, ss, rd, rn, rm, ra, a, b, c⟩ = (((⟨#[109, 115, 114]⟩ : ByteArray), [oOf 6 a, oReg rd true])) := by first | rfl | (unfold rsysF; simp [*]; done) | (unfold rsysF; simp [*]; omega)
      rw [e]
      exact rs15 xx ss rd rn rm ra a b c hb
  · have e : rsysF ⟨16, xx, ss, rd, rn, rm, ra, a, b, c⟩ = (((⟨#[109, 115, 114]⟩ : ByteArray), [oOf 9 b, oNum a])) := by first | rfl | (unfold rsysF; simp [*]; done) | (unfold rsysF; simp [*]; omega)
    rw [e]
    exact rs16 xx ss rd rn rm ra a b c 
  · have qs := qsys rfl
    by_cases hb : b = 1
    · subst hb
      have e : rsysF ⟨17, xx, ss, rd, rn, rm, ra, a, 1, c⟩ = (((⟨#[115, 121, 115, 108]⟩ : ByteArray), oReg rd true :: [oNum (a / 2048), oNum (a / 128 % 16), oNum (a / 8 % 16), oNum (a % 8)])) := by first | rfl | (unfold rsysF rsysO; simp [*]; done) | (unfold rsysF rsysO; simp [*]; omega)
      rw [e]
      exact rs171 xx ss rd rn rm ra a c qs
    · have e : rsysF ⟨17, xx, ss, rd, rn, rm, ra, a, b, c⟩ = (((⟨#[115, 121, 115]⟩ : ByteArray), [oNum (a / 2048), oNum (a / 128 % 16), oNum (a / 8 % 16), oNum (a % 8)] ++ [oReg rd true])) := by first | rfl | (unfold rsysF rsysO; simp [*]; done) | (unfold rsysF rsysO; simp [*]; omega)
      rw [e]
      exact rs17 xx ss rd rn rm ra a b c qs hb
theorem en_rsys (args : Array Value) (w : World) : (callFunc 75 args).run Tryz.prog w = .ok (.enter 75 args) w := by go_simp
def rsysS : Spec Tryz.prog 75 :=
  mk1 _ _ _ Tryz.func75 rfl en_rsys (tAgg insR) ((fun x => icheckF x = 0 ∧ (12 ≤ x.op ∧ x.op ≤ 17))) ((fun x => .ret (lineV (rsysF x)))) (by rw [Tryz.ntmps75]; decide) (fun x h => rsys_sw x h.1 h.2)
theorem rsys_run {id : Nat} {h : Heap} {args : List AV} : (rsysS).run id h args = runP (args1 (tAgg insR) ((fun x => icheckF x = 0 ∧ (12 ≤ x.op ∧ x.op ≤ 17)))) ((fun x => .ret (lineV (rsysF x)))) h args := rfl
theorem rsys_pan {id : Nat} {h : Heap} {args : List AV} : (rsysS).pan id h args = panP (args1 (tAgg insR) ((fun x => icheckF x = 0 ∧ (12 ≤ x.op ∧ x.op ≤ 17)))) ((fun x => .ret (lineV (rsysF x)))) h args := rfl

set_option maxHeartbeats 4000000 in
theorem rtr_sw (x : Ins) (h : icheckF x = 0) (ho : 20 ≤ x.op ∧ x.op ≤ 22) : SW Tryz.prog ⟨none, 0⟩ Tryz.f76.ntmps (Tryz.f76.body.getD .skip) ⟨0, zipT 0 [(tAgg insR).enc x], []⟩ (outQ Tryz.prog Tryz.f76.results.toList (.ret (lineV (rtrF x)))) := by
  have q := plB_of h
  clear h
  have qld := q.ld
  have qidx := q.idx
  have qreg := q.reg
  clear q
  obtain ⟨op, xx, ss, rd, rn, rm, ra, a, b, c⟩ := x
  simp only at ho qld qidx qreg
  have hop : op = 20 ∨ op = 21 ∨ op = 22 := by omega
  clear ho
  rcases hop with rfl | rfl | rfl
  all_goals
    obtain ⟨⟨N, L, W⟩, hT⟩ : ∃ T, transF b c = T := ⟨_, rfl⟩
  · have ql := qld rfl
    by_cases hp : N = (⟨#[112, 114, 102, 109]⟩ : ByteArray)
    · have e : rtrF ⟨20, xx, ss, rd, rn, rm, ra, a, b, c⟩ = ((N, [oOf 8 rd, oMem rn 0 (a * 2 ^ b.toNat)])) := by first | rfl | (unfold rtrF trD trN; simp [*]; done) | (unfold rtrF trD trN; simp [*]; omega)
      rw [e]
      exact rt20p xx ss rd rn rm ra a b c N L W hT hp ql.1 ql.2
    · have e : rtrF ⟨20, xx, ss, rd, rn, rm, ra, a, b, c⟩ = ((N, [oReg rd W, oMem rn 0 (a * 2 ^ b.toNat)])) := by first | rfl | (unfold rtrF trD trN; simp [*]; done) | (unfold rtrF trD trN; simp [*]; omega)
      rw [e]
      exact rt20 xx ss rd rn rm ra a b c N L W hT hp ql.1 ql.2
  · have hN : 3 ≤ N.size ∧ N.size ≤ 5 := by
      have h1 := qidx rfl
      have h2 := trans_size b c
      rw [hT] at h1 h2
      exact ⟨h1, h2⟩
    by_cases hp : N = (⟨#[112, 114, 102, 109]⟩ : ByteArray)
    · by_cases r0 : ra = 0
      · subst r0
        have e : rtrF ⟨21, xx, ss, rd, rn, rm, 0, a, b, c⟩ = ((putF N (⟨#[117, 114]⟩ : ByteArray), [oOf 8 rd, oMem rn 0 a])) := by first | rfl | (unfold rtrF trD trN; simp [*]; done) | (unfold rtrF trD trN; simp [*]; omega)
        rw [e]
        exact rt210p xx ss rd rn rm 0 a b c N L W hT hp hN
      by_cases r1 : ra = 1
      · subst r1
        have e : rtrF ⟨21, xx, ss, rd, rn, rm, 1, a, b, c⟩ = ((N, [oOf 8 rd, oMem rn 2 a])) := by first | rfl | (unfold rtrF trD trN; simp [*]; done) | (unfold rtrF trD trN; simp [*]; omega)
        rw [e]
        exact rt211p xx ss rd rn rm 1 a b c N L W hT hp
      by_cases r2 : ra = 2
      · subst r2
        have e : rtrF ⟨21, xx, ss, rd, rn, rm, 2, a, b, c⟩ = ((putF N (⟨#[116, 114]⟩ : ByteArray), [oOf 8 rd, oMem rn 0 a])) := by first | rfl | (unfold rtrF trD trN; simp [*]; done) | (unfold rtrF trD trN; simp [*]; omega)
        rw [e]
        exact rt212p xx ss rd rn rm 2 a b c N L W hT hp hN
      · have e : rtrF ⟨21, xx, ss, rd, rn, rm, ra, a, b, c⟩ = ((N, [oOf 8 rd, oMem rn 1 a])) := by first | rfl | (unfold rtrF trD trN; simp [*]; done) | (unfold rtrF trD trN; simp [*]; omega)
        rw [e]
        exact rt21p xx ss rd rn rm ra a b c N L W hT hp ⟨r0, r1, r2⟩
    · by_cases r0 : ra = 0
      · subst r0
        have e : rtrF ⟨21, xx, ss, rd, rn, rm, 0, a, b, c⟩ = ((putF N (⟨#[117, 114]⟩ : ByteArray), [oReg rd W, oMem rn 0 a])) := by first | rfl | (unfold rtrF trD trN; simp [*]; done) | (unfold rtrF trD trN; simp [*]; omega)
        rw [e]
        exact rt210 xx ss rd rn rm 0 a b c N L W hT hp hN
      by_cases r1 : ra = 1
      · subst r1
        have e : rtrF ⟨21, xx, ss, rd, rn, rm, 1, a, b, c⟩ = ((N, [oReg rd W, oMem rn 2 a])) := by first | rfl | (unfold rtrF trD trN; simp [*]; done) | (unfold rtrF trD trN; simp [*]; omega)
        rw [e]
        exact rt211 xx ss rd rn rm 1 a b c N L W hT hp
      by_cases r2 : ra = 2
      · subst r2
        have e : rtrF ⟨21, xx, ss, rd, rn, rm, 2, a, b, c⟩ = ((putF N (⟨#[116, 114]⟩ : ByteArray), [oReg rd W, oMem rn 0 a])) := by first | rfl | (unfold rtrF trD trN; simp [*]; done) | (unfold rtrF trD trN; simp [*]; omega)
        rw [e]
        exact rt212 xx ss rd rn rm 2 a b c N L W hT hp hN
      · have e : rtrF ⟨21, xx, ss, rd, rn, rm, ra, a, b, c⟩ = ((N, [oReg rd W, oMem rn 1 a])) := by first | rfl | (unfold rtrF trD trN; simp [*]; done) | (unfold rtrF trD trN; simp [*]; omega)
        rw [e]
        exact rt21 xx ss rd rn rm ra a b c N L W hT hp ⟨r0, r1, r2⟩
  · have qr := qreg rfl
    by_cases hp : N = (⟨#[112, 114, 102, 109]⟩ : ByteArray)
    · by_cases h2 : a = 2
      · cases ss
        · have e :  rtrF ⟨22, xx, false, rd, rn, rm, ra, a, b, c⟩ = ((N, [oOf 8 rd, { oMem rn 3 0 with m := ⟨rm, decide (a % 2 = 1), false⟩, md := 7, amt := -1 }])) := by first | rfl | (unfold rtrF trD trN extF; simp [*]; done) | (unfold rtrF trD trN extF; simp [*]; omega)
          rw [e]
          exact rt222p xx rd rn rm ra a b c N L W hT hp qr h2
        · have e : rtrF ⟨22, xx, true, rd, rn, rm, ra, a, b, c⟩ = ((N, [oOf 8 rd, { oMem rn 3 0 with m := ⟨rm, decide (a % 2 = 1), false⟩, md := 7, amt := b }])) := by first | rfl | (unfold rtrF trD trN extF; simp [*]; done) | (unfold rtrF trD trN extF; simp [*]; omega)
          rw [e]
          exact rt222sp xx rd rn rm ra a b c N L W hT hp qr h2
      by_cases h3 : a = 3
      · cases ss
        · have e :  rtrF ⟨22, xx, false, rd, rn, rm, ra, a, b, c⟩ = ((N, [oOf 8 rd, { oMem rn 3 0 with m := ⟨rm, decide (a % 2 = 1), false⟩, md := 1, amt := -1 }])) := by first | rfl | (unfold rtrF trD trN extF; simp [*]; done) | (unfold rtrF trD trN extF; simp [*]; omega)
          rw [e]
          exact rt223p xx rd rn rm ra a b c N L W hT hp qr h3
        · have e : rtrF ⟨22, xx, true, rd, rn, rm, ra, a, b, c⟩ = ((N, [oOf 8 rd, { oMem rn 3 0 with m := ⟨rm, decide (a % 2 = 1), false⟩, md := 1, amt := b }])) := by first | rfl | (unfold rtrF trD trN extF; simp [*]; done) | (unfold rtrF trD trN extF; simp [*]; omega)
          rw [e]
          exact rt223sp xx rd rn rm ra a b c N L W hT hp qr h3
      by_cases h6 : a = 6
      · cases ss
        · have e :  rtrF ⟨22, xx, false, rd, rn, rm, ra, a, b, c⟩ = ((N, [oOf 8 rd, { oMem rn 3 0 with m := ⟨rm, decide (a % 2 = 1), false⟩, md := 11, amt := -1 }])) := by first | rfl | (unfold rtrF trD trN extF; simp [*]; done) | (unfold rtrF trD trN extF; simp [*]; omega)
          rw [e]
          exact rt226p xx rd rn rm ra a b c N L W hT hp qr h6
        · have e : rtrF ⟨22, xx, true, rd, rn, rm, ra, a, b, c⟩ = ((N, [oOf 8 rd, { oMem rn 3 0 with m := ⟨rm, decide (a % 2 = 1), false⟩, md := 11, amt := b }])) := by first | rfl | (unfold rtrF trD trN extF; simp [*]; done) | (unfold rtrF trD trN extF; simp [*]; omega)
          rw [e]
          exact rt226sp xx rd rn rm ra a b c N L W hT hp qr h6
      · cases ss
        · have e :  rtrF ⟨22, xx, false, rd, rn, rm, ra, a, b, c⟩ = ((N, [oOf 8 rd, { oMem rn 3 0 with m := ⟨rm, decide (a % 2 = 1), false⟩, md := 12, amt := -1 }])) := by first | rfl | (unfold rtrF trD trN extF; simp [*]; done) | (unfold rtrF trD trN extF; simp [*]; omega)
          rw [e]
          exact rt22op xx rd rn rm ra a b c N L W hT hp qr ⟨h2, h3, h6⟩
        · have e : rtrF ⟨22, xx, true, rd, rn, rm, ra, a, b, c⟩ = ((N, [oOf 8 rd, { oMem rn 3 0 with m := ⟨rm, decide (a % 2 = 1), false⟩, md := 12, amt := b }])) := by first | rfl | (unfold rtrF trD trN extF; simp [*]; done) | (unfold rtrF trD trN extF; simp [*]; omega)
          rw [e]
          exact rt22osp xx rd rn rm ra a b c N L W hT hp qr ⟨h2, h3, h6⟩
    · by_cases h2 : a = 2
      · cases ss
        · have e :  rtrF ⟨22, xx, false, rd, rn, rm, ra, a, b, c⟩ = ((N, [oReg rd W, { oMem rn 3 0 with m := ⟨rm, decide (a % 2 = 1), false⟩, md := 7, amt := -1 }])) := by first | rfl | (unfold rtrF trD trN extF; simp [*]; done) | (unfold rtrF trD trN extF; simp [*]; omega)
          rw [e]
          exact rt222 xx rd rn rm ra a b c N L W hT hp qr h2
        · have e : rtrF ⟨22, xx, true, rd, rn, rm, ra, a, b, c⟩ = ((N, [oReg rd W, { oMem rn 3 0 with m := ⟨rm, decide (a % 2 = 1), false⟩, md := 7, amt := b }])) := by first | rfl | (unfold rtrF trD trN extF; simp [*]; done) | (unfold rtrF trD trN extF; simp [*]; omega)
          rw [e]
          exact rt222s xx rd rn rm ra a b c N L W hT hp qr h2
      by_cases h3 : a = 3
      · cases ss
        · have e :  rtrF ⟨22, xx, false, rd, rn, rm, ra, a, b, c⟩ = ((N, [oReg rd W, { oMem rn 3 0 with m := ⟨rm, decide (a % 2 = 1), false⟩, md := 1, amt := -1 }])) := by first | rfl | (unfold rtrF trD trN extF; simp [*]; done) | (unfold rtrF trD trN extF; simp [*]; omega)
          rw [e]
          exact rt223 xx rd rn rm ra a b c N L W hT hp qr h3
        · have e : rtrF ⟨22, xx, true, rd, rn, rm, ra, a, b, c⟩ = ((N, [oReg rd W, { oMem rn 3 0 with m := ⟨rm, decide (a % 2 = 1), false⟩, md := 1, amt := b }])) := by first | rfl | (unfold rtrF trD trN extF; simp [*]; done) | (unfold rtrF trD trN extF; simp [*]; omega)
          rw [e]
          exact rt223s xx rd rn rm ra a b c N L W hT hp qr h3
      by_cases h6 : a = 6
      · cases ss
        · have e :  rtrF ⟨22, xx, false, rd, rn, rm, ra, a, b, c⟩ = ((N, [oReg rd W, { oMem rn 3 0 with m := ⟨rm, decide (a % 2 = 1), false⟩, md := 11, amt := -1 }])) := by first | rfl | (unfold rtrF trD trN extF; simp [*]; done) | (unfold rtrF trD trN extF; simp [*]; omega)
          rw [e]
          exact rt226 xx rd rn rm ra a b c N L W hT hp qr h6
        · have e : rtrF ⟨22, xx, true, rd, rn, rm, ra, a, b, c⟩ = ((N, [oReg rd W, { oMem rn 3 0 with m := ⟨rm, decide (a % 2 = 1), false⟩, md := 11, amt := b }])) := by first | rfl | (unfold rtrF trD trN extF; simp [*]; done) | (unfold rtrF trD trN extF; simp [*]; omega)
          rw [e]
          exact rt226s xx rd rn rm ra a b c N L W hT hp qr h6
      · cases ss
        · have e :  rtrF ⟨22, xx, false, rd, rn, rm, ra, a, b, c⟩ = ((N, [oReg rd W, { oMem rn 3 0 with m := ⟨rm, decide (a % 2 = 1), false⟩, md := 12, amt := -1 }])) := by first | rfl | (unfold rtrF trD trN extF; simp [*]; done) | (unfold rtrF trD trN extF; simp [*]; omega)
          rw [e]
          exact rt22o xx rd rn rm ra a b c N L W hT hp qr ⟨h2, h3, h6⟩
        · have e : rtrF ⟨22, xx, true, rd, rn, rm, ra, a, b, c⟩ = ((N, [oReg rd W, { oMem rn 3 0 with m := ⟨rm, decide (a % 2 = 1), false⟩, md := 12, amt := b }])) := by first | rfl | (unfold rtrF trD trN extF; simp [*]; done) | (unfold rtrF trD trN extF; simp [*]; omega)
          rw [e]
          exact rt22os xx rd rn rm ra a b c N L W hT hp qr ⟨h2, h3, h6⟩
theorem en_rtr (args : Array Value) (w : World) : (callFunc 76 args).run Tryz.prog w = .ok (.enter 76 args) w := by go_simp
def rtrS : Spec Tryz.prog 76 :=
  mk1 _ _ _ Tryz.func76 rfl en_rtr (tAgg insR) ((fun x => icheckF x = 0 ∧ (20 ≤ x.op ∧ x.op ≤ 22))) ((fun x => .ret (lineV (rtrF x)))) (by rw [Tryz.ntmps76]; decide) (fun x h => rtr_sw x h.1 h.2)
theorem rtr_run {id : Nat} {h : Heap} {args : List AV} : (rtrS).run id h args = runP (args1 (tAgg insR) ((fun x => icheckF x = 0 ∧ (20 ≤ x.op ∧ x.op ≤ 22)))) ((fun x => .ret (lineV (rtrF x)))) h args := rfl
theorem rtr_pan {id : Nat} {h : Heap} {args : List AV} : (rtrS).pan id h args = panP (args1 (tAgg insR) ((fun x => icheckF x = 0 ∧ (20 ≤ x.op ∧ x.op ≤ 22)))) ((fun x => .ret (lineV (rtrF x)))) h args := rfl

set_option maxHeartbeats 4000000 in
theorem rld_sw (x : Ins) (h : icheckF x = 0) (ho : x.op = 18 ∨ x.op = 19 ∨ x.op = 23) : SW Tryz.prog ⟨none, 0⟩ Tryz.f77.ntmps (Tryz.f77.body.getD .skip) ⟨0, zipT 0 [(tAgg insR).enc x], []⟩ (outQ Tryz.prog Tryz.f77.results.toList (.ret (lineV (rldF x)))) := by
  have q := plB_of h
  clear h
  have qlit := q.lit
  have qex := q.ex
  have qpairB := q.pairB
  clear q
  obtain ⟨op, xx, ss, rd, rn, rm, ra, a, b, c⟩ := x
  simp only at ho qlit qex qpairB
  have hop : op = 18 ∨ op = 19 ∨ op = 23 := by omega
  clear ho
  rcases hop with rfl | rfl | rfl
  · have ql := qlit (.inl rfl)
    by_cases hb : b = 3
    · subst hb
      have e : rldF ⟨18, xx, ss, rd, rn, rm, ra, a, 3, c⟩ = ((pickF 3 [(⟨#[108, 100, 114]⟩ : ByteArray), (⟨#[108, 100, 114]⟩ : ByteArray), (⟨#[108, 100, 114, 115, 119]⟩ : ByteArray), (⟨#[112, 114, 102, 109]⟩ : ByteArray)], [oOf 8 rd, oTo (4 * a)])) := by first | rfl | (unfold rldF; simp [*]; done) | (unfold rldF; simp [*]; omega)
      rw [e]
      exact rl183 xx ss rd rn rm ra a c (by omega)
    · have e : rldF ⟨18, xx, ss, rd, rn, rm, ra, a, b, c⟩ = ((pickF b [(⟨#[108, 100, 114]⟩ : ByteArray), (⟨#[108, 100, 114]⟩ : ByteArray), (⟨#[108, 100, 114, 115, 119]⟩ : ByteArray), (⟨#[112, 114, 102, 109]⟩ : ByteArray)], [oReg rd (decide (0 < b)), oTo (4 * a)])) := by first | rfl | (unfold rldF; simp [*]; done) | (unfold rldF; simp [*]; omega)
      rw [e]
      exact rlz18 xx ss rd rn rm ra a b c (by omega) hb
  · have ql := qlit (.inr rfl)
    cases ss
    · by_cases h1 : c = 1
      · by_cases hb : b = 2
        · have e : rldF ⟨19, xx, false, rd, rn, rm, ra, a, b, c⟩ = (((⟨#[115, 116]⟩ : ByteArray) ++ (pickF c [(⟨#[110, 112]⟩ : ByteArray), (⟨#[112]⟩ : ByteArray), (⟨#[112]⟩ : ByteArray), (⟨#[112]⟩ : ByteArray)] ++ pickF b [emp, (⟨#[115, 119]⟩ : ByteArray), emp]), [oReg rd (decide (0 < b)), oReg ra (decide (0 < b)), oMem rn 2 (8 * a)])) := by first | rfl | (unfold rldF stld modeF; simp [*]; done) | (unfold rldF stld modeF; simp [*]; omega)
          rw [e]
          exact rl19c1b2 xx rd rn rm ra a b c (by omega) h1 hb
        · have e : rldF ⟨19, xx, false, rd, rn, rm, ra, a, b, c⟩ = (((⟨#[115, 116]⟩ : ByteArray) ++ (pickF c [(⟨#[110, 112]⟩ : ByteArray), (⟨#[112]⟩ : ByteArray), (⟨#[112]⟩ : ByteArray), (⟨#[112]⟩ : ByteArray)] ++ pickF b [emp, (⟨#[115, 119]⟩ : ByteArray), emp]), [oReg rd (decide (0 < b)), oReg ra (decide (0 < b)), oMem rn 2 (4 * a)])) := by first | rfl | (unfold rldF stld modeF; simp [*]; done) | (unfold rldF stld modeF; simp [*]; omega)
          rw [e]
          exact rl19c1bo xx rd rn rm ra a b c (by omega) h1 hb
      by_cases h3 : c = 3
      · by_cases hb : b = 2
        · have e : rldF ⟨19, xx, false, rd, rn, rm, ra, a, b, c⟩ = (((⟨#[115, 116]⟩ : ByteArray) ++ (pickF c [(⟨#[110, 112]⟩ : ByteArray), (⟨#[112]⟩ : ByteArray), (⟨#[112]⟩ : ByteArray), (⟨#[112]⟩ : ByteArray)] ++ pickF b [emp, (⟨#[115, 119]⟩ : ByteArray), emp]), [oReg rd (decide (0 < b)), oReg ra (decide (0 < b)), oMem rn 1 (8 * a)])) := by first | rfl | (unfold rldF stld modeF; simp [*]; done) | (unfold rldF stld modeF; simp [*]; omega)
          rw [e]
          exact rl19c3b2 xx rd rn rm ra a b c (by omega) h3 hb
        · have e : rldF ⟨19, xx, false, rd, rn, rm, ra, a, b, c⟩ = (((⟨#[115, 116]⟩ : ByteArray) ++ (pickF c [(⟨#[110, 112]⟩ : ByteArray), (⟨#[112]⟩ : ByteArray), (⟨#[112]⟩ : ByteArray), (⟨#[112]⟩ : ByteArray)] ++ pickF b [emp, (⟨#[115, 119]⟩ : ByteArray), emp]), [oReg rd (decide (0 < b)), oReg ra (decide (0 < b)), oMem rn 1 (4 * a)])) := by first | rfl | (unfold rldF stld modeF; simp [*]; done) | (unfold rldF stld modeF; simp [*]; omega)
          rw [e]
          exact rl19c3bo xx rd rn rm ra a b c (by omega) h3 hb
      · by_cases hb : b = 2
        · have e : rldF ⟨19, xx, false, rd, rn, rm, ra, a, b, c⟩ = (((⟨#[115, 116]⟩ : ByteArray) ++ (pickF c [(⟨#[110, 112]⟩ : ByteArray), (⟨#[112]⟩ : ByteArray), (⟨#[112]⟩ : ByteArray), (⟨#[112]⟩ : ByteArray)] ++ pickF b [emp, (⟨#[115, 119]⟩ : ByteArray), emp]), [oReg rd (decide (0 < b)), oReg ra (decide (0 < b)), oMem rn 0 (8 * a)])) := by first | rfl | (unfold rldF stld modeF; simp [*]; done) | (unfold rldF stld modeF; simp [*]; omega)
          rw [e]
          exact rl19cob2 xx rd rn rm ra a b c (by omega) ⟨h1, h3⟩ hb
        · have e : rldF ⟨19, xx, false, rd, rn, rm, ra, a, b, c⟩ = (((⟨#[115, 116]⟩ : ByteArray) ++ (pickF c [(⟨#[110, 112]⟩ : ByteArray), (⟨#[112]⟩ : ByteArray), (⟨#[112]⟩ : ByteArray), (⟨#[112]⟩ : ByteArray)] ++ pickF b [emp, (⟨#[115, 119]⟩ : ByteArray), emp]), [oReg rd (decide (0 < b)), oReg ra (decide (0 < b)), oMem rn 0 (4 * a)])) := by first | rfl | (unfold rldF stld modeF; simp [*]; done) | (unfold rldF stld modeF; simp [*]; omega)
          rw [e]
          exact rl19cobo xx rd rn rm ra a b c (by omega) ⟨h1, h3⟩ hb
    · by_cases h1 : c = 1
      · by_cases hb : b = 2
        · have e : rldF ⟨19, xx, true, rd, rn, rm, ra, a, b, c⟩ = (((⟨#[108, 100]⟩ : ByteArray) ++ (pickF c [(⟨#[110, 112]⟩ : ByteArray), (⟨#[112]⟩ : ByteArray), (⟨#[112]⟩ : ByteArray), (⟨#[112]⟩ : ByteArray)] ++ pickF b [emp, (⟨#[115, 119]⟩ : ByteArray), emp]), [oReg rd (decide (0 < b)), oReg ra (decide (0 < b)), oMem rn 2 (8 * a)])) := by first | rfl | (unfold rldF stld modeF; simp [*]; done) | (unfold rldF stld modeF; simp [*]; omega)
          rw [e]
          exact rl19sc1b2 xx rd rn rm ra a b c (by omega) h1 hb
        · have e : rldF ⟨19, xx, true, rd, rn, rm, ra, a, b, c⟩ = (((⟨#[108, 100]⟩ : ByteArray) ++ (pickF c [(⟨#[110, 112]⟩ : ByteArray), (⟨#[112]⟩ : ByteArray), (⟨#[112]⟩ : ByteArray), (⟨#[112]⟩ : ByteArray)] ++ pickF b [emp, (⟨#[115, 119]⟩ : ByteArray), emp]), [oReg rd (decide (0 < b)), oReg ra (decide (0 < b)), oMem rn 2 (4 * a)])) := by first | rfl | (unfold rldF stld modeF; simp [*]; done) | (unfold rldF stld modeF; simp [*]; omega)
          rw [e]
          exact rl19sc1bo xx rd rn rm ra a b c (by omega) h1 hb
      by_cases h3 : c = 3
      · by_cases hb : b = 2
        · have e : rldF ⟨19, xx, true, rd, rn, rm, ra, a, b, c⟩ = (((⟨#[108, 100]⟩ : ByteArray) ++ (pickF c [(⟨#[110, 112]⟩ : ByteArray), (⟨#[112]⟩ : ByteArray), (⟨#[112]⟩ : ByteArray), (⟨#[112]⟩ : ByteArray)] ++ pickF b [emp, (⟨#[115, 119]⟩ : ByteArray), emp]), [oReg rd (decide (0 < b)), oReg ra (decide (0 < b)), oMem rn 1 (8 * a)])) := by first | rfl | (unfold rldF stld modeF; simp [*]; done) | (unfold rldF stld modeF; simp [*]; omega)
          rw [e]
          exact rl19sc3b2 xx rd rn rm ra a b c (by omega) h3 hb
        · have e : rldF ⟨19, xx, true, rd, rn, rm, ra, a, b, c⟩ = (((⟨#[108, 100]⟩ : ByteArray) ++ (pickF c [(⟨#[110, 112]⟩ : ByteArray), (⟨#[112]⟩ : ByteArray), (⟨#[112]⟩ : ByteArray), (⟨#[112]⟩ : ByteArray)] ++ pickF b [emp, (⟨#[115, 119]⟩ : ByteArray), emp]), [oReg rd (decide (0 < b)), oReg ra (decide (0 < b)), oMem rn 1 (4 * a)])) := by first | rfl | (unfold rldF stld modeF; simp [*]; done) | (unfold rldF stld modeF; simp [*]; omega)
          rw [e]
          exact rl19sc3bo xx rd rn rm ra a b c (by omega) h3 hb
      · by_cases hb : b = 2
        · have e : rldF ⟨19, xx, true, rd, rn, rm, ra, a, b, c⟩ = (((⟨#[108, 100]⟩ : ByteArray) ++ (pickF c [(⟨#[110, 112]⟩ : ByteArray), (⟨#[112]⟩ : ByteArray), (⟨#[112]⟩ : ByteArray), (⟨#[112]⟩ : ByteArray)] ++ pickF b [emp, (⟨#[115, 119]⟩ : ByteArray), emp]), [oReg rd (decide (0 < b)), oReg ra (decide (0 < b)), oMem rn 0 (8 * a)])) := by first | rfl | (unfold rldF stld modeF; simp [*]; done) | (unfold rldF stld modeF; simp [*]; omega)
          rw [e]
          exact rl19scob2 xx rd rn rm ra a b c (by omega) ⟨h1, h3⟩ hb
        · have e : rldF ⟨19, xx, true, rd, rn, rm, ra, a, b, c⟩ = (((⟨#[108, 100]⟩ : ByteArray) ++ (pickF c [(⟨#[110, 112]⟩ : ByteArray), (⟨#[112]⟩ : ByteArray), (⟨#[112]⟩ : ByteArray), (⟨#[112]⟩ : ByteArray)] ++ pickF b [emp, (⟨#[115, 119]⟩ : ByteArray), emp]), [oReg rd (decide (0 < b)), oReg ra (decide (0 < b)), oMem rn 0 (4 * a)])) := by first | rfl | (unfold rldF stld modeF; simp [*]; done) | (unfold rldF stld modeF; simp [*]; omega)
          rw [e]
          exact rl19scobo xx rd rn rm ra a b c (by omega) ⟨h1, h3⟩ hb
  · have qa : a = 0 ∨ a = 1 ∨ a = 2 := by have := (qex rfl).1; omega
    cases ss
    · rcases qa with rfl | rfl | rfl
      · cases xx
        · have e : rldF ⟨23, false, false, rd, rn, rm, ra, 0, b, c⟩ = ((((⟨#[115, 116]⟩ : ByteArray) ++ ((⟨#[120]⟩ : ByteArray) ++ pickF 0 [(⟨#[114]⟩ : ByteArray), (⟨#[112]⟩ : ByteArray)])) ++ pickF b [(⟨#[98]⟩ : ByteArray), (⟨#[104]⟩ : ByteArray), emp, emp], [oReg rm false, oReg rd (decide (b = 3)), oMem rn 0 0])) := by first | rfl | (unfold rldF rexN rexO stld; simp [*]; done) | (unfold rldF rexN rexO stld; simp [*]; omega)
          rw [e]
          exact rl230 rd rn rm ra b c 
        · have e : rldF ⟨23, true, false, rd, rn, rm, ra, 0, b, c⟩ = ((((⟨#[115, 116]⟩ : ByteArray) ++ (pickF (flagN false) [(⟨#[108, 120]⟩ : ByteArray), (⟨#[97, 120]⟩ : ByteArray)] ++ pickF 0 [(⟨#[114]⟩ : ByteArray), (⟨#[112]⟩ : ByteArray)])) ++ pickF b [(⟨#[98]⟩ : ByteArray), (⟨#[104]⟩ : ByteArray), emp, emp], [oReg rm false, oReg rd (decide (b = 3)), oMem rn 0 0])) := by first | rfl | (unfold rldF rexN rexO stld; simp [*]; done) | (unfold rldF rexN rexO stld; simp [*]; omega)
          rw [e]
          exact rl230x rd rn rm ra b c 
      · cases xx
        · have e : rldF ⟨23, false, false, rd, rn, rm, ra, 1, b, c⟩ = ((((⟨#[115, 116]⟩ : ByteArray) ++ ((⟨#[120]⟩ : ByteArray) ++ pickF 1 [(⟨#[114]⟩ : ByteArray), (⟨#[112]⟩ : ByteArray)])) ++ pickF b [(⟨#[98]⟩ : ByteArray), (⟨#[104]⟩ : ByteArray), emp, emp], [oReg rm false, oReg rd (decide (b = 3)), oReg ra (decide (b = 3)), oMem rn 0 0])) := by first | rfl | (unfold rldF rexN rexO stld; simp [*]; done) | (unfold rldF rexN rexO stld; simp [*]; omega)
          rw [e]
          exact rl231 rd rn rm ra b c 
        · have e : rldF ⟨23, true, false, rd, rn, rm, ra, 1, b, c⟩ = ((((⟨#[115, 116]⟩ : ByteArray) ++ (pickF (flagN false) [(⟨#[108, 120]⟩ : ByteArray), (⟨#[97, 120]⟩ : ByteArray)] ++ pickF 1 [(⟨#[114]⟩ : ByteArray), (⟨#[112]⟩ : ByteArray)])) ++ pickF b [(⟨#[98]⟩ : ByteArray), (⟨#[104]⟩ : ByteArray), emp, emp], [oReg rm false, oReg rd (decide (b = 3)), oReg ra (decide (b = 3)), oMem rn 0 0])) := by first | rfl | (unfold rldF rexN rexO stld; simp [*]; done) | (unfold rldF rexN rexO stld; simp [*]; omega)
          rw [e]
          exact rl231x rd rn rm ra b c 
      · have e : rldF ⟨23, xx, false, rd, rn, rm, ra, 2, b, c⟩ = ((((⟨#[115, 116]⟩ : ByteArray) ++ (pickF (flagN false) [(⟨#[108]⟩ : ByteArray), (⟨#[97]⟩ : ByteArray)] ++ (⟨#[114]⟩ : ByteArray))) ++ pickF b [(⟨#[98]⟩ : ByteArray), (⟨#[104]⟩ : ByteArray), emp, emp], [oReg rd (decide (b = 3)), oMem rn 0 0])) := by first | rfl | (unfold rldF rexN rexO stld; simp [*]; done) | (unfold rldF rexN rexO stld; simp [*]; omega)
        rw [e]
        exact rl232 xx rd rn rm ra b c 
    · rcases qa with rfl | rfl | rfl
      · cases xx
        · have e : rldF ⟨23, false, true, rd, rn, rm, ra, 0, b, c⟩ = ((((⟨#[108, 100]⟩ : ByteArray) ++ ((⟨#[120]⟩ : ByteArray) ++ pickF 0 [(⟨#[114]⟩ : ByteArray), (⟨#[112]⟩ : ByteArray)])) ++ pickF b [(⟨#[98]⟩ : ByteArray), (⟨#[104]⟩ : ByteArray), emp, emp], [oReg rd (decide (b = 3)), oMem rn 0 0])) := by first | rfl | (unfold rldF rexN rexO stld; simp [*]; done) | (unfold rldF rexN rexO stld; simp [*]; omega)
          rw [e]
          exact rl230s rd rn rm ra b c 
        · have e : rldF ⟨23, true, true, rd, rn, rm, ra, 0, b, c⟩ = ((((⟨#[108, 100]⟩ : ByteArray) ++ (pickF (flagN true) [(⟨#[108, 120]⟩ : ByteArray), (⟨#[97, 120]⟩ : ByteArray)] ++ pickF 0 [(⟨#[114]⟩ : ByteArray), (⟨#[112]⟩ : ByteArray)])) ++ pickF b [(⟨#[98]⟩ : ByteArray), (⟨#[104]⟩ : ByteArray), emp, emp], [oReg rd (decide (b = 3)), oMem rn 0 0])) := by first | rfl | (unfold rldF rexN rexO stld; simp [*]; done) | (unfold rldF rexN rexO stld; simp [*]; omega)
          rw [e]
          exact rl230xs rd rn rm ra b c 
      · cases xx
        · have e : rldF ⟨23, false, true, rd, rn, rm, ra, 1, b, c⟩ = ((((⟨#[108, 100]⟩ : ByteArray) ++ ((⟨#[120]⟩ : ByteArray) ++ pickF 1 [(⟨#[114]⟩ : ByteArray), (⟨#[112]⟩ : ByteArray)])) ++ pickF b [(⟨#[98]⟩ : ByteArray), (⟨#[104]⟩ : ByteArray), emp, emp], [oReg rd (decide (b = 3)), oReg ra (decide (b = 3)), oMem rn 0 0])) := by first | rfl | (unfold rldF rexN rexO stld; simp [*]; done) | (unfold rldF rexN rexO stld; simp [*]; omega)
          rw [e]
          exact rl231s rd rn rm ra b c 
        · have e : rldF ⟨23, true, true, rd, rn, rm, ra, 1, b, c⟩ = ((((⟨#[108, 100]⟩ : ByteArray) ++ (pickF (flagN true) [(⟨#[108, 120]⟩ : ByteArray), (⟨#[97, 120]⟩ : ByteArray)] ++ pickF 1 [(⟨#[114]⟩ : ByteArray), (⟨#[112]⟩ : ByteArray)])) ++ pickF b [(⟨#[98]⟩ : ByteArray), (⟨#[104]⟩ : ByteArray), emp, emp], [oReg rd (decide (b = 3)), oReg ra (decide (b = 3)), oMem rn 0 0])) := by first | rfl | (unfold rldF rexN rexO stld; simp [*]; done) | (unfold rldF rexN rexO stld; simp [*]; omega)
          rw [e]
          exact rl231xs rd rn rm ra b c 
      · have e : rldF ⟨23, xx, true, rd, rn, rm, ra, 2, b, c⟩ = ((((⟨#[108, 100]⟩ : ByteArray) ++ (pickF (flagN true) [(⟨#[108]⟩ : ByteArray), (⟨#[97]⟩ : ByteArray)] ++ (⟨#[114]⟩ : ByteArray))) ++ pickF b [(⟨#[98]⟩ : ByteArray), (⟨#[104]⟩ : ByteArray), emp, emp], [oReg rd (decide (b = 3)), oMem rn 0 0])) := by first | rfl | (unfold rldF rexN rexO stld; simp [*]; done) | (unfold rldF rexN rexO stld; simp [*]; omega)
        rw [e]
        exact rl232s xx rd rn rm ra b c 
theorem en_rld (args : Array Value) (w : World) : (callFunc 77 args).run Tryz.prog w = .ok (.enter 77 args) w := by go_simp
def rldS : Spec Tryz.prog 77 :=
  mk1 _ _ _ Tryz.func77 rfl en_rld (tAgg insR) ((fun x => icheckF x = 0 ∧ (x.op = 18 ∨ x.op = 19 ∨ x.op = 23))) ((fun x => .ret (lineV (rldF x)))) (by rw [Tryz.ntmps77]; decide) (fun x h => rld_sw x h.1 h.2)
theorem rld_run {id : Nat} {h : Heap} {args : List AV} : (rldS).run id h args = runP (args1 (tAgg insR) ((fun x => icheckF x = 0 ∧ (x.op = 18 ∨ x.op = 19 ∨ x.op = 23)))) ((fun x => .ret (lineV (rldF x)))) h args := rfl
theorem rld_pan {id : Nat} {h : Heap} {args : List AV} : (rldS).pan id h args = panP (args1 (tAgg insR) ((fun x => icheckF x = 0 ∧ (x.op = 18 ∨ x.op = 19 ∨ x.op = 23)))) ((fun x => .ret (lineV (rldF x)))) h args := rfl

set_option maxHeartbeats 4000000 in
theorem radd_sw (x : Ins) (h : icheckF x = 0) (ho : 24 ≤ x.op ∧ x.op ≤ 27) : SW Tryz.prog ⟨none, 0⟩ Tryz.f78.ntmps (Tryz.f78.body.getD .skip) ⟨0, zipT 0 [(tAgg insR).enc x], []⟩ (outQ Tryz.prog Tryz.f78.results.toList (.ret (lineV (raddF x)))) := by
  have q := plB_of h
  clear h
  have qlogR := q.logR
  have qmods := q.mods
  clear q
  obtain ⟨op, xx, ss, rd, rn, rm, ra, a, b, c⟩ := x
  simp only at ho qlogR qmods
  have hop : op = 24 ∨ op = 25 ∨ op = 26 ∨ op = 27 := by omega
  clear ho
  rcases hop with rfl | rfl | rfl | rfl
  · have e : raddF ⟨24, xx, ss, rd, rn, rm, ra, a, b, c⟩ = ((pickF (2 * b + flagN ss) [(⟨#[97, 110, 100]⟩ : ByteArray), (⟨#[98, 105, 99]⟩ : ByteArray), (⟨#[111, 114, 114]⟩ : ByteArray), (⟨#[111, 114, 110]⟩ : ByteArray), (⟨#[101, 111, 114]⟩ : ByteArray), (⟨#[101, 111, 110]⟩ : ByteArray), (⟨#[97, 110, 100, 115]⟩ : ByteArray), (⟨#[98, 105, 99, 115]⟩ : ByteArray)], [oReg rd xx, oReg rn xx, shF ⟨24, xx, ss, rd, rn, rm, ra, a, b, c⟩])) := by first | rfl | (unfold raddF; simp [*]; done) | (unfold raddF; simp [*]; omega)
    rw [e]
    exact ra24 xx ss rd rn rm ra a b c (qmods (by decide) (by decide)) (qlogR rfl)
  · have e : raddF ⟨25, xx, ss, rd, rn, rm, ra, a, b, c⟩ = ((flagF (pickF b [(⟨#[97, 100, 100]⟩ : ByteArray), (⟨#[115, 117, 98]⟩ : ByteArray)]) ss (⟨#[115]⟩ : ByteArray), [oReg rd xx, oReg rn xx, shF ⟨25, xx, ss, rd, rn, rm, ra, a, b, c⟩])) := by first | rfl | (unfold raddF; simp [*]; done) | (unfold raddF; simp [*]; omega)
    rw [e]
    exact ra25 xx ss rd rn rm ra a b c (qmods (by decide) (by decide))
  · have e : raddF ⟨26, xx, ss, rd, rn, rm, ra, a, b, c⟩ = ((flagF (pickF b [(⟨#[97, 100, 100]⟩ : ByteArray), (⟨#[115, 117, 98]⟩ : ByteArray)]) ss (⟨#[115]⟩ : ByteArray), [spF (!ss) rd xx, oSP rn xx, extO ⟨26, xx, ss, rd, rn, rm, ra, a, b, c⟩])) := by first | rfl | (unfold raddF; simp [*]; done) | (unfold raddF; simp [*]; omega)
    rw [e]
    exact ra26 xx ss rd rn rm ra a b c (qmods (by decide) (by decide))
  · have e : raddF ⟨27, xx, ss, rd, rn, rm, ra, a, b, c⟩ = ((flagF (pickF b [(⟨#[97, 100, 99]⟩ : ByteArray), (⟨#[115, 98, 99]⟩ : ByteArray)]) ss (⟨#[115]⟩ : ByteArray), [oReg rd xx, oReg rn xx, oReg rm xx])) := by first | rfl | (unfold raddF; simp [*]; done) | (unfold raddF; simp [*]; omega)
    rw [e]
    exact ra27 xx ss rd rn rm ra a b c 
theorem en_radd (args : Array Value) (w : World) : (callFunc 78 args).run Tryz.prog w = .ok (.enter 78 args) w := by go_simp
def raddS : Spec Tryz.prog 78 :=
  mk1 _ _ _ Tryz.func78 rfl en_radd (tAgg insR) ((fun x => icheckF x = 0 ∧ (24 ≤ x.op ∧ x.op ≤ 27))) ((fun x => .ret (lineV (raddF x)))) (by rw [Tryz.ntmps78]; decide) (fun x h => radd_sw x h.1 h.2)
theorem radd_run {id : Nat} {h : Heap} {args : List AV} : (raddS).run id h args = runP (args1 (tAgg insR) ((fun x => icheckF x = 0 ∧ (24 ≤ x.op ∧ x.op ≤ 27)))) ((fun x => .ret (lineV (raddF x)))) h args := rfl
theorem radd_pan {id : Nat} {h : Heap} {args : List AV} : (raddS).pan id h args = panP (args1 (tAgg insR) ((fun x => icheckF x = 0 ∧ (24 ≤ x.op ∧ x.op ≤ 27)))) ((fun x => .ret (lineV (raddF x)))) h args := rfl

set_option maxHeartbeats 4000000 in
theorem rregs_sw (x : Ins) (h : icheckF x = 0) (ho : 28 ≤ x.op ∧ x.op ≤ 32) : SW Tryz.prog ⟨none, 0⟩ Tryz.f79.ntmps (Tryz.f79.body.getD .skip) ⟨0, zipT 0 [(tAgg insR).enc x], []⟩ (outQ Tryz.prog Tryz.f79.results.toList (.ret (lineV (rregsF x)))) := by
  have q := plB_of h
  clear h
  have qtwo := q.two
  clear q
  obtain ⟨op, xx, ss, rd, rn, rm, ra, a, b, c⟩ := x
  simp only at ho qtwo
  have hop : op = 28 ∨ op = 29 ∨ op = 30 ∨ op = 31 ∨ op = 32 := by omega
  clear ho
  rcases hop with rfl | rfl | rfl | rfl | rfl
  · cases ss
    · have e : rregsF ⟨28, xx, false, rd, rn, rm, ra, a, b, c⟩ = ((pickF b [(⟨#[99, 99, 109, 110]⟩ : ByteArray), (⟨#[99, 99, 109, 112]⟩ : ByteArray)], [oReg rn xx, oReg rm xx, oNum a, oOf 4 c])) := by first | rfl | (unfold rregsF; simp [*]; done) | (unfold rregsF; simp [*]; omega)
      rw [e]
      exact rr28 xx rd rn rm ra a b c 
    · have e : rregsF ⟨28, xx, true, rd, rn, rm, ra, a, b, c⟩ = ((pickF b [(⟨#[99, 99, 109, 110]⟩ : ByteArray), (⟨#[99, 99, 109, 112]⟩ : ByteArray)], [oReg rn xx, oNum rm, oNum a, oOf 4 c])) := by first | rfl | (unfold rregsF; simp [*]; done) | (unfold rregsF; simp [*]; omega)
      rw [e]
      exact rr28s xx rd rn rm ra a b c 
  · have e : rregsF ⟨29, xx, ss, rd, rn, rm, ra, a, b, c⟩ = ((pickF b [(⟨#[99, 115, 101, 108]⟩ : ByteArray), (⟨#[99, 115, 105, 110, 99]⟩ : ByteArray), (⟨#[99, 115, 105, 110, 118]⟩ : ByteArray), (⟨#[99, 115, 110, 101, 103]⟩ : ByteArray)], [oReg rd xx, oReg rn xx, oReg rm xx, oOf 4 a])) := by first | rfl | (unfold rregsF; simp [*]; done) | (unfold rregsF; simp [*]; omega)
    rw [e]
    exact rr29 xx ss rd rn rm ra a b c 
  · by_cases hb : b = 2
    · subst hb
      cases xx
      · have e : rregsF ⟨30, false, ss, rd, rn, rm, ra, a, 2, c⟩ = (((⟨#[114, 101, 118]⟩ : ByteArray), [oReg rd false, oReg rn false])) := by first | rfl | (unfold rregsF; simp [*]; done) | (unfold rregsF; simp [*]; omega)
        rw [e]
        exact rr302 ss rd rn rm ra a c 
      · have e : rregsF ⟨30, true, ss, rd, rn, rm, ra, a, 2, c⟩ = ((pickF 2 [(⟨#[114, 98, 105, 116]⟩ : ByteArray), (⟨#[114, 101, 118, 49, 54]⟩ : ByteArray), (⟨#[114, 101, 118, 51, 50]⟩ : ByteArray), (⟨#[114, 101, 118]⟩ : ByteArray), (⟨#[99, 108, 122]⟩ : ByteArray), (⟨#[99, 108, 115]⟩ : ByteArray)], [oReg rd true, oReg rn true])) := by first | rfl | (unfold rregsF; simp [*]; done) | (unfold rregsF; simp [*]; omega)
        rw [e]
        exact rr30x ss rd rn rm ra a 2 c 
    · have e : rregsF ⟨30, xx, ss, rd, rn, rm, ra, a, b, c⟩ = ((pickF b [(⟨#[114, 98, 105, 116]⟩ : ByteArray), (⟨#[114, 101, 118, 49, 54]⟩ : ByteArray), (⟨#[114, 101, 118, 51, 50]⟩ : ByteArray), (⟨#[114, 101, 118]⟩ : ByteArray), (⟨#[99, 108, 122]⟩ : ByteArray), (⟨#[99, 108, 115]⟩ : ByteArray)], [oReg rd xx, oReg rn xx])) := by first | rfl | (unfold rregsF; simp [*]; done) | (unfold rregsF; simp [*]; omega)
      rw [e]
      exact rr30 xx ss rd rn rm ra a b c hb
  · by_cases hb : 16 ≤ b
    · have e : rregsF ⟨31, xx, ss, rd, rn, rm, ra, a, b, c⟩ = (((⟨#[99, 114, 99, 51, 50]⟩ : ByteArray) ++ pickF (b - 16) [(⟨#[98]⟩ : ByteArray), (⟨#[104]⟩ : ByteArray), (⟨#[119]⟩ : ByteArray), (⟨#[120]⟩ : ByteArray), (⟨#[99, 98]⟩ : ByteArray), (⟨#[99, 104]⟩ : ByteArray), (⟨#[99, 119]⟩ : ByteArray), (⟨#[99, 120]⟩ : ByteArray)], [oReg rd false, oReg rn false, oReg rm (decide (b % 4 = 3))])) := by first | rfl | (unfold rregsF; simp [*]; done) | (unfold rregsF; simp [*]; omega)
      rw [e]
      exact rr31c xx ss rd rn rm ra a b c ⟨hb, (qtwo rfl).2⟩
    · have e : rregsF ⟨31, xx, ss, rd, rn, rm, ra, a, b, c⟩ = ((pickF b [emp, emp, (⟨#[117, 100, 105, 118]⟩ : ByteArray), (⟨#[115, 100, 105, 118]⟩ : ByteArray), emp, emp, emp, emp, (⟨#[108, 115, 108, 118]⟩ : ByteArray), (⟨#[108, 115, 114, 118]⟩ : ByteArray), (⟨#[97, 115, 114, 118]⟩ : ByteArray), (⟨#[114, 111, 114, 118]⟩ : ByteArray)], [oReg rd xx, oReg rn xx, oReg rm xx])) := by first | rfl | (unfold rregsF; simp [*]; done) | (unfold rregsF; simp [*]; omega)
      rw [e]
      exact rr31 xx ss rd rn rm ra a b c hb
  · by_cases h0 : b = 0
    · subst h0
      have e : rregsF ⟨32, xx, ss, rd, rn, rm, ra, a, 0, c⟩ = ((dp3N ⟨32, xx, ss, rd, rn, rm, ra, a, 0, c⟩, [oReg rd xx, oReg rn xx, oReg rm xx, oReg ra xx])) := by first | rfl | (unfold rregsF; simp [*]; done) | (unfold rregsF; simp [*]; omega)
      rw [e]
      exact rr320 xx ss rd rn rm ra a c 
    by_cases h1 : b = 1
    · subst h1
      have e : rregsF ⟨32, xx, ss, rd, rn, rm, ra, a, 1, c⟩ = ((dp3N ⟨32, xx, ss, rd, rn, rm, ra, a, 1, c⟩, [oReg rd xx, oReg rn xx, oReg rm xx, oReg ra xx])) := by first | rfl | (unfold rregsF; simp [*]; done) | (unfold rregsF; simp [*]; omega)
      rw [e]
      exact rr321 xx ss rd rn rm ra a c 
    by_cases h4 : b = 4
    · subst h4
      have e : rregsF ⟨32, xx, ss, rd, rn, rm, ra, a, 4, c⟩ = ((dp3N ⟨32, xx, ss, rd, rn, rm, ra, a, 4, c⟩, [oReg rd true, oReg rn true, oReg rm true])) := by first | rfl | (unfold rregsF; simp [*]; done) | (unfold rregsF; simp [*]; omega)
      rw [e]
      exact rr324 xx ss rd rn rm ra a c 
    by_cases h7 : b = 7
    · subst h7
      have e : rregsF ⟨32, xx, ss, rd, rn, rm, ra, a, 7, c⟩ = ((dp3N ⟨32, xx, ss, rd, rn, rm, ra, a, 7, c⟩, [oReg rd true, oReg rn true, oReg rm true])) := by first | rfl | (unfold rregsF; simp [*]; done) | (unfold rregsF; simp [*]; omega)
      rw [e]
      exact rr327 xx ss rd rn rm ra a c 
    · have e : rregsF ⟨32, xx, ss, rd, rn, rm, ra, a, b, c⟩ = ((dp3N ⟨32, xx, ss, rd, rn, rm, ra, a, b, c⟩, [oReg rd true, oReg rn false, oReg rm false, oReg ra true])) := by first | rfl | (unfold rregsF; simp [*]; done) | (unfold rregsF; simp [*]; omega)
      rw [e]
      exact rr32 xx ss rd rn rm ra a b c ⟨h0, h1, h4, h7⟩
theorem en_rregs (args : Array Value) (w : World) : (callFunc 79 args).run Tryz.prog w = .ok (.enter 79 args) w := by go_simp
def rregsS : Spec Tryz.prog 79 :=
  mk1 _ _ _ Tryz.func79 rfl en_rregs (tAgg insR) ((fun x => icheckF x = 0 ∧ (28 ≤ x.op ∧ x.op ≤ 32))) ((fun x => .ret (lineV (rregsF x)))) (by rw [Tryz.ntmps79]; decide) (fun x h => rregs_sw x h.1 h.2)
theorem rregs_run {id : Nat} {h : Heap} {args : List AV} : (rregsS).run id h args = runP (args1 (tAgg insR) ((fun x => icheckF x = 0 ∧ (28 ≤ x.op ∧ x.op ≤ 32)))) ((fun x => .ret (lineV (rregsF x)))) h args := rfl
theorem rregs_pan {id : Nat} {h : Heap} {args : List AV} : (rregsS).pan id h args = panP (args1 (tAgg insR) ((fun x => icheckF x = 0 ∧ (28 ≤ x.op ∧ x.op ≤ 32)))) ((fun x => .ret (lineV (rregsF x)))) h args := rfl

set_option maxHeartbeats 4000000 in
theorem rpln_sw (x : Ins) (h : icheckF x = 0) : SW Tryz.prog ⟨none, 0⟩ Tryz.f30.ntmps (Tryz.f30.body.getD .skip) ⟨0, zipT 0 [(tAgg insR).enc x], []⟩ (outQ Tryz.prog Tryz.f30.results.toList (.ret (lineV (rplainF x)))) := by
  refine aRun_sound (ctx := [⟨_, rdistS⟩, ⟨_, rimmS⟩, ⟨_, rsysS⟩, ⟨_, rtrS⟩, ⟨_, rldS⟩, ⟨_, raddS⟩, ⟨_, rregsS⟩]) 4000 ?_
  rw [Tryz.ntmps30, Tryz.results30]
  simp only [Tryz.f30, Option.getD_some, zipT]
  have ho := (plB_of h).op
  by_cases crdist : x.op = 1 ∨ (7 ≤ x.op ∧ x.op ≤ 11)
  · have e : rplainF x = rdistF x := by unfold rplainF; first | (rw [if_pos crdist]; done) | (simp only [crdist, if_false]; repeat' split) <;> first | rfl | (exfalso; omega)
    have hq : icheckF x = 0 ∧ (x.op = 1 ∨ (7 ≤ x.op ∧ x.op ≤ 11)) := ⟨h, crdist⟩
    rw [e]
    rcases crdist with c1 | c1
    · have h1 : (x.op == 1) = true := by simpa using c1
      simp only [go_sem, insR, h1, rdist_run, rdist_pan, rimm_run, rimm_pan, rsys_run, rsys_pan, rtr_run, rtr_pan, rld_run, rld_pan, radd_run, radd_pan, rregs_run, rregs_pan, hq, lineV]
    · have h1 : (x.op == 1) = false := by simp only [beq_eq_false_iff_ne, ne_eq]; omega
      simp only [go_sem, insR, h1, c1.1, c1.2, rdist_run, rdist_pan, rimm_run, rimm_pan, rsys_run, rsys_pan, rtr_run, rtr_pan, rld_run, rld_pan, radd_run, radd_pan, rregs_run, rregs_pan, hq, lineV]
  by_cases crimm : 2 ≤ x.op ∧ x.op ≤ 6
  · have e : rplainF x = rimmF x := by unfold rplainF; first | (rw [if_pos crimm]; done) | (simp only [crdist, if_false]; repeat' split) <;> first | rfl | (exfalso; omega)
    have hq : icheckF x = 0 ∧ (2 ≤ x.op ∧ x.op ≤ 6) := ⟨h, crimm⟩
    rw [e]
    have h1 : (x.op == 1) = false := by simp only [beq_eq_false_iff_ne, ne_eq]; omega
    rcases Classical.em (7 ≤ x.op) with h7 | h7
    · have h11 : x.op ≤ 11 ∨ ¬ x.op ≤ 11 := Classical.em _
      have h6 : x.op ≤ 6 ∨ ¬ x.op ≤ 6 := Classical.em _
      have h17 : x.op ≤ 17 ∨ ¬ x.op ≤ 17 := Classical.em _
      have h20 : 20 ≤ x.op ∨ ¬ 20 ≤ x.op := Classical.em _
      have h22 : x.op ≤ 22 ∨ ¬ x.op ≤ 22 := Classical.em _
      have h23 : x.op ≤ 23 ∨ ¬ x.op ≤ 23 := Classical.em _
      have h27 : x.op ≤ 27 ∨ ¬ x.op ≤ 27 := Classical.em _
      rcases h11 with h11 | h11 <;> rcases h6 with h6 | h6 <;> rcases h17 with h17 | h17 <;> rcases h20 with h20 | h20 <;> rcases h22 with h22 | h22 <;> rcases h23 with h23 | h23 <;> rcases h27 with h27 | h27
      all_goals first | (exfalso; omega) | (simp only [go_sem, insR, h1, h7, h11, h6, h17, h20, h22, h23, h27, rdist_run, rdist_pan, rimm_run, rimm_pan, rsys_run, rsys_pan, rtr_run, rtr_pan, rld_run, rld_pan, radd_run, radd_pan, rregs_run, rregs_pan, hq, lineV]; done)
    · have h11 : x.op ≤ 11 ∨ ¬ x.op ≤ 11 := Classical.em _
      have h6 : x.op ≤ 6 ∨ ¬ x.op ≤ 6 := Classical.em _
      have h17 : x.op ≤ 17 ∨ ¬ x.op ≤ 17 := Classical.em _
      have h20 : 20 ≤ x.op ∨ ¬ 20 ≤ x.op := Classical.em _
      have h22 : x.op ≤ 22 ∨ ¬ x.op ≤ 22 := Classical.em _
      have h23 : x.op ≤ 23 ∨ ¬ x.op ≤ 23 := Classical.em _
      have h27 : x.op ≤ 27 ∨ ¬ x.op ≤ 27 := Classical.em _
      rcases h11 with h11 | h11 <;> rcases h6 with h6 | h6 <;> rcases h17 with h17 | h17 <;> rcases h20 with h20 | h20 <;> rcases h22 with h22 | h22 <;> rcases h23 with h23 | h23 <;> rcases h27 with h27 | h27
      all_goals first | (exfalso; omega) | (simp only [go_sem, insR, h1, h7, h11, h6, h17, h20, h22, h23, h27, rdist_run, rdist_pan, rimm_run, rimm_pan, rsys_run, rsys_pan, rtr_run, rtr_pan, rld_run, rld_pan, radd_run, radd_pan, rregs_run, rregs_pan, hq, lineV]; done)
  by_cases crsys : 12 ≤ x.op ∧ x.op ≤ 17
  · have e : rplainF x = rsysF x := by unfold rplainF; first | (rw [if_pos crsys]; done) | (simp only [crdist, if_false]; repeat' split) <;> first | rfl | (exfalso; omega)
    have hq : icheckF x = 0 ∧ (12 ≤ x.op ∧ x.op ≤ 17) := ⟨h, crsys⟩
    rw [e]
    have h1 : (x.op == 1) = false := by simp only [beq_eq_false_iff_ne, ne_eq]; omega
    rcases Classical.em (7 ≤ x.op) with h7 | h7
    · have h11 : x.op ≤ 11 ∨ ¬ x.op ≤ 11 := Classical.em _
      have h6 : x.op ≤ 6 ∨ ¬ x.op ≤ 6 := Classical.em _
      have h17 : x.op ≤ 17 ∨ ¬ x.op ≤ 17 := Classical.em _
      have h20 : 20 ≤ x.op ∨ ¬ 20 ≤ x.op := Classical.em _
      have h22 : x.op ≤ 22 ∨ ¬ x.op ≤ 22 := Classical.em _
      have h23 : x.op ≤ 23 ∨ ¬ x.op ≤ 23 := Classical.em _
      have h27 : x.op ≤ 27 ∨ ¬ x.op ≤ 27 := Classical.em _
      rcases h11 with h11 | h11 <;> rcases h6 with h6 | h6 <;> rcases h17 with h17 | h17 <;> rcases h20 with h20 | h20 <;> rcases h22 with h22 | h22 <;> rcases h23 with h23 | h23 <;> rcases h27 with h27 | h27
      all_goals first | (exfalso; omega) | (simp only [go_sem, insR, h1, h7, h11, h6, h17, h20, h22, h23, h27, rdist_run, rdist_pan, rimm_run, rimm_pan, rsys_run, rsys_pan, rtr_run, rtr_pan, rld_run, rld_pan, radd_run, radd_pan, rregs_run, rregs_pan, hq, lineV]; done)
    · have h11 : x.op ≤ 11 ∨ ¬ x.op ≤ 11 := Classical.em _
      have h6 : x.op ≤ 6 ∨ ¬ x.op ≤ 6 := Classical.em _
      have h17 : x.op ≤ 17 ∨ ¬ x.op ≤ 17 := Classical.em _
      have h20 : 20 ≤ x.op ∨ ¬ 20 ≤ x.op := Classical.em _
      have h22 : x.op ≤ 22 ∨ ¬ x.op ≤ 22 := Classical.em _
      have h23 : x.op ≤ 23 ∨ ¬ x.op ≤ 23 := Classical.em _
      have h27 : x.op ≤ 27 ∨ ¬ x.op ≤ 27 := Classical.em _
      rcases h11 with h11 | h11 <;> rcases h6 with h6 | h6 <;> rcases h17 with h17 | h17 <;> rcases h20 with h20 | h20 <;> rcases h22 with h22 | h22 <;> rcases h23 with h23 | h23 <;> rcases h27 with h27 | h27
      all_goals first | (exfalso; omega) | (simp only [go_sem, insR, h1, h7, h11, h6, h17, h20, h22, h23, h27, rdist_run, rdist_pan, rimm_run, rimm_pan, rsys_run, rsys_pan, rtr_run, rtr_pan, rld_run, rld_pan, radd_run, radd_pan, rregs_run, rregs_pan, hq, lineV]; done)
  by_cases crtr : 20 ≤ x.op ∧ x.op ≤ 22
  · have e : rplainF x = rtrF x := by unfold rplainF; first | (rw [if_pos crtr]; done) | (simp only [crdist, if_false]; repeat' split) <;> first | rfl | (exfalso; omega)
    have hq : icheckF x = 0 ∧ (20 ≤ x.op ∧ x.op ≤ 22) := ⟨h, crtr⟩
    rw [e]
    have h1 : (x.op == 1) = false := by simp only [beq_eq_false_iff_ne, ne_eq]; omega
    rcases Classical.em (7 ≤ x.op) with h7 | h7
    · have h11 : x.op ≤ 11 ∨ ¬ x.op ≤ 11 := Classical.em _
      have h6 : x.op ≤ 6 ∨ ¬ x.op ≤ 6 := Classical.em _
      have h17 : x.op ≤ 17 ∨ ¬ x.op ≤ 17 := Classical.em _
      have h20 : 20 ≤ x.op ∨ ¬ 20 ≤ x.op := Classical.em _
      have h22 : x.op ≤ 22 ∨ ¬ x.op ≤ 22 := Classical.em _
      have h23 : x.op ≤ 23 ∨ ¬ x.op ≤ 23 := Classical.em _
      have h27 : x.op ≤ 27 ∨ ¬ x.op ≤ 27 := Classical.em _
      rcases h11 with h11 | h11 <;> rcases h6 with h6 | h6 <;> rcases h17 with h17 | h17 <;> rcases h20 with h20 | h20 <;> rcases h22 with h22 | h22 <;> rcases h23 with h23 | h23 <;> rcases h27 with h27 | h27
      all_goals first | (exfalso; omega) | (simp only [go_sem, insR, h1, h7, h11, h6, h17, h20, h22, h23, h27, rdist_run, rdist_pan, rimm_run, rimm_pan, rsys_run, rsys_pan, rtr_run, rtr_pan, rld_run, rld_pan, radd_run, radd_pan, rregs_run, rregs_pan, hq, lineV]; done)
    · have h11 : x.op ≤ 11 ∨ ¬ x.op ≤ 11 := Classical.em _
      have h6 : x.op ≤ 6 ∨ ¬ x.op ≤ 6 := Classical.em _
      have h17 : x.op ≤ 17 ∨ ¬ x.op ≤ 17 := Classical.em _
      have h20 : 20 ≤ x.op ∨ ¬ 20 ≤ x.op := Classical.em _
      have h22 : x.op ≤ 22 ∨ ¬ x.op ≤ 22 := Classical.em _
      have h23 : x.op ≤ 23 ∨ ¬ x.op ≤ 23 := Classical.em _
      have h27 : x.op ≤ 27 ∨ ¬ x.op ≤ 27 := Classical.em _
      rcases h11 with h11 | h11 <;> rcases h6 with h6 | h6 <;> rcases h17 with h17 | h17 <;> rcases h20 with h20 | h20 <;> rcases h22 with h22 | h22 <;> rcases h23 with h23 | h23 <;> rcases h27 with h27 | h27
      all_goals first | (exfalso; omega) | (simp only [go_sem, insR, h1, h7, h11, h6, h17, h20, h22, h23, h27, rdist_run, rdist_pan, rimm_run, rimm_pan, rsys_run, rsys_pan, rtr_run, rtr_pan, rld_run, rld_pan, radd_run, radd_pan, rregs_run, rregs_pan, hq, lineV]; done)
  by_cases crld : x.op = 18 ∨ x.op = 19 ∨ x.op = 23
  · have e : rplainF x = rldF x := by unfold rplainF; first | (rw [if_pos crld]; done) | (simp only [crdist, if_false]; repeat' split) <;> first | rfl | (exfalso; omega)
    have hq : icheckF x = 0 ∧ (x.op = 18 ∨ x.op = 19 ∨ x.op = 23) := ⟨h, crld⟩
    rw [e]
    have h1 : (x.op == 1) = false := by simp only [beq_eq_false_iff_ne, ne_eq]; omega
    rcases Classical.em (7 ≤ x.op) with h7 | h7
    · have h11 : x.op ≤ 11 ∨ ¬ x.op ≤ 11 := Classical.em _
      have h6 : x.op ≤ 6 ∨ ¬ x.op ≤ 6 := Classical.em _
      have h17 : x.op ≤ 17 ∨ ¬ x.op ≤ 17 := Classical.em _
      have h20 : 20 ≤ x.op ∨ ¬ 20 ≤ x.op := Classical.em _
      have h22 : x.op ≤ 22 ∨ ¬ x.op ≤ 22 := Classical.em _
      have h23 : x.op ≤ 23 ∨ ¬ x.op ≤ 23 := Classical.em _
      have h27 : x.op ≤ 27 ∨ ¬ x.op ≤ 27 := Classical.em _
      rcases h11 with h11 | h11 <;> rcases h6 with h6 | h6 <;> rcases h17 with h17 | h17 <;> rcases h20 with h20 | h20 <;> rcases h22 with h22 | h22 <;> rcases h23 with h23 | h23 <;> rcases h27 with h27 | h27
      all_goals first | (exfalso; omega) | (simp only [go_sem, insR, h1, h7, h11, h6, h17, h20, h22, h23, h27, rdist_run, rdist_pan, rimm_run, rimm_pan, rsys_run, rsys_pan, rtr_run, rtr_pan, rld_run, rld_pan, radd_run, radd_pan, rregs_run, rregs_pan, hq, lineV]; done)
    · have h11 : x.op ≤ 11 ∨ ¬ x.op ≤ 11 := Classical.em _
      have h6 : x.op ≤ 6 ∨ ¬ x.op ≤ 6 := Classical.em _
      have h17 : x.op ≤ 17 ∨ ¬ x.op ≤ 17 := Classical.em _
      have h20 : 20 ≤ x.op ∨ ¬ 20 ≤ x.op := Classical.em _
      have h22 : x.op ≤ 22 ∨ ¬ x.op ≤ 22 := Classical.em _
      have h23 : x.op ≤ 23 ∨ ¬ x.op ≤ 23 := Classical.em _
      have h27 : x.op ≤ 27 ∨ ¬ x.op ≤ 27 := Classical.em _
      rcases h11 with h11 | h11 <;> rcases h6 with h6 | h6 <;> rcases h17 with h17 | h17 <;> rcases h20 with h20 | h20 <;> rcases h22 with h22 | h22 <;> rcases h23 with h23 | h23 <;> rcases h27 with h27 | h27
      all_goals first | (exfalso; omega) | (simp only [go_sem, insR, h1, h7, h11, h6, h17, h20, h22, h23, h27, rdist_run, rdist_pan, rimm_run, rimm_pan, rsys_run, rsys_pan, rtr_run, rtr_pan, rld_run, rld_pan, radd_run, radd_pan, rregs_run, rregs_pan, hq, lineV]; done)
  by_cases cradd : 24 ≤ x.op ∧ x.op ≤ 27
  · have e : rplainF x = raddF x := by unfold rplainF; first | (rw [if_pos cradd]; done) | (simp only [crdist, if_false]; repeat' split) <;> first | rfl | (exfalso; omega)
    have hq : icheckF x = 0 ∧ (24 ≤ x.op ∧ x.op ≤ 27) := ⟨h, cradd⟩
    rw [e]
    have h1 : (x.op == 1) = false := by simp only [beq_eq_false_iff_ne, ne_eq]; omega
    rcases Classical.em (7 ≤ x.op) with h7 | h7
    · have h11 : x.op ≤ 11 ∨ ¬ x.op ≤ 11 := Classical.em _
      have h6 : x.op ≤ 6 ∨ ¬ x.op ≤ 6 := Classical.em _
      have h17 : x.op ≤ 17 ∨ ¬ x.op ≤ 17 := Classical.em _
      have h20 : 20 ≤ x.op ∨ ¬ 20 ≤ x.op := Classical.em _
      have h22 : x.op ≤ 22 ∨ ¬ x.op ≤ 22 := Classical.em _
      have h23 : x.op ≤ 23 ∨ ¬ x.op ≤ 23 := Classical.em _
      have h27 : x.op ≤ 27 ∨ ¬ x.op ≤ 27 := Classical.em _
      rcases h11 with h11 | h11 <;> rcases h6 with h6 | h6 <;> rcases h17 with h17 | h17 <;> rcases h20 with h20 | h20 <;> rcases h22 with h22 | h22 <;> rcases h23 with h23 | h23 <;> rcases h27 with h27 | h27
      all_goals first | (exfalso; omega) | (simp only [go_sem, insR, h1, h7, h11, h6, h17, h20, h22, h23, h27, rdist_run, rdist_pan, rimm_run, rimm_pan, rsys_run, rsys_pan, rtr_run, rtr_pan, rld_run, rld_pan, radd_run, radd_pan, rregs_run, rregs_pan, hq, lineV]; done)
    · have h11 : x.op ≤ 11 ∨ ¬ x.op ≤ 11 := Classical.em _
      have h6 : x.op ≤ 6 ∨ ¬ x.op ≤ 6 := Classical.em _
      have h17 : x.op ≤ 17 ∨ ¬ x.op ≤ 17 := Classical.em _
      have h20 : 20 ≤ x.op ∨ ¬ 20 ≤ x.op := Classical.em _
      have h22 : x.op ≤ 22 ∨ ¬ x.op ≤ 22 := Classical.em _
      have h23 : x.op ≤ 23 ∨ ¬ x.op ≤ 23 := Classical.em _
      have h27 : x.op ≤ 27 ∨ ¬ x.op ≤ 27 := Classical.em _
      rcases h11 with h11 | h11 <;> rcases h6 with h6 | h6 <;> rcases h17 with h17 | h17 <;> rcases h20 with h20 | h20 <;> rcases h22 with h22 | h22 <;> rcases h23 with h23 | h23 <;> rcases h27 with h27 | h27
      all_goals first | (exfalso; omega) | (simp only [go_sem, insR, h1, h7, h11, h6, h17, h20, h22, h23, h27, rdist_run, rdist_pan, rimm_run, rimm_pan, rsys_run, rsys_pan, rtr_run, rtr_pan, rld_run, rld_pan, radd_run, radd_pan, rregs_run, rregs_pan, hq, lineV]; done)
  by_cases crregs : 28 ≤ x.op ∧ x.op ≤ 32
  · have e : rplainF x = rregsF x := by unfold rplainF; first | (rw [if_pos crregs]; done) | (simp only [crdist, if_false]; repeat' split) <;> first | rfl | (exfalso; omega)
    have hq : icheckF x = 0 ∧ (28 ≤ x.op ∧ x.op ≤ 32) := ⟨h, crregs⟩
    rw [e]
    have h1 : (x.op == 1) = false := by simp only [beq_eq_false_iff_ne, ne_eq]; omega
    rcases Classical.em (7 ≤ x.op) with h7 | h7
    · have h11 : x.op ≤ 11 ∨ ¬ x.op ≤ 11 := Classical.em _
      have h6 : x.op ≤ 6 ∨ ¬ x.op ≤ 6 := Classical.em _
      have h17 : x.op ≤ 17 ∨ ¬ x.op ≤ 17 := Classical.em _
      have h20 : 20 ≤ x.op ∨ ¬ 20 ≤ x.op := Classical.em _
      have h22 : x.op ≤ 22 ∨ ¬ x.op ≤ 22 := Classical.em _
      have h23 : x.op ≤ 23 ∨ ¬ x.op ≤ 23 := Classical.em _
      have h27 : x.op ≤ 27 ∨ ¬ x.op ≤ 27 := Classical.em _
      rcases h11 with h11 | h11 <;> rcases h6 with h6 | h6 <;> rcases h17 with h17 | h17 <;> rcases h20 with h20 | h20 <;> rcases h22 with h22 | h22 <;> rcases h23 with h23 | h23 <;> rcases h27 with h27 | h27
      all_goals first | (exfalso; omega) | (simp only [go_sem, insR, h1, h7, h11, h6, h17, h20, h22, h23, h27, rdist_run, rdist_pan, rimm_run, rimm_pan, rsys_run, rsys_pan, rtr_run, rtr_pan, rld_run, rld_pan, radd_run, radd_pan, rregs_run, rregs_pan, hq, lineV]; done)
    · have h11 : x.op ≤ 11 ∨ ¬ x.op ≤ 11 := Classical.em _
      have h6 : x.op ≤ 6 ∨ ¬ x.op ≤ 6 := Classical.em _
      have h17 : x.op ≤ 17 ∨ ¬ x.op ≤ 17 := Classical.em _
      have h20 : 20 ≤ x.op ∨ ¬ 20 ≤ x.op := Classical.em _
      have h22 : x.op ≤ 22 ∨ ¬ x.op ≤ 22 := Classical.em _
      have h23 : x.op ≤ 23 ∨ ¬ x.op ≤ 23 := Classical.em _
      have h27 : x.op ≤ 27 ∨ ¬ x.op ≤ 27 := Classical.em _
      rcases h11 with h11 | h11 <;> rcases h6 with h6 | h6 <;> rcases h17 with h17 | h17 <;> rcases h20 with h20 | h20 <;> rcases h22 with h22 | h22 <;> rcases h23 with h23 | h23 <;> rcases h27 with h27 | h27
      all_goals first | (exfalso; omega) | (simp only [go_sem, insR, h1, h7, h11, h6, h17, h20, h22, h23, h27, rdist_run, rdist_pan, rimm_run, rimm_pan, rsys_run, rsys_pan, rtr_run, rtr_pan, rld_run, rld_pan, radd_run, radd_pan, rregs_run, rregs_pan, hq, lineV]; done)
  exfalso
  omega
theorem en_rpln (args : Array Value) (w : World) : (callFunc 30 args).run Tryz.prog w = .ok (.enter 30 args) w := by go_simp
def rplnS : Spec Tryz.prog 30 :=
  mk1 _ _ _ Tryz.func30 rfl en_rpln (tAgg insR) ((fun x => icheckF x = 0)) ((fun x => .ret (lineV (rplainF x)))) (by rw [Tryz.ntmps30]; decide) (fun x h => rpln_sw x h)
theorem rpln_run {id : Nat} {h : Heap} {args : List AV} : (rplnS).run id h args = runP (args1 (tAgg insR) ((fun x => icheckF x = 0))) ((fun x => .ret (lineV (rplainF x)))) h args := rfl
theorem rpln_pan {id : Nat} {h : Heap} {args : List AV} : (rplnS).pan id h args = panP (args1 (tAgg insR) ((fun x => icheckF x = 0))) ((fun x => .ret (lineV (rplainF x)))) h args := rfl

end Go.Proofs.YtpjlafmhoifkmaaGreat
