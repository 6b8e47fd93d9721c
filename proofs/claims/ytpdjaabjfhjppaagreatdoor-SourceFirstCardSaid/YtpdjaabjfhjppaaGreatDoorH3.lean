/- The law's closed call, by the evaluator. -/
import Derived.Test.YtpdjaabjfhjppaaGreatDoorZE
import Derived.Test.YtpdjaabjfhjppaaGreatDoorH2
set_option linter.unusedVariables false
set_option linter.unusedSimpArgs false
namespace Go.Proofs.YtpdjaabjfhjppaaGreatDoor
open Go.RowKit
set_option maxRecDepth 1000000

theorem args2_true {α β : Type} {T : Ty α} {U : Ty β} {zs : List AV} {q : Prop} {x : α × β} (h : args2 T U (fun _ _ => True) zs = some (q, x)) : q := by
  unfold args2 at h
  split at h
  · split at h
    · injection h with h
      injection h with h1 h2
      subst h1
      trivial
    · cases h
  · cases h
noncomputable def exL : List (Sp Tryz.prog) := [spP 53 ixbS (args2 tStr (tInt .u8) (fun _ _ => True)) (fun x => .ret (iv (ixbF x.1 x.2))) (fun _ _ _ => rfl) (fun _ => true) (fun _ _ _ h _ => args2_true h)]
noncomputable def parseDf : Df Tryz.prog := mkDf (f := 12) (g := 15) Tryz.func12 rfl Tryz.func15 rfl rfl rfl rfl rfl (by decide) (by kernel_rfl) (by kernel_rfl) rfl rfl rfl rfl rfl rfl (by decide) [2, 3]
noncomputable def listDf : Df Tryz.prog := mkDfP (f := 22) (g := 39) Tryz.func22 rfl Tryz.func39 rfl rfl rfl rfl rfl (by decide) (by kernel_rfl) (by kernel_rfl) rfl rfl rfl (fun _ => rfl) [2, 3]
noncomputable def dsL : List (Df Tryz.prog) := [parseDf, listDf]
noncomputable def linesIS : ItS Tryz.prog where
  f := 13
  it := lines1It
  rows := fun | [.pd [.v (.string s)]] => cond (Nat.ble s.size 1099511627776) (some ((linesR s).map lineA)) none | _ => none
  ok := by
    intro ds L h
    split at h
    · rename_i s
      cases hb : Nat.ble s.size 1099511627776
      · rw [hb] at h; cases h
      · rw [hb] at h
        injection h with h
        subst h
        exact ⟨_, rfl, Nat.le_of_ble_eq_true hb⟩
    · cases h
theorem live_val (id : Nat) (h : Heap) : callM Tryz.prog exL dsL (rngC [linesIS]) 40 4 id h [] = .val (bv true) [] := by kernel_rfl
noncomputable def liveES : Spec Tryz.prog 4 := mkEvM mixed (rngC_ok mixed [linesIS]) 40 live_val
theorem liveE_run {id : Nat} {h : Heap} : liveES.run id h [] = some ⟨True, bv true, []⟩ := rfl
theorem liveE_pan {id : Nat} {h : Heap} : liveES.pan id h [] = none := rfl
end Go.Proofs.YtpdjaabjfhjppaaGreatDoor
