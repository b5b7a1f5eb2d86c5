/- sync.Once.Do, once: the lock is taken, the function called, the flag set, the lock let go; nobody waits, nothing was done yet. -/
import Derived.Test.YtlnehkjmmegkhaaGreatTab
import Derived.Tactics
import Derived.Tactics2
import Derived.Defers
import Derived.Laws.Pointers
import Derived.Laws.LoneSync
import Derived.RegionTactic
import Derived.RegionCalls
import Derived.ChangeAlike
namespace Go.Proofs.YtlnehkjmmegkhaaGreat
open Go Go.Y
theorem race_disable (w : World) : (callFunc 144 #[]).run Tryz.prog w = .ok (.value (.tuple #[])) w := run_call_mark0 Tryz.func144 (by kernel_rfl) (by kernel_rfl) (by kernel_rfl) .disable (by kernel_rfl) w
theorem race_enable (w : World) : (callFunc 146 #[]).run Tryz.prog w = .ok (.value (.tuple #[])) w := run_call_mark0 Tryz.func146 (by kernel_rfl) (by kernel_rfl) (by kernel_rfl) .enable (by kernel_rfl) w
theorem race_acquire (a : Addr) (w : World) : (callFunc 147 #[.pointer (some a)]).run Tryz.prog w = .ok (.value (.tuple #[])) w := run_call_marked Tryz.func147 (by kernel_rfl) (by kernel_rfl) (by kernel_rfl) .acquire (by kernel_rfl) a w
theorem race_releaseMerge (a : Addr) (w : World) : (callFunc 149 #[.pointer (some a)]).run Tryz.prog w = .ok (.value (.tuple #[])) w := run_call_marked Tryz.func149 (by kernel_rfl) (by kernel_rfl) (by kernel_rfl) .releaseMerge (by kernel_rfl) a w
theorem store_deferred (a : Addr) (x : Value) (u : FrameMode) (w : World) (hc : w.cell? a = some x) (hz : w.frozen? a = false) :
  CallsD Tryz.prog 135 #[.pointer (some a), .bool true] u w fun e u' w' => u' = u ∧ (e = .returned (.tuple #[]) ∧ w' = w.drew.setCell a (.int .u32 1)) := by
 have hc' : w.drew.cell? a = some x := by go_simp
 have hz' : w.drew.frozen? a = false := by go_simp
 have hst := run_call_store (P := Tryz.prog) Tryz.func140 (by kernel_rfl) (by kernel_rfl) (by kernel_rfl) (by kernel_rfl) (k := .u32) (y := 1) hc' hz'
 go_enter_d Tryz.func135, Tryz.ntmps135
 go_wp2
 go_region_calls
 all_goals (go_end0; exact ⟨rfl, rfl⟩)
set_option maxRecDepth 100000 in
theorem unlock_deferred (a : Addr) (u : FrameMode) (w : World) (hc : w.cell? a = some (.int .i32 1)) (hz : w.frozen? a = false) :
  CallsD Tryz.prog 134 #[.pointer (some a)] u w fun e u' w' => u' = u ∧ (e = .returned (.tuple #[]) ∧ w' = w.setCell a (.int .i32 0)) := by
 have hd := race_disable
 have he := race_enable
 have hr := race_releaseMerge
 have hadd := run_call_add (P := Tryz.prog) Tryz.func150 (by kernel_rfl) (by kernel_rfl) (by kernel_rfl) .i32 (by kernel_rfl) (y := -1) (s := 0) hc hz (by simp [go_sem]; rfl)
 have hcv := run_convert_to_unsafe (P := Tryz.prog) (src := 211) (dst := 160) Tryz.underlying211 Tryz.underlying160 (by kernel_rfl) hc
 go_enter_d Tryz.func134, Tryz.ntmps134
 go_wp2
 go_end0
 go_wp2
 go_end0
 exact ⟨rfl, rfl⟩
set_option maxRecDepth 100000 in
theorem lock_free (a : Addr) (w : World) (hc : w.cell? a = some (.int .i32 0)) (hz : w.frozen? a = false) :
  Calls Tryz.prog 133 #[.pointer (some a)] w fun e w' => e = .returned (.tuple #[]) ∧ w' = w.setCell a (.int .i32 1) := by
 have hd := race_disable
 have he := race_enable
 have ha := race_acquire
 have hcas := run_call_cas_hit (P := Tryz.prog) Tryz.func145 (by kernel_rfl) (by kernel_rfl) (by kernel_rfl) .i32 (by kernel_rfl) (y := 1) hc hz
 have hc' : (w.setCell a (.int .i32 1)).cell? a = some (.int .i32 1) := World.cell?_setCell_same w a _ hc
 have hcv := run_convert_to_unsafe (P := Tryz.prog) (src := 211) (dst := 160) Tryz.underlying211 Tryz.underlying160 (by kernel_rfl) hc'
 go_enter Tryz.func133, Tryz.ntmps133
 go_wp2
 first | go_end0 | (simp only [Exit.inBlock, Exit.then]; refine bodyPost_ret (results_none rfl _ _ _) rfl ?_) | refine bodyPost_ret (results_none rfl _ _ _) rfl ?_
 go_wp2
 go_end0
 exact ⟨rfl, rfl⟩
set_option maxRecDepth 100000 in
theorem bool_load0 {a : Addr} {w : World} (hc : w.cell? a = some (.int .u32 0)) :
  Calls Tryz.prog 129 #[.pointer (some a)] w fun e w' => e = .returned (.bool false) ∧ w' = w := by
 have hl := run_call_load (P := Tryz.prog) Tryz.func132 (by kernel_rfl) (by kernel_rfl) (by kernel_rfl) .u32 (by kernel_rfl) hc
 go_enter Tryz.func129, Tryz.ntmps129
 go_wp2
 go_ret
 exact ⟨rfl, rfl⟩
set_option maxRecDepth 100000 in
set_option maxHeartbeats 1600000 in
theorem do_slow {w0 w : World} {G : Ghost} {L : List Res} {b : Nat} {s r o : Value} {R : Value → Value → List Res → Prop}
  (M : Mem w0 G (.blk b [.int .u32 0, .int .i32 0, s, r, o] 177 :: L) w)
  (hf : ∀ w1, Mem w0 G (.blk b [.int .u32 0, .int .i32 1, s, r, o] 177 :: L) w1 → Calls Tryz.prog 126 #[.pointer (some ⟨b, 0, none⟩)] w1 fun e w2 =>
   e = .returned (.tuple #[]) ∧ ∃ r' o' L', R r' o' L' ∧ Mem w0 G (.blk b [.int .u32 0, .int .i32 1, s, r', o'] 177 :: L') w2) :
  Calls Tryz.prog 130 #[.pointer (some ⟨b, 0, none⟩), .func (.func 126) #[.pointer (some ⟨b, 0, none⟩)] #[]] w fun e w2 =>
   e = .returned (.tuple #[]) ∧ ∃ r' o' L', R r' o' L' ∧ Mem w0 G (.blk b [.int .u32 1, .int .i32 0, s, r', o'] 177 :: L') w2 := by
 have M1 := M.set (k := 0) rfl 1 (.int .i32 1)
 have hnot : ∀ (x : Bool) (w : World), (Op.unary .not (.bool x)).run Tryz.prog w = .ok (.bool (!x)) w := fun _ _ => rfl
 go_enter_defers Tryz.func130, Tryz.ntmps130
 go_wp2_with (first | (go_at_call 129; refine (bool_load0 (M1.cellL (k := 0) rfl (o := 0) rfl)).mono ?_; rintro e w' ⟨rfl, rfl⟩) | (go_at_call 133; refine (lock_free ⟨b, 1, none⟩ _ (M.cellL (k := 0) rfl rfl) (M.frozenL (k := 0) rfl _)).mono ?_; rintro e w' ⟨rfl, rfl⟩) | (go_at_call 126; refine (hf _ M1).mono ?_; rintro e w' ⟨rfl, r', o', L', hR, M2⟩))
 refine leaves_cons (f := 135) (args := #[.pointer (some ⟨b, 0, none⟩), .bool true]) (by simp) (by simp [go_sem]) ?_
 refine (store_deferred ⟨b, 0, none⟩ (.int .u32 0) .returning _ (M2.cellL (k := 0) rfl rfl) (M2.frozenL (k := 0) rfl _)).mono ?_
 rintro e u' w'' ⟨rfl, rfl, rfl⟩
 have M3 := (M2.drew (w'.drawn + 1)).set (k := 0) rfl 0 (.int .u32 1)
 refine leaves_cons (f := 134) (args := #[.pointer (some ⟨b, 1, none⟩)]) (by simp [settle]) (by simp [go_sem]) ?_
 refine (unlock_deferred ⟨b, 1, none⟩ _ _ (M3.cellL (k := 0) rfl rfl) (M3.frozenL (k := 0) rfl _)).mono ?_
 rintro e u' w'' ⟨rfl, rfl, rfl⟩
 have M4 := M3.set (k := 0) rfl 1 (.int .i32 0)
 simp [Leaves, settle, results, Tryz.results130]
 exact ⟨_, _, _, hR, M4⟩
set_option maxRecDepth 100000 in
set_option maxHeartbeats 1600000 in
theorem once_do {w0 w : World} {G : Ghost} {L : List Res} {b : Nat} {s r o : Value} {R : Value → Value → List Res → Prop}
  (M : Mem w0 G (.blk b [.int .u32 0, .int .i32 0, s, r, o] 177 :: L) w)
  (hf : ∀ w1, Mem w0 G (.blk b [.int .u32 0, .int .i32 1, s, r, o] 177 :: L) w1 → Calls Tryz.prog 126 #[.pointer (some ⟨b, 0, none⟩)] w1 fun e w2 =>
   e = .returned (.tuple #[]) ∧ ∃ r' o' L', R r' o' L' ∧ Mem w0 G (.blk b [.int .u32 0, .int .i32 1, s, r', o'] 177 :: L') w2) :
  Calls Tryz.prog 125 #[.pointer (some ⟨b, 0, none⟩), .func (.func 126) #[.pointer (some ⟨b, 0, none⟩)] #[]] w
   (RetL w0 G fun L2 v => v = .tuple #[] ∧ ∃ r' o' L', R r' o' L' ∧ L2 = .blk b [.int .u32 1, .int .i32 0, s, r', o'] 177 :: L') := by
 have hnot : ∀ (x : Bool) (w : World), (Op.unary .not (.bool x)).run Tryz.prog w = .ok (.bool (!x)) w := fun _ _ => rfl
 go_enter Tryz.func125, Tryz.ntmps125
 go_wp2_with (first | (go_at_call 129; refine (bool_load0 (M.cellL (k := 0) rfl (o := 0) rfl)).mono ?_; rintro e w' ⟨rfl, rfl⟩) | (go_at_call 130; refine (do_slow M hf).mono ?_; rintro e w' ⟨rfl, r', o', L', hR, M2⟩))
 go_end0
 exact ⟨_, M2, rfl, _, _, _, hR, rfl⟩
end Go.Proofs.YtlnehkjmmegkhaaGreat
