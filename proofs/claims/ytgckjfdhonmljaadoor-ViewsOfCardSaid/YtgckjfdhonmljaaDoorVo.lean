/- The walk of the law ViewsOf: whatever is asked of the layer views, it is the chapter's answer; where the table of patience holds its four numbers. -/
import Derived.Test.YtgckjfdhonmljaaDoorVt
namespace Go.Proofs.YtgckjfdhonmljaaDoor
open Go.ChangeShapes Go.WideShapes Go.ChangeAt Go.RowKit

theorem viewsOf_walk (e v n f : Int) (he : 0 ≤ e) (hv : 0 ≤ v) (hv2 : v ≤ 4294967295) (w : World) (ht : Tab w) :
    Calls Tryd.prog 3 #[.int .u64 e, .int .u32 v, .agg #[.int .i64 n, .int .i64 f]] w fun e w' => e = .returned (.bool true) ∧ Grown w w' := by
  have c8 := fun w => leader_any e v n he hv hv2 w
  have c9 := fun w => rleader_any e v n he hv hv2 w
  have c10 := fun k => patience_tab (w := (w.alloc (.cells #[.int .i64 n, .int .i64 f] 24)).drewN k) (tab_alloc ht _) v hv hv2
  have c11 := fun w => rpatience_any v hv hv2 w
  have c16 := fun k => lives_tab (w := (w.alloc (.cells #[.int .i64 n, .int .i64 f] 24)).drewN k) (tab_alloc ht _)
  go_enter Tryd.func3, Tryd.ntmps3
  go_wp2_with fail
  go_quiet (first
    | (go_at_call 8; exact Calls.quiet_of (c8 _))
    | (go_at_call 9; exact Calls.quiet_of (c9 _))
    | (go_at_call 10; exact Calls.quiet_of_same ((c10 _).mono fun _ _ h => ⟨h.1, h.2.symm⟩))
    | (go_at_call 11; exact Calls.quiet_of_same ((c11 _).mono fun _ _ h => ⟨h.1, h.2.symm⟩))
    | (go_at_call 12; exact Calls.quiet_of_same ((quorum_any _ _ _).mono fun _ _ h => ⟨h.1, h.2.symm⟩))
    | (go_at_call 13; exact Calls.quiet_of_same ((rquorum_any _ _ _).mono fun _ _ h => ⟨h.1, h.2.symm⟩))
    | (go_at_call 14; exact Calls.quiet_of_same ((some_any _ _).mono fun _ _ h => ⟨h.1, h.2.symm⟩))
    | (go_at_call 15; exact Calls.quiet_of_same ((rsome_any _ _).mono fun _ _ h => ⟨h.1, h.2.symm⟩))
    | (go_at_call 16; exact Calls.quiet_of (c16 _)))
  go_wp2_with fail
  go_ret
  exact ⟨rfl, (Grown.refl w).alloc _ _⟩
end Go.Proofs.YtgckjfdhonmljaaDoor
