/- The contracts of the functions of layer 21 (views) and of its reference, as the laws of layer 21 call them: each answers a plain number, for every argument; Patience where the table holds its four numbers. -/
import Derived.Test.YtgckjfdhonmljaaDoorRows
import Derived.WalkKit
import Derived.ProofKit
import Derived.OpenShut
import Derived.Deep.DeepHandedRow
import Derived.Lib.LaidTab
import Derived.Deep.QuietTactic
import Derived.BigQuiet
import Derived.IntWalk
import Derived.Lib.Hide
namespace Go.Proofs.YtgckjfdhonmljaaDoor
open Go.ChangeShapes Go.WideShapes Go.ChangeAt Go.RowKit

def some' (f : Int) : Int := if f < 0 then 0 else if 2 < f then 0 else f + 1
def quorum' (n f : Int) : Int := if n < 1 then 0 else if 7 < n then 0 else if f < 0 then 0 else if 2 < f then 0 else (n + f) / 2 + 1

theorem some_any (f : Int) (w : World) :
    Calls Tryd.prog 14 #[.int .i64 f] w fun e w' => e = .returned (.int .i64 (some' f)) ∧ w = w' := by
  unfold some'
  by_cases h0 : f < 0
  · rw [if_pos h0]
    go_enter Tryd.func14, Tryd.ntmps14
    go_wp2
    go_ret
    exact ⟨rfl, rfl⟩
  · rw [if_neg h0]
    by_cases h2 : 2 < f
    · rw [if_pos h2]
      go_enter Tryd.func14, Tryd.ntmps14
      go_wp2
      go_ret
      exact ⟨rfl, rfl⟩
    · rw [if_neg h2]
      go_enter Tryd.func14, Tryd.ntmps14
      go_wp2
      go_ret
      exact ⟨rfl, rfl⟩

theorem rsome_any (f : Int) (w : World) :
    Calls Tryd.prog 15 #[.int .i64 f] w fun e w' => e = .returned (.int .i64 (some' f)) ∧ w = w' := by
  unfold some'
  by_cases h0 : f < 0
  · rw [if_pos h0]
    go_enter Tryd.func15, Tryd.ntmps15
    go_wp2
    go_ret
    exact ⟨rfl, rfl⟩
  · rw [if_neg h0]
    by_cases h2 : 2 < f
    · rw [if_pos h2]
      go_enter Tryd.func15, Tryd.ntmps15
      go_wp2
      go_ret
      exact ⟨rfl, rfl⟩
    · rw [if_neg h2]
      go_enter Tryd.func15, Tryd.ntmps15
      go_wp2
      go_ret
      exact ⟨rfl, rfl⟩

theorem quorum_any (n f : Int) (w : World) :
    Calls Tryd.prog 12 #[.int .i64 n, .int .i64 f] w fun e w' => e = .returned (.int .i64 (quorum' n f)) ∧ w = w' := by
  unfold quorum'
  by_cases h1 : n < 1
  · rw [if_pos h1]
    go_enter Tryd.func12, Tryd.ntmps12
    go_wp2_with (go_at_call 14; refine (some_any _ _).mono ?_; rintro e w' ⟨rfl, rfl⟩)
    go_ret
    exact ⟨rfl, rfl⟩
  · rw [if_neg h1]
    by_cases h7 : 7 < n
    · rw [if_pos h7]
      go_enter Tryd.func12, Tryd.ntmps12
      go_wp2_with (go_at_call 14; refine (some_any _ _).mono ?_; rintro e w' ⟨rfl, rfl⟩)
      go_ret
      exact ⟨rfl, rfl⟩
    · rw [if_neg h7]
      by_cases h0 : f < 0
      · rw [if_pos h0]
        have e0 : some' f = 0 := by unfold some'; rw [if_pos h0]
        have g0 := some_any f w
        rw [e0] at g0
        clear e0
        go_enter Tryd.func12, Tryd.ntmps12
        go_wp2_with (go_at_call 14; refine g0.mono ?_; rintro e w' ⟨rfl, rfl⟩)
        go_ret
        exact ⟨rfl, rfl⟩
      · rw [if_neg h0]
        by_cases h2 : 2 < f
        · rw [if_pos h2]
          have e0 : some' f = 0 := by unfold some'; rw [if_neg h0, if_pos h2]
          have g0 := some_any f w
          rw [e0] at g0
          clear e0
          go_enter Tryd.func12, Tryd.ntmps12
          go_wp2_with (go_at_call 14; refine g0.mono ?_; rintro e w' ⟨rfl, rfl⟩)
          go_ret
          exact ⟨rfl, rfl⟩
        · rw [if_neg h2]
          have e0 : some' f = f + 1 := by unfold some'; rw [if_neg h0, if_neg h2]
          have g0 := some_any f w
          rw [e0] at g0
          clear e0
          go_enter Tryd.func12, Tryd.ntmps12
          go_wp2_with (go_at_call 14; refine g0.mono ?_; rintro e w' ⟨rfl, rfl⟩)
          go_ret
          exact ⟨rfl, rfl⟩

theorem rquorum_any (n f : Int) (w : World) :
    Calls Tryd.prog 13 #[.int .i64 n, .int .i64 f] w fun e w' => e = .returned (.int .i64 (quorum' n f)) ∧ w = w' := by
  unfold quorum'
  by_cases h1 : n < 1
  · rw [if_pos h1]
    go_enter Tryd.func13, Tryd.ntmps13
    go_wp2
    go_ret
    exact ⟨rfl, rfl⟩
  · rw [if_neg h1]
    by_cases h7 : 7 < n
    · rw [if_pos h7]
      go_enter Tryd.func13, Tryd.ntmps13
      go_wp2
      go_ret
      exact ⟨rfl, rfl⟩
    · rw [if_neg h7]
      by_cases h0 : f < 0
      · rw [if_pos h0]
        go_enter Tryd.func13, Tryd.ntmps13
        go_wp2
        go_ret
        exact ⟨rfl, rfl⟩
      · rw [if_neg h0]
        by_cases h2 : 2 < f
        · rw [if_pos h2]
          go_enter Tryd.func13, Tryd.ntmps13
          go_wp2
          go_ret
          exact ⟨rfl, rfl⟩
        · rw [if_neg h2]
          go_enter Tryd.func13, Tryd.ntmps13
          go_wp2
          go_ret
          exact ⟨rfl, rfl⟩

def lead (e v n : Int) : Int := if n < 1 then 0 else if 7 < n then 0 else (e % n + v % n) % n + 1

theorem lead_bits (e v n : Int) (h1 : 1 ≤ n) (h7 : n ≤ 7) : (1 + (IntKind.u64.wrap (e % n + v % n)).tmod n % 256) % 256 = (e % n + v % n) % n + 1 := by
  have a1 := Int.emod_nonneg e (show n ≠ 0 by omega)
  have a2 := Int.emod_lt_of_pos e (show 0 < n by omega)
  have b1 := Int.emod_nonneg v (show n ≠ 0 by omega)
  have b2 := Int.emod_lt_of_pos v (show 0 < n by omega)
  rw [IntWalk.u64_in _ ⟨by omega, by omega⟩, IntWalk.rem_in _ _ (by omega)]
  have c1 := Int.emod_nonneg (e % n + v % n) (show n ≠ 0 by omega)
  have c2 := Int.emod_lt_of_pos (e % n + v % n) (show 0 < n by omega)
  omega

theorem leader_any (e v n : Int) (he : 0 ≤ e) (hv : 0 ≤ v) (hv2 : v ≤ 4294967295) (w : World) :
    Calls Tryd.prog 8 #[.int .u64 e, .int .u32 v, .int .i64 n] w fun r w' => r = .returned (.int .u8 (lead e v n)) ∧ ∃ k, w' = w.drewN k := by
  unfold lead
  by_cases h1 : n < 1
  · rw [if_pos h1]
    go_enter Tryd.func8, Tryd.ntmps8
    go_wp2
    go_ret
    exact ⟨rfl, 0, rfl⟩
  · rw [if_neg h1]
    by_cases h7 : 7 < n
    · rw [if_pos h7]
      go_enter Tryd.func8, Tryd.ntmps8
      go_wp2
      go_ret
      exact ⟨rfl, 0, rfl⟩
    · rw [if_neg h7]
      go_enter Tryd.func8, Tryd.ntmps8
      go_wp2
      go_quiet (fail)
      go_wp2
      go_ret
      exact ⟨congrArg (fun x => Ending.returned (.int .u8 x)) (lead_bits e v n (by omega) (by omega)), nq, rfl⟩

theorem lead_bits2 (e v n : Int) (h1 : 1 ≤ n) (h7 : n ≤ 7) : ((IntKind.u64.wrap (e % n + v % n)).tmod n % 256 + 1) % 256 = (e % n + v % n) % n + 1 := by
  rw [Int.add_comm, lead_bits e v n h1 h7]

theorem rleader_any (e v n : Int) (he : 0 ≤ e) (hv : 0 ≤ v) (hv2 : v ≤ 4294967295) (w : World) :
    Calls Tryd.prog 9 #[.int .u64 e, .int .u32 v, .int .i64 n] w fun r w' => r = .returned (.int .u8 (lead e v n)) ∧ ∃ k, w' = w.drewN k := by
  unfold lead
  by_cases h1 : n < 1
  · rw [if_pos h1]
    go_enter Tryd.func9, Tryd.ntmps9
    go_wp2
    go_ret
    exact ⟨rfl, 0, rfl⟩
  · rw [if_neg h1]
    by_cases h7 : 7 < n
    · rw [if_pos h7]
      go_enter Tryd.func9, Tryd.ntmps9
      go_wp2
      go_ret
      exact ⟨rfl, 0, rfl⟩
    · rw [if_neg h7]
      go_enter Tryd.func9, Tryd.ntmps9
      go_wp2
      go_quiet (fail)
      go_wp2
      go_ret
      exact ⟨congrArg (fun x => Ending.returned (.int .u8 x)) (lead_bits2 e v n (by omega) (by omega)), nq, rfl⟩

/- patience -/
def pat (v : Int) : Int := if v < 1 then 8 else if v < 2 then 16 else if v < 3 then 32 else 64

theorem patience_any (v : Int) (hv : 0 ≤ v) (hv2 : v ≤ 4294967295) (w : World)
    (c0 : w.cell? ⟨0, 0, none⟩ = some (.int .i64 8)) (c1 : w.cell? ⟨0, 1, none⟩ = some (.int .i64 16)) (c2 : w.cell? ⟨0, 2, none⟩ = some (.int .i64 32)) (c3 : w.cell? ⟨0, 3, none⟩ = some (.int .i64 64)) :
    Calls Tryd.prog 10 #[.int .u32 v] w fun r w' => r = .returned (.int .i64 (pat v)) ∧ w = w' := by
  unfold pat
  by_cases h1 : v < 1
  · rw [if_pos h1]
    obtain rfl : v = 0 := by omega
    go_enter Tryd.func10, Tryd.ntmps10
    go_wp2
    go_ret
    exact ⟨rfl, rfl⟩
  · rw [if_neg h1]
    by_cases h2 : v < 2
    · rw [if_pos h2]
      obtain rfl : v = 1 := by omega
      go_enter Tryd.func10, Tryd.ntmps10
      go_wp2
      go_ret
      exact ⟨rfl, rfl⟩
    · rw [if_neg h2]
      by_cases h3 : v < 3
      · rw [if_pos h3]
        obtain rfl : v = 2 := by omega
        go_enter Tryd.func10, Tryd.ntmps10
        go_wp2
        go_ret
        exact ⟨rfl, rfl⟩
      · rw [if_neg h3]
        by_cases h4 : 3 < v
        · go_enter Tryd.func10, Tryd.ntmps10
          go_wp2
          go_ret
          exact ⟨rfl, rfl⟩
        · obtain rfl : v = 3 := by omega
          go_enter Tryd.func10, Tryd.ntmps10
          go_wp2
          go_ret
          exact ⟨rfl, rfl⟩

theorem rpatience_any (v : Int) (hv : 0 ≤ v) (hv2 : v ≤ 4294967295) (w : World) :
    Calls Tryd.prog 11 #[.int .u32 v] w fun r w' => r = .returned (.int .i64 (pat v)) ∧ w = w' := by
  go_enter Tryd.func11, Tryd.ntmps11
  go_wp2
  go_loop [3, 4] (fun n i => ∃ k : Int, 0 ≤ k ∧ k ≤ 3 ∧ k ≤ v ∧ i = .int .u32 k ∧ n = .int .i64 (pat k)) (fun _ i => 3 - (intOf i).toNat)
  case atStart => exact ⟨0, by omega, by omega, by omega, rfl, rfl⟩
  case round =>
    obtain ⟨k, hk0, hk3, hkv, rfl, rfl⟩ := hrel
    have pk : 8 ≤ pat k ∧ pat k ≤ 64 := by unfold pat; split <;> (try split) <;> (try split) <;> omega
    obtain ⟨pk1, pk2⟩ := pk
    by_cases hv3 : k < v
    · by_cases h3 : k < 3
      · have h64 : pat k < 64 := by unfold pat; split <;> (try split) <;> (try split) <;> omega
        have hn : Hid (2 * pat k = pat (k + 1)) := Lib.hid (by unfold pat; split <;> (try split) <;> (try split) <;> (try split) <;> (try split) <;> omega)
        go_wp2
        go_round
        case rel => exact ⟨k + 1, by omega, by omega, by omega, rfl, by rw [hn.out]⟩
        case measure => simp [intOf]; omega
      · obtain rfl : k = 3 := by omega
        have p3 : pat 3 = 64 := rfl
        have e : Hid (pat v = 64) := Lib.hid (by unfold pat; rw [if_neg (by omega), if_neg (by omega), if_neg (by omega)])
        go_wp2
        go_ret
        exact ⟨congrArg (fun x => Ending.returned (.int .i64 x)) e.out.symm, rfl⟩
    · obtain rfl : v = k := by omega
      go_wp2
      go_ret
      exact ⟨rfl, rfl⟩
/- what the chapter's examples answer -/
theorem leader_at (e v n r : Int) (he : 0 ≤ e) (hv : 0 ≤ v) (hv2 : v ≤ 4294967295) (h : lead e v n = r) (w : World) :
    Calls Tryd.prog 8 #[.int .u64 e, .int .u32 v, .int .i64 n] w fun e w' => e = .returned (.int .u8 r) ∧ ∃ k, w' = w.drewN k := by
  subst h; exact leader_any e v n he hv hv2 w

theorem lives_any (w : World)
    (c0 : w.cell? ⟨0, 0, none⟩ = some (.int .i64 8)) (c1 : w.cell? ⟨0, 1, none⟩ = some (.int .i64 16)) (c2 : w.cell? ⟨0, 2, none⟩ = some (.int .i64 32)) (c3 : w.cell? ⟨0, 3, none⟩ = some (.int .i64 64)) :
    Calls Tryd.prog 16 #[] w fun r w' => r = .returned (.bool true) ∧ ∃ k, w' = w.drewN k := by
  have p0 : ∀ a, Calls Tryd.prog 10 #[.int .u32 0] (w.drewN a) fun r w' => r = .returned (.int .i64 8) ∧ (w.drewN a) = w' := fun a => patience_any 0 (by omega) (by omega) _ c0 c1 c2 c3
  have p9 : ∀ a, Calls Tryd.prog 10 #[.int .u32 9] (w.drewN a) fun r w' => r = .returned (.int .i64 64) ∧ (w.drewN a) = w' := fun a => patience_any 9 (by omega) (by omega) _ c0 c1 c2 c3
  clear c0 c1 c2 c3
  go_enter Tryd.func16, Tryd.ntmps16
  go_wp2_with fail
  refine (leader_at 1 0 4 2 (by omega) (by omega) (by omega) rfl _).mono ?_; rintro e w' ⟨rfl, k1, rfl⟩
  go_wp2_with fail
  refine (leader_at 1 3 4 1 (by omega) (by omega) (by omega) rfl _).mono ?_; rintro e w' ⟨rfl, k2, rfl⟩
  go_wp2_with fail
  refine (leader_at 1 1 0 0 (by omega) (by omega) (by omega) rfl _).mono ?_; rintro e w' ⟨rfl, k3, rfl⟩
  go_wp2_with fail
  refine (p0 _).mono ?_; rintro e w' ⟨rfl, rfl⟩
  go_wp2_with fail
  refine (p9 _).mono ?_; rintro e w' ⟨rfl, rfl⟩
  clear p0 p9
  go_wp2_with fail
  refine (quorum_any 4 1 _).mono ?_; rintro e w' ⟨rfl, rfl⟩
  have q4 : quorum' 4 1 = 3 := rfl
  go_wp2_with fail
  refine (quorum_any 8 1 _).mono ?_; rintro e w' ⟨rfl, rfl⟩
  have q8 : quorum' 8 1 = 0 := rfl
  go_wp2_with fail
  refine (some_any 1 _).mono ?_; rintro e w' ⟨rfl, rfl⟩
  have s1 : some' 1 = 2 := rfl
  go_wp2_with fail
  refine (some_any 3 _).mono ?_; rintro e w' ⟨rfl, rfl⟩
  have s3 : some' 3 = 0 := rfl
  go_wp2_with fail
  go_ret
  exact ⟨rfl, _, rfl⟩
end Go.Proofs.YtgckjfdhonmljaaDoor
