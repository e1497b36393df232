/- The walks of four laws of layer 21 (ViewsPatience, ViewsMeet, ViewsWhole, ViewsOf): each answers true, where the table of patience holds its four numbers. -/
import Derived.Test.YtgckjfdhonmljaaDoorVw
namespace Go.Proofs.YtgckjfdhonmljaaDoor
open Go.ChangeShapes Go.WideShapes Go.ChangeAt Go.RowKit

/-- the table of patience, as the walks ask for it -/
def Tab (w : World) : Prop := w.cell? ⟨0, 0, none⟩ = some (.int .i64 8) ∧ w.cell? ⟨0, 1, none⟩ = some (.int .i64 16) ∧ w.cell? ⟨0, 2, none⟩ = some (.int .i64 32) ∧ w.cell? ⟨0, 3, none⟩ = some (.int .i64 64)

theorem patience_tab {w : World} (h : Tab w) (v : Int) (hv : 0 ≤ v) (hv2 : v ≤ 4294967295) :
    Calls Tryd.prog 10 #[.int .u32 v] w fun r w' => r = .returned (.int .i64 (pat v)) ∧ w = w' := patience_any v hv hv2 w h.1 h.2.1 h.2.2.1 h.2.2.2
theorem lives_tab {w : World} (h : Tab w) : Calls Tryd.prog 16 #[] w fun r w' => r = .returned (.bool true) ∧ ∃ k, w' = w.drewN k := lives_any w h.1 h.2.1 h.2.2.1 h.2.2.2
theorem grown_drewN (w : World) (k : Nat) : Grown w (w.drewN k) := Grown.refl w

theorem viewsPatience_walk (v : Int) (hv : 0 ≤ v) (hv2 : v ≤ 4294967295) (w : World) (ht : Tab w) :
    Calls Tryd.prog 6 #[.int .u32 v] w fun e w' => e = .returned (.bool true) ∧ Grown w w' := by
  by_cases hm : v = 4294967295
  · subst hm
    go_enter Tryd.func6, Tryd.ntmps6
    go_wp2_with fail
    refine (lives_tab ht).mono ?_; rintro e w' ⟨rfl, k1, rfl⟩
    go_wp2_with fail
    go_ret
    exact ⟨rfl, grown_drewN _ _⟩
  · have a1 : 8 ≤ pat v ∧ pat v ≤ 64 := by unfold pat; split <;> (try split) <;> (try split) <;> omega
    obtain ⟨a1, a2⟩ := a1
    have b1 := patience_tab ht (v + 1) (by omega) (by omega)
    by_cases hk : v < 3
    · have e1 : pat (v + 1) = 2 * pat v := by unfold pat; split <;> (try split) <;> (try split) <;> (try split) <;> (try split) <;> omega
      rw [e1] at b1
      clear e1
      have hlt : v < 4294967295 := by omega
      go_enter Tryd.func6, Tryd.ntmps6
      go_wp2_with fail
      refine (patience_tab ht v hv hv2).mono ?_; rintro e w' ⟨rfl, rfl⟩
      go_wp2_with fail
      refine b1.mono ?_; rintro e w' ⟨rfl, rfl⟩
      go_wp2_with fail
      refine (lives_tab ht).mono ?_; rintro e w' ⟨rfl, k1, rfl⟩
      go_wp2_with fail
      go_ret
      exact ⟨rfl, grown_drewN _ _⟩
    · have e1 : pat (v + 1) = 64 := by unfold pat; rw [if_neg (by omega), if_neg (by omega), if_neg (by omega)]
      have e2 : pat v = 64 := by unfold pat; rw [if_neg (by omega), if_neg (by omega), if_neg (by omega)]
      rw [e1] at b1
      have c1 := patience_tab ht v hv hv2
      rw [e2] at c1
      clear e1 e2 a1 a2
      have hlt : v < 4294967295 := by omega
      go_enter Tryd.func6, Tryd.ntmps6
      go_wp2_with fail
      refine c1.mono ?_; rintro e w' ⟨rfl, rfl⟩
      go_wp2_with fail
      refine b1.mono ?_; rintro e w' ⟨rfl, rfl⟩
      go_wp2_with fail
      refine (lives_tab ht).mono ?_; rintro e w' ⟨rfl, k1, rfl⟩
      go_wp2_with fail
      go_ret
      exact ⟨rfl, grown_drewN _ _⟩

theorem viewsMeet_walk (b a : Int) (hb0 : 0 ≤ b) (hb : b ≤ 255) (ha0 : 0 ≤ a) (ha : a ≤ 255) (w : World) (ht : Tab w) :
    Calls Tryd.prog 5 #[.int .u8 b, .int .u8 a] w fun e w' => e = .returned (.bool true) ∧ Grown w w' := by
  have r1 := Int.emod_nonneg a (show (3 : Int) ≠ 0 by omega)
  have r2 := Int.emod_lt_of_pos a (show (0 : Int) < 3 by omega)
  have s1 := Int.emod_nonneg b (show (7 : Int) ≠ 0 by omega)
  have s2 := Int.emod_lt_of_pos b (show (0 : Int) < 7 by omega)
  by_cases hn : 7 < 3 * (a % 3) + 1 + b % 7
  · go_enter Tryd.func5, Tryd.ntmps5
    go_wp2_with fail
    refine (lives_tab ht).mono ?_; rintro e w' ⟨rfl, k1, rfl⟩
    go_wp2_with fail
    go_ret
    exact ⟨rfl, grown_drewN _ _⟩
  · obtain ⟨q, hq, h1, h2, h3⟩ : ∃ q, quorum' (3 * (a % 3) + 1 + b % 7) (a % 3) = q ∧ a % 3 < 2 * q - (3 * (a % 3) + 1 + b % 7) ∧ q ≤ 3 * (a % 3) + 1 + b % 7 - a % 3 ∧ a % 3 + 1 ≤ q := by
      refine ⟨_, rfl, ?_⟩
      unfold quorum'
      rw [if_neg (by omega), if_neg (by omega), if_neg (by omega), if_neg (by omega)]
      omega
    have hs : some' (a % 3) = a % 3 + 1 := by unfold some'; rw [if_neg (by omega), if_neg (by omega)]
    have cq := quorum_any (3 * (a % 3) + 1 + b % 7) (a % 3)
    rw [hq] at cq
    have cs := some_any (a % 3)
    rw [hs] at cs
    have hq7 : q ≤ 8 := by omega
    clear hq hs
    go_enter Tryd.func5, Tryd.ntmps5
    go_wp2_with fail
    refine (cq _).mono ?_; rintro e w' ⟨rfl, rfl⟩
    go_wp2_with fail
    refine (cs _).mono ?_; rintro e w' ⟨rfl, rfl⟩
    go_wp2_with fail
    refine (cs _).mono ?_; rintro e w' ⟨rfl, rfl⟩
    go_wp2_with fail
    refine (lives_tab ht).mono ?_; rintro e w' ⟨rfl, k1, rfl⟩
    go_wp2_with fail
    go_ret
    exact ⟨rfl, grown_drewN _ _⟩

theorem lead_next (e v n : Int) : lead (e + 1) (v - 1) n = lead e v n := by
  unfold lead
  rw [← Int.add_emod, ← Int.add_emod, show e + 1 + (v - 1) = e + v by omega]

def most : Int := 18446744073709551615

theorem viewsWhole_walk (e v n : Int) (he : 0 ≤ e) (he2 : e ≤ most) (hv : 0 ≤ v) (hv2 : v ≤ 4294967295) (hn0 : 0 ≤ n) (hn : n ≤ 255) (w : World) (ht : Tab w) :
    Calls Tryd.prog 7 #[.int .u64 e, .int .u32 v, .int .u8 n] w fun e w' => e = .returned (.bool true) ∧ Grown w w' := by
  have s1 := Int.emod_nonneg n (show (7 : Int) ≠ 0 by omega)
  have s2 := Int.emod_lt_of_pos n (show (0 : Int) < 7 by omega)
  by_cases h0 : v = 0
  · subst h0
    go_enter Tryd.func7, Tryd.ntmps7
    go_wp2_with fail
    all_goals
      refine (lives_tab ht).mono ?_; rintro e w' ⟨rfl, k1, rfl⟩
      go_wp2_with fail
      go_ret
      exact ⟨rfl, grown_drewN _ _⟩
  have hv1 : 1 ≤ v := by omega
  by_cases hm : e = most
  · subst hm
    unfold most
    go_enter Tryd.func7, Tryd.ntmps7
    go_wp2_with fail
    all_goals
      refine (lives_tab ht).mono ?_; rintro e w' ⟨rfl, k1, rfl⟩
      go_wp2_with fail
      go_ret
      exact ⟨rfl, grown_drewN _ _⟩
  · have cl := fun w => leader_any e v (1 + n % 7) he hv hv2 w
    have cn := fun w => leader_any (e + 1) (v - 1) (1 + n % 7) (by omega) (by omega) (by omega) w
    rw [lead_next] at cn
    have hm' : (e == 18446744073709551615) = false := by
      have : e ≠ most := hm
      unfold most at this
      simpa using this
    clear hm h0
    have k0 := Int.emod_nonneg v (show (60 : Int) ≠ 0 by omega)
    have k1 := Int.emod_lt_of_pos v (show (0 : Int) < 60 by omega)
    have wr : IntKind.u64.wrap (e + 1) = e + 1 := IntWalk.u64_in _ ⟨by omega, by
      have : e ≠ 18446744073709551615 := by simpa using hm'
      unfold most at he2; omega⟩
    clear he2
    by_cases h3 : v % 60 < 3
    · rcases (show v % 60 = 0 ∨ v % 60 = 1 ∨ v % 60 = 2 by omega) with hk | hk | hk
      · have cp := patience_tab ht 0 (by omega) (by omega)
        rw [show pat 0 = 8 from rfl] at cp
        clear h3 k0 k1
        go_enter Tryd.func7, Tryd.ntmps7
        go_wp2_with fail
        refine cp.mono ?_; rintro e w' ⟨rfl, rfl⟩
        go_wp2_with fail
        refine (cl _).mono ?_; rintro e w' ⟨rfl, k1, rfl⟩
        go_wp2_with fail
        refine (cn _).mono ?_; rintro e w' ⟨rfl, k1, rfl⟩
        go_wp2_with fail
        refine (lives_tab (w := w.drewN _) ht).mono ?_; rintro e w' ⟨rfl, k1, rfl⟩
        go_wp2_with fail
        go_ret
        exact ⟨rfl, grown_drewN _ _⟩
      · have cp := patience_tab ht 1 (by omega) (by omega)
        rw [show pat 1 = 16 from rfl] at cp
        clear h3 k0 k1
        go_enter Tryd.func7, Tryd.ntmps7
        go_wp2_with fail
        refine cp.mono ?_; rintro e w' ⟨rfl, rfl⟩
        go_wp2_with fail
        refine (cl _).mono ?_; rintro e w' ⟨rfl, k1, rfl⟩
        go_wp2_with fail
        refine (cn _).mono ?_; rintro e w' ⟨rfl, k1, rfl⟩
        go_wp2_with fail
        refine (lives_tab (w := w.drewN _) ht).mono ?_; rintro e w' ⟨rfl, k1, rfl⟩
        go_wp2_with fail
        go_ret
        exact ⟨rfl, grown_drewN _ _⟩
      · have cp := patience_tab ht 2 (by omega) (by omega)
        rw [show pat 2 = 32 from rfl] at cp
        clear h3 k0 k1
        go_enter Tryd.func7, Tryd.ntmps7
        go_wp2_with fail
        refine cp.mono ?_; rintro e w' ⟨rfl, rfl⟩
        go_wp2_with fail
        refine (cl _).mono ?_; rintro e w' ⟨rfl, k1, rfl⟩
        go_wp2_with fail
        refine (cn _).mono ?_; rintro e w' ⟨rfl, k1, rfl⟩
        go_wp2_with fail
        refine (lives_tab (w := w.drewN _) ht).mono ?_; rintro e w' ⟨rfl, k1, rfl⟩
        go_wp2_with fail
        go_ret
        exact ⟨rfl, grown_drewN _ _⟩
    · have cp := patience_tab ht (v % 60) (by omega) (by omega)
      rw [show pat (v % 60) = 64 by unfold pat; rw [if_neg (by omega), if_neg (by omega), if_neg (by omega)]] at cp
      go_enter Tryd.func7, Tryd.ntmps7
      go_wp2_with fail
      refine cp.mono ?_; rintro e w' ⟨rfl, rfl⟩
      go_wp2_with fail
      refine (cl _).mono ?_; rintro e w' ⟨rfl, k1, rfl⟩
      go_wp2_with fail
      refine (cn _).mono ?_; rintro e w' ⟨rfl, k1, rfl⟩
      go_wp2_with fail
      refine (lives_tab (w := w.drewN _) ht).mono ?_; rintro e w' ⟨rfl, k1, rfl⟩
      go_wp2_with fail
      go_ret
      exact ⟨rfl, grown_drewN _ _⟩
end Go.Proofs.YtgckjfdhonmljaaDoor
