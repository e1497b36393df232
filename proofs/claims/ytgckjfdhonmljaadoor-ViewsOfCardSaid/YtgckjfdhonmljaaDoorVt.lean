/- The walk of the law ViewsTurn: in as many views as there are nodes each node leads once; where the table of patience holds its four numbers. -/
import Derived.Test.YtgckjfdhonmljaaDoorVx
namespace Go.Proofs.YtgckjfdhonmljaaDoor
open Go.ChangeShapes Go.WideShapes Go.ChangeAt Go.RowKit

/-- how often node j has led behind i views of s on -/
def led (s n i j : Int) : Int := if 1 ≤ j ∧ j ≤ n ∧ (j - 1 - s) % n < i then 1 else 0

theorem led_bd (s n i j : Int) : 0 ≤ led s n i j ∧ led s n i j ≤ 1 := by unfold led; split <;> omega
theorem led_none (s n j : Int) (hn : 1 ≤ n) : led s n 0 j = 0 := by
  unfold led; rw [if_neg]; rintro ⟨_, _, h⟩; have := Int.emod_nonneg (j - 1 - s) (show n ≠ 0 by omega); omega
theorem led_all (s n j : Int) (h1 : 1 ≤ j) (h2 : j ≤ n) : led s n n j = 1 := by
  unfold led; rw [if_pos]; exact ⟨h1, h2, Int.emod_lt_of_pos _ (by omega)⟩
theorem led_next (s n i j : Int) (hn : 1 ≤ n) (h7 : n ≤ 7) (h0 : 0 ≤ i) (h : i < n) : led s n (i + 1) j = if j = (s + i) % n + 1 then led s n i j + 1 else led s n i j := by
  unfold led
  rcases (show n = 1 ∨ n = 2 ∨ n = 3 ∨ n = 4 ∨ n = 5 ∨ n = 6 ∨ n = 7 by omega) with rfl | rfl | rfl | rfl | rfl | rfl | rfl <;>
    (split <;> split <;> split <;> omega)

/-- the eight counters behind i views -/
def Led (s n i : Int) (c0 c1 c2 c3 c4 c5 c6 c7 : Int) : Prop := c0 = led s n i 0 ∧ c1 = led s n i 1 ∧ c2 = led s n i 2 ∧ c3 = led s n i 3 ∧ c4 = led s n i 4 ∧ c5 = led s n i 5 ∧ c6 = led s n i 6 ∧ c7 = led s n i 7
def Bd (c : Int) : Prop := 0 ≤ c ∧ c ≤ 1
theorem Led.bd {s n i c0 c1 c2 c3 c4 c5 c6 c7 : Int} (h : Led s n i c0 c1 c2 c3 c4 c5 c6 c7) : 0 ≤ c0 ∧ c0 ≤ 1 ∧ 0 ≤ c1 ∧ c1 ≤ 1 ∧ 0 ≤ c2 ∧ c2 ≤ 1 ∧ 0 ≤ c3 ∧ c3 ≤ 1 ∧ 0 ≤ c4 ∧ c4 ≤ 1 ∧ 0 ≤ c5 ∧ c5 ≤ 1 ∧ 0 ≤ c6 ∧ c6 ≤ 1 ∧ 0 ≤ c7 ∧ c7 ≤ 1 := by
  obtain ⟨rfl, rfl, rfl, rfl, rfl, rfl, rfl, rfl⟩ := h
  exact ⟨(led_bd _ _ _ _).1, (led_bd _ _ _ _).2, (led_bd _ _ _ _).1, (led_bd _ _ _ _).2, (led_bd _ _ _ _).1, (led_bd _ _ _ _).2, (led_bd _ _ _ _).1, (led_bd _ _ _ _).2, (led_bd _ _ _ _).1, (led_bd _ _ _ _).2, (led_bd _ _ _ _).1, (led_bd _ _ _ _).2, (led_bd _ _ _ _).1, (led_bd _ _ _ _).2, (led_bd _ _ _ _).1, (led_bd _ _ _ _).2⟩
theorem Led.start (s n : Int) (hn : 1 ≤ n) : Led s n 0 0 0 0 0 0 0 0 0 :=
  ⟨(led_none s n 0 hn).symm, (led_none s n 1 hn).symm, (led_none s n 2 hn).symm, (led_none s n 3 hn).symm, (led_none s n 4 hn).symm, (led_none s n 5 hn).symm, (led_none s n 6 hn).symm, (led_none s n 7 hn).symm⟩
theorem tab_alloc {w : World} (h : Tab w) (o : Obj) : Tab (w.alloc o) := by
  obtain ⟨h0, h1, h2, h3⟩ := h
  have hs : 0 < w.heap.size := by
    by_cases hz : 0 < w.heap.size
    · exact hz
    · have : w.heap[0]? = none := Array.getElem?_eq_none (by omega)
      simp [World.cell?, this] at h0
  exact ⟨(World.cell?_alloc_past o 0 0 hs).trans h0, (World.cell?_alloc_past o 0 1 hs).trans h1, (World.cell?_alloc_past o 0 2 hs).trans h2, (World.cell?_alloc_past o 0 3 hs).trans h3⟩
theorem set_new (w : World) (A : Array Value) (t : TypeId) (d i : Nat) (v : Value) : ((w.alloc (.cells A t)).drewN d).setCell ⟨w.heap.size, i, none⟩ v = (w.alloc (.cells (A.set! i v) t)).drewN d := by
  have h : (w.alloc (.cells A t)).setCell ⟨w.heap.size, i, none⟩ v = w.alloc (.cells (A.set! i v) t) := by
    simp [go_sem]
  exact congrArg (fun x : World => x.drewN d) h
theorem lead_at (e v i n : Int) (h1 : 1 ≤ n) (h7 : n ≤ 7) : lead e (v + i) n = (e + v + i) % n + 1 := by
  unfold lead
  rw [if_neg (by omega), if_neg (by omega), ← Int.add_emod, Int.add_assoc]

theorem Led.step1 {s n i c0 c1 c2 c3 c4 c5 c6 c7 : Int} (h : Led s n i c0 c1 c2 c3 c4 c5 c6 c7) (hn : 1 ≤ n) (h7 : n ≤ 7) (h0 : 0 ≤ i) (hi : i < n) (hx : (s + i) % n + 1 = 1) : Led s n (i + 1) c0 (c1 + 1) c2 c3 c4 c5 c6 c7 := by
  obtain ⟨rfl, rfl, rfl, rfl, rfl, rfl, rfl, rfl⟩ := h
  refine ⟨by rw [led_next _ _ _ _ hn h7 h0 hi, if_neg (by omega)], by rw [led_next _ _ _ _ hn h7 h0 hi, if_pos (by omega)], by rw [led_next _ _ _ _ hn h7 h0 hi, if_neg (by omega)], by rw [led_next _ _ _ _ hn h7 h0 hi, if_neg (by omega)], by rw [led_next _ _ _ _ hn h7 h0 hi, if_neg (by omega)], by rw [led_next _ _ _ _ hn h7 h0 hi, if_neg (by omega)], by rw [led_next _ _ _ _ hn h7 h0 hi, if_neg (by omega)], by rw [led_next _ _ _ _ hn h7 h0 hi, if_neg (by omega)]⟩
theorem Led.end1 {s n c0 c1 c2 c3 c4 c5 c6 c7 : Int} (h : Led s n n c0 c1 c2 c3 c4 c5 c6 c7) (hx : 1 ≤ n) : c1 = 1 := by
  obtain ⟨rfl, rfl, rfl, rfl, rfl, rfl, rfl, rfl⟩ := h
  exact led_all _ _ _ (by omega) hx
theorem Led.step2 {s n i c0 c1 c2 c3 c4 c5 c6 c7 : Int} (h : Led s n i c0 c1 c2 c3 c4 c5 c6 c7) (hn : 1 ≤ n) (h7 : n ≤ 7) (h0 : 0 ≤ i) (hi : i < n) (hx : (s + i) % n + 1 = 2) : Led s n (i + 1) c0 c1 (c2 + 1) c3 c4 c5 c6 c7 := by
  obtain ⟨rfl, rfl, rfl, rfl, rfl, rfl, rfl, rfl⟩ := h
  refine ⟨by rw [led_next _ _ _ _ hn h7 h0 hi, if_neg (by omega)], by rw [led_next _ _ _ _ hn h7 h0 hi, if_neg (by omega)], by rw [led_next _ _ _ _ hn h7 h0 hi, if_pos (by omega)], by rw [led_next _ _ _ _ hn h7 h0 hi, if_neg (by omega)], by rw [led_next _ _ _ _ hn h7 h0 hi, if_neg (by omega)], by rw [led_next _ _ _ _ hn h7 h0 hi, if_neg (by omega)], by rw [led_next _ _ _ _ hn h7 h0 hi, if_neg (by omega)], by rw [led_next _ _ _ _ hn h7 h0 hi, if_neg (by omega)]⟩
theorem Led.end2 {s n c0 c1 c2 c3 c4 c5 c6 c7 : Int} (h : Led s n n c0 c1 c2 c3 c4 c5 c6 c7) (hx : 2 ≤ n) : c2 = 1 := by
  obtain ⟨rfl, rfl, rfl, rfl, rfl, rfl, rfl, rfl⟩ := h
  exact led_all _ _ _ (by omega) hx
theorem Led.step3 {s n i c0 c1 c2 c3 c4 c5 c6 c7 : Int} (h : Led s n i c0 c1 c2 c3 c4 c5 c6 c7) (hn : 1 ≤ n) (h7 : n ≤ 7) (h0 : 0 ≤ i) (hi : i < n) (hx : (s + i) % n + 1 = 3) : Led s n (i + 1) c0 c1 c2 (c3 + 1) c4 c5 c6 c7 := by
  obtain ⟨rfl, rfl, rfl, rfl, rfl, rfl, rfl, rfl⟩ := h
  refine ⟨by rw [led_next _ _ _ _ hn h7 h0 hi, if_neg (by omega)], by rw [led_next _ _ _ _ hn h7 h0 hi, if_neg (by omega)], by rw [led_next _ _ _ _ hn h7 h0 hi, if_neg (by omega)], by rw [led_next _ _ _ _ hn h7 h0 hi, if_pos (by omega)], by rw [led_next _ _ _ _ hn h7 h0 hi, if_neg (by omega)], by rw [led_next _ _ _ _ hn h7 h0 hi, if_neg (by omega)], by rw [led_next _ _ _ _ hn h7 h0 hi, if_neg (by omega)], by rw [led_next _ _ _ _ hn h7 h0 hi, if_neg (by omega)]⟩
theorem Led.end3 {s n c0 c1 c2 c3 c4 c5 c6 c7 : Int} (h : Led s n n c0 c1 c2 c3 c4 c5 c6 c7) (hx : 3 ≤ n) : c3 = 1 := by
  obtain ⟨rfl, rfl, rfl, rfl, rfl, rfl, rfl, rfl⟩ := h
  exact led_all _ _ _ (by omega) hx
theorem Led.step4 {s n i c0 c1 c2 c3 c4 c5 c6 c7 : Int} (h : Led s n i c0 c1 c2 c3 c4 c5 c6 c7) (hn : 1 ≤ n) (h7 : n ≤ 7) (h0 : 0 ≤ i) (hi : i < n) (hx : (s + i) % n + 1 = 4) : Led s n (i + 1) c0 c1 c2 c3 (c4 + 1) c5 c6 c7 := by
  obtain ⟨rfl, rfl, rfl, rfl, rfl, rfl, rfl, rfl⟩ := h
  refine ⟨by rw [led_next _ _ _ _ hn h7 h0 hi, if_neg (by omega)], by rw [led_next _ _ _ _ hn h7 h0 hi, if_neg (by omega)], by rw [led_next _ _ _ _ hn h7 h0 hi, if_neg (by omega)], by rw [led_next _ _ _ _ hn h7 h0 hi, if_neg (by omega)], by rw [led_next _ _ _ _ hn h7 h0 hi, if_pos (by omega)], by rw [led_next _ _ _ _ hn h7 h0 hi, if_neg (by omega)], by rw [led_next _ _ _ _ hn h7 h0 hi, if_neg (by omega)], by rw [led_next _ _ _ _ hn h7 h0 hi, if_neg (by omega)]⟩
theorem Led.end4 {s n c0 c1 c2 c3 c4 c5 c6 c7 : Int} (h : Led s n n c0 c1 c2 c3 c4 c5 c6 c7) (hx : 4 ≤ n) : c4 = 1 := by
  obtain ⟨rfl, rfl, rfl, rfl, rfl, rfl, rfl, rfl⟩ := h
  exact led_all _ _ _ (by omega) hx
theorem Led.step5 {s n i c0 c1 c2 c3 c4 c5 c6 c7 : Int} (h : Led s n i c0 c1 c2 c3 c4 c5 c6 c7) (hn : 1 ≤ n) (h7 : n ≤ 7) (h0 : 0 ≤ i) (hi : i < n) (hx : (s + i) % n + 1 = 5) : Led s n (i + 1) c0 c1 c2 c3 c4 (c5 + 1) c6 c7 := by
  obtain ⟨rfl, rfl, rfl, rfl, rfl, rfl, rfl, rfl⟩ := h
  refine ⟨by rw [led_next _ _ _ _ hn h7 h0 hi, if_neg (by omega)], by rw [led_next _ _ _ _ hn h7 h0 hi, if_neg (by omega)], by rw [led_next _ _ _ _ hn h7 h0 hi, if_neg (by omega)], by rw [led_next _ _ _ _ hn h7 h0 hi, if_neg (by omega)], by rw [led_next _ _ _ _ hn h7 h0 hi, if_neg (by omega)], by rw [led_next _ _ _ _ hn h7 h0 hi, if_pos (by omega)], by rw [led_next _ _ _ _ hn h7 h0 hi, if_neg (by omega)], by rw [led_next _ _ _ _ hn h7 h0 hi, if_neg (by omega)]⟩
theorem Led.end5 {s n c0 c1 c2 c3 c4 c5 c6 c7 : Int} (h : Led s n n c0 c1 c2 c3 c4 c5 c6 c7) (hx : 5 ≤ n) : c5 = 1 := by
  obtain ⟨rfl, rfl, rfl, rfl, rfl, rfl, rfl, rfl⟩ := h
  exact led_all _ _ _ (by omega) hx
theorem Led.step6 {s n i c0 c1 c2 c3 c4 c5 c6 c7 : Int} (h : Led s n i c0 c1 c2 c3 c4 c5 c6 c7) (hn : 1 ≤ n) (h7 : n ≤ 7) (h0 : 0 ≤ i) (hi : i < n) (hx : (s + i) % n + 1 = 6) : Led s n (i + 1) c0 c1 c2 c3 c4 c5 (c6 + 1) c7 := by
  obtain ⟨rfl, rfl, rfl, rfl, rfl, rfl, rfl, rfl⟩ := h
  refine ⟨by rw [led_next _ _ _ _ hn h7 h0 hi, if_neg (by omega)], by rw [led_next _ _ _ _ hn h7 h0 hi, if_neg (by omega)], by rw [led_next _ _ _ _ hn h7 h0 hi, if_neg (by omega)], by rw [led_next _ _ _ _ hn h7 h0 hi, if_neg (by omega)], by rw [led_next _ _ _ _ hn h7 h0 hi, if_neg (by omega)], by rw [led_next _ _ _ _ hn h7 h0 hi, if_neg (by omega)], by rw [led_next _ _ _ _ hn h7 h0 hi, if_pos (by omega)], by rw [led_next _ _ _ _ hn h7 h0 hi, if_neg (by omega)]⟩
theorem Led.end6 {s n c0 c1 c2 c3 c4 c5 c6 c7 : Int} (h : Led s n n c0 c1 c2 c3 c4 c5 c6 c7) (hx : 6 ≤ n) : c6 = 1 := by
  obtain ⟨rfl, rfl, rfl, rfl, rfl, rfl, rfl, rfl⟩ := h
  exact led_all _ _ _ (by omega) hx
theorem Led.step7 {s n i c0 c1 c2 c3 c4 c5 c6 c7 : Int} (h : Led s n i c0 c1 c2 c3 c4 c5 c6 c7) (hn : 1 ≤ n) (h7 : n ≤ 7) (h0 : 0 ≤ i) (hi : i < n) (hx : (s + i) % n + 1 = 7) : Led s n (i + 1) c0 c1 c2 c3 c4 c5 c6 (c7 + 1) := by
  obtain ⟨rfl, rfl, rfl, rfl, rfl, rfl, rfl, rfl⟩ := h
  refine ⟨by rw [led_next _ _ _ _ hn h7 h0 hi, if_neg (by omega)], by rw [led_next _ _ _ _ hn h7 h0 hi, if_neg (by omega)], by rw [led_next _ _ _ _ hn h7 h0 hi, if_neg (by omega)], by rw [led_next _ _ _ _ hn h7 h0 hi, if_neg (by omega)], by rw [led_next _ _ _ _ hn h7 h0 hi, if_neg (by omega)], by rw [led_next _ _ _ _ hn h7 h0 hi, if_neg (by omega)], by rw [led_next _ _ _ _ hn h7 h0 hi, if_neg (by omega)], by rw [led_next _ _ _ _ hn h7 h0 hi, if_pos (by omega)]⟩
theorem Led.end7 {s n c0 c1 c2 c3 c4 c5 c6 c7 : Int} (h : Led s n n c0 c1 c2 c3 c4 c5 c6 c7) (hx : 7 ≤ n) : c7 = 1 := by
  obtain ⟨rfl, rfl, rfl, rfl, rfl, rfl, rfl, rfl⟩ := h
  exact led_all _ _ _ (by omega) hx

set_option maxHeartbeats 1000000 in
theorem viewsTurn_far (e v n : Int) (he : 0 ≤ e) (hv : 0 ≤ v) (hv2 : v ≤ 4294967295) (hn0 : 0 ≤ n) (hn : n ≤ 255) (hway : 2147483648 < v) (w : World) (ht : Tab w) :
    Calls Tryd.prog 4 #[.int .u64 e, .int .u32 v, .int .u8 n] w fun e w' => e = .returned (.bool true) ∧ Grown w w' := by
  have s1 := Int.emod_nonneg n (show (7 : Int) ≠ 0 by omega)
  have s2 := Int.emod_lt_of_pos n (show (0 : Int) < 7 by omega)
  go_enter Tryd.func4, Tryd.ntmps4
  go_wp2_with fail
  go_loopw [9] (fun i wr => ∃ (d : Nat) (k c0 c1 c2 c3 c4 c5 c6 c7 : Int), 0 ≤ k ∧ k ≤ 1 + n % 7 ∧ i = .int .i64 k ∧ Led (e + (v - 2147483648)) (1 + n % 7) k c0 c1 c2 c3 c4 c5 c6 c7 ∧ wr = (w.alloc (.cells #[.int .i64 c0, .int .i64 c1, .int .i64 c2, .int .i64 c3, .int .i64 c4, .int .i64 c5, .int .i64 c6, .int .i64 c7] 31)).drewN d) (fun i _ => 8 - (intOf i).toNat)
  case atStart => exact ⟨0, 0, 0, 0, 0, 0, 0, 0, 0, 0, by omega, by omega, rfl, Led.start _ _ (by omega), rfl⟩
  case round =>
    obtain ⟨d, k, c0, c1, c2, c3, c4, c5, c6, c7, hk0, hkn, rfl, hl, rfl⟩ := hrel
    by_cases hlt : k < 1 + n % 7
    · have hl7 := lead_at e (v - 2147483648) k (1 + n % 7) (by omega) (by omega)
      have hx0 := Int.emod_nonneg (e + (v - 2147483648) + k) (show 1 + n % 7 ≠ 0 by omega)
      have hx1 := Int.emod_lt_of_pos (e + (v - 2147483648) + k) (show 0 < 1 + n % 7 by omega)
      obtain ⟨x, hx⟩ : ∃ x, (e + (v - 2147483648) + k) % (1 + n % 7) + 1 = x := ⟨_, rfl⟩
      rw [hx] at hl7
      have hx2 : 1 ≤ x := by omega
      have hx3 : x ≤ 1 + n % 7 := by omega
      have cl := fun w => leader_any e ((v - 2147483648) + k) (1 + n % 7) he (by omega) (by omega) w
      rw [hl7] at cl
      clear hl7 hx0 hx1
      have HX := Lib.hid hx
      clear hx
      obtain ⟨m0a, m0b, m1a, m1b, m2a, m2b, m3a, m3b, m4a, m4b, m5a, m5b, m6a, m6b, m7a, m7b⟩ := hl.bd
      rcases (show x = 1 ∨ x = 2 ∨ x = 3 ∨ x = 4 ∨ x = 5 ∨ x = 6 ∨ x = 7 by omega) with rfl | rfl | rfl | rfl | rfl | rfl | rfl
      · go_wp2_with fail
        refine (cl _).mono ?_; rintro e w' ⟨rfl, k1, rfl⟩
        go_wp2_with fail
        go_roundw
        case rel => exact ⟨_, k + 1, _, _, _, _, _, _, _, _, by omega, by omega, rfl, Led.step1 hl (by omega) (by omega) hk0 hlt HX.out, by rw [set_new]; rfl⟩
        case measure => simp [intOf]; omega
      · go_wp2_with fail
        refine (cl _).mono ?_; rintro e w' ⟨rfl, k1, rfl⟩
        go_wp2_with fail
        go_roundw
        case rel => exact ⟨_, k + 1, _, _, _, _, _, _, _, _, by omega, by omega, rfl, Led.step2 hl (by omega) (by omega) hk0 hlt HX.out, by rw [set_new]; rfl⟩
        case measure => simp [intOf]; omega
      · go_wp2_with fail
        refine (cl _).mono ?_; rintro e w' ⟨rfl, k1, rfl⟩
        go_wp2_with fail
        go_roundw
        case rel => exact ⟨_, k + 1, _, _, _, _, _, _, _, _, by omega, by omega, rfl, Led.step3 hl (by omega) (by omega) hk0 hlt HX.out, by rw [set_new]; rfl⟩
        case measure => simp [intOf]; omega
      · go_wp2_with fail
        refine (cl _).mono ?_; rintro e w' ⟨rfl, k1, rfl⟩
        go_wp2_with fail
        go_roundw
        case rel => exact ⟨_, k + 1, _, _, _, _, _, _, _, _, by omega, by omega, rfl, Led.step4 hl (by omega) (by omega) hk0 hlt HX.out, by rw [set_new]; rfl⟩
        case measure => simp [intOf]; omega
      · go_wp2_with fail
        refine (cl _).mono ?_; rintro e w' ⟨rfl, k1, rfl⟩
        go_wp2_with fail
        go_roundw
        case rel => exact ⟨_, k + 1, _, _, _, _, _, _, _, _, by omega, by omega, rfl, Led.step5 hl (by omega) (by omega) hk0 hlt HX.out, by rw [set_new]; rfl⟩
        case measure => simp [intOf]; omega
      · go_wp2_with fail
        refine (cl _).mono ?_; rintro e w' ⟨rfl, k1, rfl⟩
        go_wp2_with fail
        go_roundw
        case rel => exact ⟨_, k + 1, _, _, _, _, _, _, _, _, by omega, by omega, rfl, Led.step6 hl (by omega) (by omega) hk0 hlt HX.out, by rw [set_new]; rfl⟩
        case measure => simp [intOf]; omega
      · go_wp2_with fail
        refine (cl _).mono ?_; rintro e w' ⟨rfl, k1, rfl⟩
        go_wp2_with fail
        go_roundw
        case rel => exact ⟨_, k + 1, _, _, _, _, _, _, _, _, by omega, by omega, rfl, Led.step7 hl (by omega) (by omega) hk0 hlt HX.out, by rw [set_new]; rfl⟩
        case measure => simp [intOf]; omega
    · obtain rfl : k = 1 + n % 7 := by omega
      clear hlt
      go_wp2_with fail
      go_loop [11] (fun i => ∃ j : Int, 1 ≤ j ∧ j ≤ 2 + n % 7 ∧ i = .int .i64 j) (fun i => 9 - (intOf i).toNat)
      case atStart => exact ⟨1, by omega, by omega, rfl⟩
      case round =>
        obtain ⟨j, hj1, hj2, rfl⟩ := hrel
        by_cases hle : j ≤ 1 + n % 7
        · have HL := Lib.hid hl
          clear hl
          rcases (show j = 1 ∨ j = 2 ∨ j = 3 ∨ j = 4 ∨ j = 5 ∨ j = 6 ∨ j = 7 by omega) with rfl | rfl | rfl | rfl | rfl | rfl | rfl
          · obtain rfl := Led.end1 HL (by omega)
            clear HL
            go_wp2_with fail
            go_round
            case rel => exact ⟨2, by omega, by omega, rfl⟩
            case measure => simp [intOf]
          · obtain rfl := Led.end2 HL (by omega)
            clear HL
            go_wp2_with fail
            go_round
            case rel => exact ⟨3, by omega, by omega, rfl⟩
            case measure => simp [intOf]
          · obtain rfl := Led.end3 HL (by omega)
            clear HL
            go_wp2_with fail
            go_round
            case rel => exact ⟨4, by omega, by omega, rfl⟩
            case measure => simp [intOf]
          · obtain rfl := Led.end4 HL (by omega)
            clear HL
            go_wp2_with fail
            go_round
            case rel => exact ⟨5, by omega, by omega, rfl⟩
            case measure => simp [intOf]
          · obtain rfl := Led.end5 HL (by omega)
            clear HL
            go_wp2_with fail
            go_round
            case rel => exact ⟨6, by omega, by omega, rfl⟩
            case measure => simp [intOf]
          · obtain rfl := Led.end6 HL (by omega)
            clear HL
            go_wp2_with fail
            go_round
            case rel => exact ⟨7, by omega, by omega, rfl⟩
            case measure => simp [intOf]
          · obtain rfl := Led.end7 HL (by omega)
            clear HL
            go_wp2_with fail
            go_round
            case rel => exact ⟨8, by omega, by omega, rfl⟩
            case measure => simp [intOf]
        · clear hl
          go_wp2_with fail
          refine (lives_tab (w := (w.alloc _).drewN _) (tab_alloc ht _)).mono ?_; rintro e w' ⟨rfl, k1, rfl⟩
          go_wp2_with fail
          go_ret
          exact ⟨rfl, (Grown.refl w).alloc _ _⟩


set_option maxHeartbeats 1000000 in
theorem viewsTurn_near (e v n : Int) (he : 0 ≤ e) (hv : 0 ≤ v) (hv2 : v ≤ 4294967295) (hn0 : 0 ≤ n) (hn : n ≤ 255) (hway : v ≤ 2147483648) (w : World) (ht : Tab w) :
    Calls Tryd.prog 4 #[.int .u64 e, .int .u32 v, .int .u8 n] w fun e w' => e = .returned (.bool true) ∧ Grown w w' := by
  have s1 := Int.emod_nonneg n (show (7 : Int) ≠ 0 by omega)
  have s2 := Int.emod_lt_of_pos n (show (0 : Int) < 7 by omega)
  go_enter Tryd.func4, Tryd.ntmps4
  go_wp2_with fail
  go_loopw [9] (fun i wr => ∃ (d : Nat) (k c0 c1 c2 c3 c4 c5 c6 c7 : Int), 0 ≤ k ∧ k ≤ 1 + n % 7 ∧ i = .int .i64 k ∧ Led (e + v) (1 + n % 7) k c0 c1 c2 c3 c4 c5 c6 c7 ∧ wr = (w.alloc (.cells #[.int .i64 c0, .int .i64 c1, .int .i64 c2, .int .i64 c3, .int .i64 c4, .int .i64 c5, .int .i64 c6, .int .i64 c7] 31)).drewN d) (fun i _ => 8 - (intOf i).toNat)
  case atStart => exact ⟨0, 0, 0, 0, 0, 0, 0, 0, 0, 0, by omega, by omega, rfl, Led.start _ _ (by omega), rfl⟩
  case round =>
    obtain ⟨d, k, c0, c1, c2, c3, c4, c5, c6, c7, hk0, hkn, rfl, hl, rfl⟩ := hrel
    by_cases hlt : k < 1 + n % 7
    · have hl7 := lead_at e v k (1 + n % 7) (by omega) (by omega)
      have hx0 := Int.emod_nonneg (e + v + k) (show 1 + n % 7 ≠ 0 by omega)
      have hx1 := Int.emod_lt_of_pos (e + v + k) (show 0 < 1 + n % 7 by omega)
      obtain ⟨x, hx⟩ : ∃ x, (e + v + k) % (1 + n % 7) + 1 = x := ⟨_, rfl⟩
      rw [hx] at hl7
      have hx2 : 1 ≤ x := by omega
      have hx3 : x ≤ 1 + n % 7 := by omega
      have cl := fun w => leader_any e (v + k) (1 + n % 7) he (by omega) (by omega) w
      rw [hl7] at cl
      clear hl7 hx0 hx1
      have HX := Lib.hid hx
      clear hx
      obtain ⟨m0a, m0b, m1a, m1b, m2a, m2b, m3a, m3b, m4a, m4b, m5a, m5b, m6a, m6b, m7a, m7b⟩ := hl.bd
      rcases (show x = 1 ∨ x = 2 ∨ x = 3 ∨ x = 4 ∨ x = 5 ∨ x = 6 ∨ x = 7 by omega) with rfl | rfl | rfl | rfl | rfl | rfl | rfl
      · go_wp2_with fail
        refine (cl _).mono ?_; rintro e w' ⟨rfl, k1, rfl⟩
        go_wp2_with fail
        go_roundw
        case rel => exact ⟨_, k + 1, _, _, _, _, _, _, _, _, by omega, by omega, rfl, Led.step1 hl (by omega) (by omega) hk0 hlt HX.out, by rw [set_new]; rfl⟩
        case measure => simp [intOf]; omega
      · go_wp2_with fail
        refine (cl _).mono ?_; rintro e w' ⟨rfl, k1, rfl⟩
        go_wp2_with fail
        go_roundw
        case rel => exact ⟨_, k + 1, _, _, _, _, _, _, _, _, by omega, by omega, rfl, Led.step2 hl (by omega) (by omega) hk0 hlt HX.out, by rw [set_new]; rfl⟩
        case measure => simp [intOf]; omega
      · go_wp2_with fail
        refine (cl _).mono ?_; rintro e w' ⟨rfl, k1, rfl⟩
        go_wp2_with fail
        go_roundw
        case rel => exact ⟨_, k + 1, _, _, _, _, _, _, _, _, by omega, by omega, rfl, Led.step3 hl (by omega) (by omega) hk0 hlt HX.out, by rw [set_new]; rfl⟩
        case measure => simp [intOf]; omega
      · go_wp2_with fail
        refine (cl _).mono ?_; rintro e w' ⟨rfl, k1, rfl⟩
        go_wp2_with fail
        go_roundw
        case rel => exact ⟨_, k + 1, _, _, _, _, _, _, _, _, by omega, by omega, rfl, Led.step4 hl (by omega) (by omega) hk0 hlt HX.out, by rw [set_new]; rfl⟩
        case measure => simp [intOf]; omega
      · go_wp2_with fail
        refine (cl _).mono ?_; rintro e w' ⟨rfl, k1, rfl⟩
        go_wp2_with fail
        go_roundw
        case rel => exact ⟨_, k + 1, _, _, _, _, _, _, _, _, by omega, by omega, rfl, Led.step5 hl (by omega) (by omega) hk0 hlt HX.out, by rw [set_new]; rfl⟩
        case measure => simp [intOf]; omega
      · go_wp2_with fail
        refine (cl _).mono ?_; rintro e w' ⟨rfl, k1, rfl⟩
        go_wp2_with fail
        go_roundw
        case rel => exact ⟨_, k + 1, _, _, _, _, _, _, _, _, by omega, by omega, rfl, Led.step6 hl (by omega) (by omega) hk0 hlt HX.out, by rw [set_new]; rfl⟩
        case measure => simp [intOf]; omega
      · go_wp2_with fail
        refine (cl _).mono ?_; rintro e w' ⟨rfl, k1, rfl⟩
        go_wp2_with fail
        go_roundw
        case rel => exact ⟨_, k + 1, _, _, _, _, _, _, _, _, by omega, by omega, rfl, Led.step7 hl (by omega) (by omega) hk0 hlt HX.out, by rw [set_new]; rfl⟩
        case measure => simp [intOf]; omega
    · obtain rfl : k = 1 + n % 7 := by omega
      clear hlt
      go_wp2_with fail
      go_loop [11] (fun i => ∃ j : Int, 1 ≤ j ∧ j ≤ 2 + n % 7 ∧ i = .int .i64 j) (fun i => 9 - (intOf i).toNat)
      case atStart => exact ⟨1, by omega, by omega, rfl⟩
      case round =>
        obtain ⟨j, hj1, hj2, rfl⟩ := hrel
        by_cases hle : j ≤ 1 + n % 7
        · have HL := Lib.hid hl
          clear hl
          rcases (show j = 1 ∨ j = 2 ∨ j = 3 ∨ j = 4 ∨ j = 5 ∨ j = 6 ∨ j = 7 by omega) with rfl | rfl | rfl | rfl | rfl | rfl | rfl
          · obtain rfl := Led.end1 HL (by omega)
            clear HL
            go_wp2_with fail
            go_round
            case rel => exact ⟨2, by omega, by omega, rfl⟩
            case measure => simp [intOf]
          · obtain rfl := Led.end2 HL (by omega)
            clear HL
            go_wp2_with fail
            go_round
            case rel => exact ⟨3, by omega, by omega, rfl⟩
            case measure => simp [intOf]
          · obtain rfl := Led.end3 HL (by omega)
            clear HL
            go_wp2_with fail
            go_round
            case rel => exact ⟨4, by omega, by omega, rfl⟩
            case measure => simp [intOf]
          · obtain rfl := Led.end4 HL (by omega)
            clear HL
            go_wp2_with fail
            go_round
            case rel => exact ⟨5, by omega, by omega, rfl⟩
            case measure => simp [intOf]
          · obtain rfl := Led.end5 HL (by omega)
            clear HL
            go_wp2_with fail
            go_round
            case rel => exact ⟨6, by omega, by omega, rfl⟩
            case measure => simp [intOf]
          · obtain rfl := Led.end6 HL (by omega)
            clear HL
            go_wp2_with fail
            go_round
            case rel => exact ⟨7, by omega, by omega, rfl⟩
            case measure => simp [intOf]
          · obtain rfl := Led.end7 HL (by omega)
            clear HL
            go_wp2_with fail
            go_round
            case rel => exact ⟨8, by omega, by omega, rfl⟩
            case measure => simp [intOf]
        · clear hl
          go_wp2_with fail
          refine (lives_tab (w := (w.alloc _).drewN _) (tab_alloc ht _)).mono ?_; rintro e w' ⟨rfl, k1, rfl⟩
          go_wp2_with fail
          go_ret
          exact ⟨rfl, (Grown.refl w).alloc _ _⟩

theorem viewsTurn_walk (e v n : Int) (he : 0 ≤ e) (_he2 : e ≤ most) (hv : 0 ≤ v) (hv2 : v ≤ 4294967295) (hn0 : 0 ≤ n) (hn : n ≤ 255) (w : World) (ht : Tab w) :
    Calls Tryd.prog 4 #[.int .u64 e, .int .u32 v, .int .u8 n] w fun e w' => e = .returned (.bool true) ∧ Grown w w' := by
  by_cases h : 2147483648 < v
  · exact viewsTurn_far e v n he hv hv2 hn0 hn h w ht
  · exact viewsTurn_near e v n he hv hv2 hn0 hn (by omega) w ht
end Go.Proofs.YtgckjfdhonmljaaDoor
