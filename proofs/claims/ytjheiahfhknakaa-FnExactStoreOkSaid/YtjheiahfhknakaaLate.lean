/- Whether a box has a stamp above a time: the functions of the program (isLate) and of the reference (l07Times) tell the same. Condition: the box can be read. -/
import Derived.Test.YtjheiahfhknakaaRead4
import Derived.Outline
namespace Go.Proofs.Ytjheiahfhknakaa.G
open Go.RowKit Go.Proofs.YtjheiahfhknakaaW.PrintWords Go.Proofs.YtjheiahfhknakaaW.PrintLast Go.Proofs.YtjheiahfhknakaaW.PrintMore
set_option linter.unusedVariables false
set_option linter.unusedSimpArgs false
def lateM (t : Int) (m : S69) : Bool := m.f2.any (fun r => decide (t < r.f1.f0))
theorem late_named {b : S47} {t : Int} (h : t < b.f2.f0) : lateI b t = true := by unfold lateI; rw [decide_eq_true h, Bool.or_true]
theorem late_mail {b : S47} {t : Int} {i : Nat} (hi : i < b.f4.length) (h : lateM t b.f4[i] = true) : lateI b t = true := by
  unfold lateI
  rw [any_at (p := fun m : S69 => m.f2.any (fun r => decide (t < r.f1.f0))) hi h, Bool.true_or]
theorem late_none {b : S47} {t : Int} (h : ∀ j (hj : j < b.f4.length), lateM t b.f4[j] = false) : lateI b t = decide (t < b.f2.f0) := by
  unfold lateI
  rw [any_upTo (p := fun m : S69 => m.f2.any (fun r => decide (t < r.f1.f0))) h, Bool.false_or]
set_option maxRecDepth 100000 in
set_option maxHeartbeats 4000000 in
theorem spec_l07Times.nice (b : S47) (cs : Array Value) (t : Int) (r : Bool) (hr : lateI b t = r) (w : World) (hb : k47.K w b cs.toList) :
    Calls Try.prog 153 #[.agg cs, .int .i64 t] w fun e w' => e = .returned (.bool (!r)) ∧ Below w.heap.size w w' := by
  have HM := Aside0.mk hr.symm
  obtain ⟨A5, c5, A6, c6, e, l5, g5, l6, g6⟩ := k47_open hb
  obtain rfl : cs = _ := Array.ext' e
  have G5 := Aside0.mk g5
  have hmx : b.f4.length ≤ 9223372036854775807 := Kd.C_max g5
  clear hr hb e g5 g6
  obtain ⟨w1, hw1⟩ : ∃ w1, w.alloc (.cells #[.int .i64 b.f0, .string b.f1, .int .i64 b.f2.f0, .int .i64 b.f2.f1, .int .i64 b.f3, .slice A5 b.f4.length c5, .slice A6 b.f5.length c6] 47) = w1 := ⟨_, rfl⟩
  have BK := Aside0.mk (show w1.heap[w.heap.size]? = some (.cells #[.int .i64 b.f0, .string b.f1, .int .i64 b.f2.f0, .int .i64 b.f2.f1, .int .i64 b.f3, .slice A5 b.f4.length c5, .slice A6 b.f5.length c6] 47 (0, 0)) by rw [← hw1]; exact heap_alloc_new w _)
  have HB := Aside0.mk (show Below w.heap.size w w1 by rw [← hw1]; exact below_alloc (Below.refl _ _) _)
  have HW := Aside0.mk hw1
  clear hw1
  have d2 : w1.cell? ⟨w.heap.size, 2, none⟩ = some (.int .i64 b.f2.f0) := (blk_cell BK.out 2).trans rfl
  have d5 : w1.cell? ⟨w.heap.size, 5, none⟩ = some (.slice A5 b.f4.length c5) := (blk_cell BK.out 5).trans rfl
  go_enter Try.func153, Try.ntmps153
  go_upto_region 1 with (fail)
  rw [HW.out]
  clear HW
  by_cases h0 : t < b.f2.f0
  · have HN := Aside0.mk (late_named h0)
    go_wp2
    go_ret
    exact ⟨by rw [HM.out, HN.out]; rfl, HB.out⟩
  have h0' : b.f2.f0 ≤ t := by omega
  have HD := Aside0.mk (decide_eq_false h0)
  clear h0
  go_wp2
  go_loopw [5, 6] (fun v _ wr => ∃ i : Nat, i ≤ b.f4.length ∧ v = .int .i64 i ∧ wr = w1 ∧ Aside0 (∀ j (hj : j < b.f4.length), j < i → lateM t b.f4[j] = false)) (fun v _ _ => b.f4.length - (intOf v).toNat)
  case atStart => exact ⟨0, Nat.zero_le _, rfl, rfl, ⟨fun j hj h => absurd h (Nat.not_lt_zero _)⟩⟩
  case round =>
    obtain ⟨i, hi, rfl, rfl, HI⟩ := hrel
    by_cases hlt : i < b.f4.length
    rotate_left
    · obtain rfl : i = b.f4.length := by omega
      have HN := Aside0.mk (late_none (fun j hj => HI.out j hj hj))
      clear HI
      go_wp2
      go_ret
      exact ⟨by rw [HM.out, HN.out, HD.out]; rfl, HB.out⟩
    obtain ⟨ad, A2, c2, eA, e0, e1, e2, e3, hK⟩ := mail_at (Kd.C_below G5.out HB.out) i hlt
    obtain ⟨_, _, hK2, _, hF⟩ := k69_open hK
    injection (Option.some.inj (show some (Value.slice A2 b.f4[i].f2.length c2) = some (Value.slice _ _ _) from congrArg (fun l : List Value => l[2]?) hK2)) with ha_ _ hc_
    subst ha_ hc_
    have HF := Aside0.mk hF
    have hfx : b.f4[i].f2.length ≤ 9223372036854775807 := Kd.C_max hF
    clear hK hK2 hF e0 e1 e3
    subst eA
    obtain ⟨wo, rfl⟩ : ∃ wo : World, wo = wr := ⟨_, rfl⟩
    go_wp2
    go_loopw [6] (fun v wi => ∃ k : Nat, k ≤ b.f4[i].f2.length ∧ v = .int .i64 k ∧ wi = wo ∧ Aside0 (∀ j (hj : j < b.f4[i].f2.length), j < k → decide (t < b.f4[i].f2[j].f1.f0) = false)) (fun v _ => b.f4[i].f2.length - (intOf v).toNat)
    case atStart => exact ⟨0, Nat.zero_le _, rfl, rfl, ⟨fun j hj h => absurd h (Nat.not_lt_zero _)⟩⟩
    case round =>
      obtain ⟨k, hk, rfl, rfl, HJ⟩ := hrel
      by_cases hlk : k < b.f4[i].f2.length
      · obtain ⟨ad2, eA2, f0, f1, f2⟩ := reg_at HF.out k hlk
        subst eA2
        by_cases hq : t < b.f4[i].f2[k].f1.f0
        · have HN := Aside0.mk (late_mail hlt (any_at (p := fun r : S146 => decide (t < r.f1.f0)) hlk (decide_eq_true hq)))
          go_wp2
          go_ret
          exact ⟨by rw [HM.out, HN.out]; rfl, HB.out⟩
        · have HN := Aside0.mk (pre_succ (q := fun r : S146 => decide (t < r.f1.f0) = false) hlk HJ.out (decide_eq_false hq))
          have hq' : b.f4[i].f2[k].f1.f0 ≤ t := by omega
          clear hq
          go_wp2
          go_roundw
          case rel => exact ⟨k + 1, by omega, by go_num, trivial, HN⟩
          case measure => simp [intOf]; omega
      · obtain rfl : k = b.f4[i].f2.length := by omega
        have HN := Aside0.mk (pre_succ (q := fun m : S69 => lateM t m = false) hlt HI.out (any_upTo (p := fun r : S146 => decide (t < r.f1.f0)) (fun j hj => HJ.out j hj hj)))
        clear HJ
        go_wp2
        go_roundw
        case rel => exact ⟨i + 1, by omega, by go_num, trivial, HN⟩
        case measure => simp [intOf]; omega
theorem spec_l07Times.nice2 (b : S47) (cs : Array Value) (t : Int) (r : Bool) (hr : lateI b t = !r) (w : World) (hb : k47.K w b cs.toList) :
    Calls Try.prog 153 #[.agg cs, .int .i64 t] w fun e w' => e = .returned (.bool r) ∧ Below w.heap.size w w' :=
  (spec_l07Times.nice b cs t (!r) hr w hb).mono fun _ _ h => ⟨by rw [h.1, Bool.not_not], h.2⟩
set_option maxRecDepth 100000 in
set_option maxHeartbeats 4000000 in
theorem impl_isLate.nice (b : S47) (cs : Array Value) (t : Int) (r : Bool) (hr : lateI b t = r) (w : World) (hb : k47.K w b cs.toList) :
    Calls Try.prog 156 #[.agg cs, .int .i64 t] w fun e w' => e = .returned (.bool r) ∧ Below w.heap.size w w' := by
  have HM := Aside0.mk hr.symm
  obtain ⟨A5, c5, A6, c6, e, l5, g5, l6, g6⟩ := k47_open hb
  obtain rfl : cs = _ := Array.ext' e
  have G5 := Aside0.mk g5
  have hmx : b.f4.length ≤ 9223372036854775807 := Kd.C_max g5
  clear hr hb e g5 g6
  obtain ⟨w1, hw1⟩ : ∃ w1, w.alloc (.cells #[.int .i64 b.f0, .string b.f1, .int .i64 b.f2.f0, .int .i64 b.f2.f1, .int .i64 b.f3, .slice A5 b.f4.length c5, .slice A6 b.f5.length c6] 47) = w1 := ⟨_, rfl⟩
  have BK := Aside0.mk (show w1.heap[w.heap.size]? = some (.cells #[.int .i64 b.f0, .string b.f1, .int .i64 b.f2.f0, .int .i64 b.f2.f1, .int .i64 b.f3, .slice A5 b.f4.length c5, .slice A6 b.f5.length c6] 47 (0, 0)) by rw [← hw1]; exact heap_alloc_new w _)
  have HB := Aside0.mk (show Below w.heap.size w w1 by rw [← hw1]; exact below_alloc (Below.refl _ _) _)
  have HW := Aside0.mk hw1
  clear hw1
  have d2 : w1.cell? ⟨w.heap.size, 2, none⟩ = some (.int .i64 b.f2.f0) := (blk_cell BK.out 2).trans rfl
  have d5 : w1.cell? ⟨w.heap.size, 5, none⟩ = some (.slice A5 b.f4.length c5) := (blk_cell BK.out 5).trans rfl
  go_enter Try.func156, Try.ntmps156
  go_upto_region 1 with (fail)
  rw [HW.out]
  clear HW
  go_wp2
  clear d2 d5
  go_loopw [12, 19] (fun v _ wr => ∃ i : Nat, i ≤ b.f4.length ∧ v = .int .i64 i ∧ Aside0 (∀ j (hj : j < b.f4.length), j < i → lateM t b.f4[j] = false) ∧ Aside0 (Below w.heap.size w wr) ∧ Aside0 (wr.heap[w.heap.size]? = some (.cells #[.int .i64 b.f0, .string b.f1, .int .i64 b.f2.f0, .int .i64 b.f2.f1, .int .i64 b.f3, .slice A5 b.f4.length c5, .slice A6 b.f5.length c6] 47 (0, 0)))) (fun v _ _ => b.f4.length - (intOf v).toNat)
  case atStart => exact ⟨0, Nat.zero_le _, rfl, ⟨fun j hj h => absurd h (Nat.not_lt_zero _)⟩, HB, BK⟩
  case round =>
    clear HB BK
    obtain ⟨i, hi, rfl, HI, HB, BK⟩ := hrel
    by_cases hlt : i < b.f4.length
    rotate_left
    · obtain rfl : i = b.f4.length := by omega
      have HN := Aside0.mk (late_none (fun j hj => HI.out j hj hj))
      have d2 : wr.cell? ⟨w.heap.size, 2, none⟩ = some (.int .i64 b.f2.f0) := (blk_cell BK.out 2).trans rfl
      clear HI
      go_wp2
      go_ret
      exact ⟨by rw [HM.out, HN.out]; rfl, HB.out⟩
    obtain ⟨ad, A2, c2, eA, e0, e1, e2, e3, hK⟩ := mail_at (Kd.C_below G5.out HB.out) i hlt
    obtain ⟨_, _, hK2, _, hF⟩ := k69_open hK
    injection (Option.some.inj (show some (Value.slice A2 b.f4[i].f2.length c2) = some (Value.slice _ _ _) from congrArg (fun l : List Value => l[2]?) hK2)) with ha_ _ hc_
    subst ha_ hc_
    have hfx : b.f4[i].f2.length ≤ 9223372036854775807 := Kd.C_max hF
    obtain ⟨wo, hwo⟩ : ∃ wo, wr.alloc (.cells #[.int .i64 b.f4[i].f0, .int .i64 b.f4[i].f1, .slice A2 b.f4[i].f2.length c2, .string b.f4[i].f3] 69) = wo := ⟨_, rfl⟩
    have HB1 := Aside0.mk (show Below wr.heap.size wr wo by rw [← hwo]; exact below_alloc (Below.refl _ _) _)
    have HF := Aside0.mk (Kd.C_below hF HB1.out)
    have HB2 := Aside0.mk (below_then HB.out HB.out.size HB1.out)
    have BK2 := Aside0.mk (blk_below BK.out HB1.out)
    have HW := Aside0.mk hwo
    clear hK hK2 hF hwo
    subst eA
    go_wp2
    rw [HW.out]
    clear HW e0 e1 e2 e3
    go_loopw [19] (fun v wi => ∃ k : Nat, k ≤ b.f4[i].f2.length ∧ v = .int .i64 k ∧ Aside0 (∀ j (hj : j < b.f4[i].f2.length), j < k → decide (t < b.f4[i].f2[j].f1.f0) = false) ∧ Aside0 (Below wo.heap.size wo wi)) (fun v _ => b.f4[i].f2.length - (intOf v).toNat)
    case atStart => exact ⟨0, Nat.zero_le _, rfl, ⟨fun j hj h => absurd h (Nat.not_lt_zero _)⟩, ⟨Below.refl _ _⟩⟩
    case round =>
      obtain ⟨k, hk, rfl, HJ, HC⟩ := hrel
      have HB3 := Aside0.mk (below_then HB2.out HB2.out.size HC.out)
      by_cases hlk : k < b.f4[i].f2.length
      · obtain ⟨ad2, eA2, f0, f1, f2⟩ := reg_at (Kd.C_below HF.out HC.out) k hlk
        subst eA2
        by_cases hq : t < b.f4[i].f2[k].f1.f0
        · have HN := Aside0.mk (late_mail hlt (any_at (p := fun r : S146 => decide (t < r.f1.f0)) hlk (decide_eq_true hq)))
          go_wp2
          go_ret
          exact ⟨by rw [HM.out, HN.out]; rfl, below_then HB3.out HB3.out.size (below_alloc (Below.refl _ _) _)⟩
        · have HN := Aside0.mk (pre_succ (q := fun r : S146 => decide (t < r.f1.f0) = false) hlk HJ.out (decide_eq_false hq))
          have hq' : b.f4[i].f2[k].f1.f0 ≤ t := by omega
          clear hq
          go_wp2
          go_roundw
          case rel => exact ⟨k + 1, by omega, by go_num, HN, ⟨below_alloc HC.out _⟩⟩
          case measure => simp [intOf]; omega
      · obtain rfl : k = b.f4[i].f2.length := by omega
        have HN := Aside0.mk (pre_succ (q := fun m : S69 => lateM t m = false) hlt HI.out (any_upTo (p := fun r : S146 => decide (t < r.f1.f0)) (fun j hj => HJ.out j hj hj)))
        have BK3 := Aside0.mk (blk_below BK2.out HC.out)
        clear HJ
        go_wp2
        go_roundw
        case rel => exact ⟨i + 1, by omega, by go_num, HN, HB3, BK3⟩
        case measure => simp [intOf]; omega
end Go.Proofs.Ytjheiahfhknakaa.G
