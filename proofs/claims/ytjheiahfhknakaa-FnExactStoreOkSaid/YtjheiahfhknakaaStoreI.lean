/- impl.StoreOk tells whether a store is right (storeI). Condition: the store can be read, its names are no longer than a slice may be. -/
import Derived.Test.YtjheiahfhknakaaBoxI
import Derived.Test.YtjheiahfhknakaaBoxS
import Derived.Test.YtjheiahfhknakaaLate
import Derived.Lib.QuietBelow
import Derived.BigQuiet
import Derived.Outline
namespace Go.Proofs.Ytjheiahfhknakaa.G
open Go.Sort Go.RowKit Go.Proofs.YtjheiahfhknakaaW.PrintWords Go.Proofs.YtjheiahfhknakaaW.PrintLast Go.Proofs.YtjheiahfhknakaaW.PrintMore
set_option linter.unusedVariables false
set_option linter.unusedSimpArgs false
def gidsOf (l : List S47) : List Int := l.flatMap (fun b => b.f4.map (·.f0))
/-- What has been seen ahead of mail k of box i. -/
def seenAt (s : S29) (i k : Nat) : List Int := gidsOf (s.f2.take i) ++ ((s.f2.getD i z47).f4.take k).map (·.f0)
def newAt (s : S29) (i k : Nat) : Bool := !hasI (seenAt s i k) ((s.f2.getD i z47).f4.getD k z69).f0
def boxOkAt (s : S29) (i : Nat) : Bool :=
  boxI (s.f2.getD i z47) && ((decide (i = 0) || decide ((s.f2.getD (i - 1) z47).f0 < (s.f2.getD i z47).f0)) && (decide (boxNamed s.f2 (s.f2.getD i z47).f1 = i) && (!hasI s.f3 (s.f2.getD i z47).f0 && !lateI (s.f2.getD i z47) s.f1)))
def stAt (s : S29) (i : Nat) : Bool := boxOkAt s i && (List.range (s.f2.getD i z47).f4.length).all (newAt s i)
def storeHead (s : S29) : Bool := inI s.f0 1 2 && (inI s.f1 0 100000 && (decide (s.f2.length ≤ 5) && sortI s.f3 20))
def storeI (s : S29) : Bool := storeHead s && (List.range s.f2.length).all (stAt s)
theorem store_head {s : S29} (h : storeHead s = false) : storeI s = false := by unfold storeI; rw [h, Bool.false_and]
theorem store_not {s : S29} {i : Nat} (hi : i < s.f2.length) (h : stAt s i = false) : storeI s = false := by unfold storeI; rw [allR_false hi h, Bool.and_false]
theorem store_all {s : S29} (h0 : storeHead s = true) (h : ∀ j, j < s.f2.length → stAt s j = true) : storeI s = true := by unfold storeI; rw [h0, allR_true h]; rfl
theorem shead_of {s : S29} {h1 h2 h3 h4 : Bool} (e1 : inI s.f0 1 2 = h1) (e2 : inI s.f1 0 100000 = h2) (e3 : decide (s.f2.length ≤ 5) = h3) (e4 : sortI s.f3 20 = h4) : storeHead s = (h1 && (h2 && (h3 && h4))) := by
  unfold storeHead
  rw [e1, e2, e3, e4]
theorem boxOkAt_of {s : S29} {i : Nat} (hi : i < s.f2.length) {h1 h2 h3 h4 h5 : Bool} (e1 : boxI s.f2[i] = h1) (e2 : (decide (i = 0) || decide ((s.f2.getD (i - 1) z47).f0 < s.f2[i].f0)) = h2) (e3 : decide (boxNamed s.f2 s.f2[i].f1 = i) = h3) (e4 : hasI s.f3 s.f2[i].f0 = h4) (e5 : lateI s.f2[i] s.f1 = h5) :
    boxOkAt s i = (h1 && (h2 && (h3 && (!h4 && !h5)))) := by
  unfold boxOkAt
  rw [getD_at hi, e1, e2, e3, e4, e5]
theorem st_no1 {s : S29} {i : Nat} (h : boxOkAt s i = false) : stAt s i = false := by unfold stAt; rw [h, Bool.false_and]
theorem st_no2 {s : S29} {i k : Nat} (hi : i < s.f2.length) (hk : k < s.f2[i].f4.length) (h : newAt s i k = false) : stAt s i = false := by
  unfold stAt
  rw [getD_at hi, allR_false hk h, Bool.and_false]
theorem st_yes {s : S29} {i : Nat} (hi : i < s.f2.length) (h : boxOkAt s i = true) (h2 : ∀ k, k < s.f2[i].f4.length → newAt s i k = true) : stAt s i = true := by
  unfold stAt
  rw [getD_at hi, h, allR_true h2]
  rfl
theorem new_of {s : S29} {i k : Nat} (hi : i < s.f2.length) (hk : k < s.f2[i].f4.length) {h : Bool} (e : hasI (seenAt s i k) s.f2[i].f4[k].f0 = h) : newAt s i k = !h := by
  unfold newAt
  rw [getD_at hi, getD_at hk, e]
theorem sprev_of {s : S29} {i : Nat} (h0 : 0 < i) (hi : i - 1 < s.f2.length) (x : Int) : (decide (i = 0) || decide ((s.f2.getD (i - 1) z47).f0 < x)) = decide (s.f2[i - 1].f0 < x) := by
  rw [getD_at hi, decide_eq_false (show ¬ i = 0 by omega), Bool.false_or]
theorem sprev_no {s : S29} {i : Nat} (h0 : ¬ 0 < i) (x : Int) : (decide (i = 0) || decide ((s.f2.getD (i - 1) z47).f0 < x)) = true := by
  rw [decide_eq_true (show i = 0 by omega), Bool.true_or]
theorem seen_zero (s : S29) : seenAt s 0 0 = [] := by simp [seenAt, gidsOf]
theorem seen_succ {s : S29} {i k : Nat} (hi : i < s.f2.length) (hk : k < s.f2[i].f4.length) : seenAt s i k ++ [s.f2[i].f4[k].f0] = seenAt s i (k + 1) := by
  unfold seenAt
  rw [getD_at hi, List.take_succ_eq_append_getElem hk, List.map_append, ← List.append_assoc]
  rfl
theorem seen_next {s : S29} {i : Nat} (hi : i < s.f2.length) : seenAt s i s.f2[i].f4.length = seenAt s (i + 1) 0 := by
  unfold seenAt gidsOf
  rw [getD_at hi, List.take_succ_eq_append_getElem hi, List.take_length, List.flatMap_append, List.take_zero]
  simp only [List.flatMap_cons, List.flatMap_nil, List.append_nil, List.map_nil]
theorem box_small {b : S47} (h : boxI b = true) : b.f4.length ≤ 10 := by
  unfold boxI boxHead at h
  simp only [Bool.and_eq_true, decide_eq_true_eq] at h
  exact h.1.2.2.2.2.1
theorem boxOk_box {s : S29} {i : Nat} (hi : i < s.f2.length) (h : boxOkAt s i = true) : boxI s.f2[i] = true := by
  unfold boxOkAt at h
  rw [getD_at hi] at h
  simp only [Bool.and_eq_true] at h
  exact h.1
theorem st_box {s : S29} {i : Nat} (hi : i < s.f2.length) (h : stAt s i = true) : boxI s.f2[i] = true := by
  unfold stAt at h
  simp only [Bool.and_eq_true] at h
  exact boxOk_box hi h.1
theorem seen_len {s : S29} : ∀ (i : Nat), i ≤ s.f2.length → (∀ j, j < i → stAt s j = true) → (gidsOf (s.f2.take i)).length ≤ 10 * i
  | 0, _, _ => by simp [gidsOf]
  | i + 1, hi, h => by
    have h1 := seen_len i (by omega) (fun j hj => h j (by omega))
    have h2 := box_small (st_box (show i < s.f2.length by omega) (h i (by omega)))
    unfold gidsOf at *
    rw [List.take_succ_eq_append_getElem (show i < s.f2.length by omega), List.flatMap_append, List.length_append]
    simp only [List.flatMap_cons, List.flatMap_nil, List.append_nil, List.length_map]
    omega
theorem seen_len2 {s : S29} {i k : Nat} (hi : i ≤ s.f2.length) (h : ∀ j, j < i → stAt s j = true) : (seenAt s i k).length ≤ 10 * i + k := by
  have h1 := seen_len i hi h
  unfold seenAt
  rw [List.length_append, List.length_map, List.length_take]
  omega
theorem box_mails {w : World} {b : S47} {A5 A6 : Option Addr} {c5 c6 : Nat} (h : k47.K w b [.int .i64 b.f0, .string b.f1, .int .i64 b.f2.f0, .int .i64 b.f2.f1, .int .i64 b.f3, .slice A5 b.f4.length c5, .slice A6 b.f5.length c6]) : k69.C w A5 b.f4.length b.f4 := by
  obtain ⟨_, _, _, _, e, _, g, _⟩ := k47_open h
  injection (Option.some.inj (show some (Value.slice A5 b.f4.length c5) = some (Value.slice _ _ _) from congrArg (fun l : List Value => l[5]?) e)) with ha _ _
  subst ha
  exact g
set_option maxRecDepth 100000 in
set_option maxHeartbeats 4000000 in
theorem impl_StoreOk.nice (s : S29) (cs : Array Value) (r : Bool) (hr : storeI s = r) (w : World) (hb : k29.K w s cs.toList) (hs : ∀ b ∈ s.f2, b.f1.size ≤ 9223372036854775807) :
    Calls Try.prog 62 #[.agg cs] w fun e w' => e = .returned (.bool r) ∧ Below w.heap.size w w' := by
  have HM := Aside0.mk hr.symm
  have HS := Aside0.mk hs
  obtain ⟨A2, c2, A3, c3, e, l2, g2, l3, g3⟩ := k29_open hb
  obtain rfl : cs = _ := Array.ext' e
  have G2 := Aside0.mk g2
  have G3 := Aside0.mk g3
  have hmx : s.f2.length ≤ 9223372036854775807 := Kd.C_max g2
  clear hr hb e g2 g3 hs
  obtain ⟨w1, hw1⟩ : ∃ w1, w.alloc (.cells #[.int .i64 s.f0, .int .i64 s.f1, .slice A2 s.f2.length c2, .slice A3 s.f3.length c3] 29) = w1 := ⟨_, rfl⟩
  have BK := Aside0.mk (show w1.heap[w.heap.size]? = some (.cells #[.int .i64 s.f0, .int .i64 s.f1, .slice A2 s.f2.length c2, .slice A3 s.f3.length c3] 29 (0, 0)) by rw [← hw1]; exact heap_alloc_new w _)
  have HB := Aside0.mk (show Below w.heap.size w w1 by rw [← hw1]; exact below_alloc (Below.refl _ _) _)
  have HW := Aside0.mk hw1
  clear hw1
  go_enter Try.func62, Try.ntmps62
  go_wp2_with fail
  rw [HW.out]
  clear HW
  cases h1 : inI s.f0 1 2 with
  | false =>
    have H1 := Aside0.mk h1
    clear h1
    refine (impl_within.nice s.f0 1 2 false H1.out _).mono ?_
    rintro e wx ⟨rfl, rfl⟩
    go_wp2
    go_ret
    exact ⟨by rw [show r = false from by rw [HM.out]; exact store_head (by rw [shead_of H1.out rfl rfl rfl]; rfl)]; rfl, HB.out⟩
  | true =>
    have H1 := Aside0.mk h1
    clear h1
    refine (impl_within.nice s.f0 1 2 true H1.out _).mono ?_
    rintro e wx ⟨rfl, rfl⟩
    cases h2 : inI s.f1 0 100000 with
    | false =>
      have H2 := Aside0.mk h2
      clear h2
      have q1 : w1.cell? ⟨w.heap.size, 1, none⟩ = some (.int .i64 s.f1) := (blk_cell BK.out 1).trans rfl
      go_wp2_with fail
      refine (impl_within.nice s.f1 0 100000 false H2.out _).mono ?_
      rintro e wx ⟨rfl, rfl⟩
      go_wp2
      go_ret
      exact ⟨by rw [show r = false from by rw [HM.out]; exact store_head (by rw [shead_of H1.out H2.out rfl rfl]; rfl)]; rfl, HB.out⟩
    | true =>
      have H2 := Aside0.mk h2
      clear h2
      have q1 : w1.cell? ⟨w.heap.size, 1, none⟩ = some (.int .i64 s.f1) := (blk_cell BK.out 1).trans rfl
      go_wp2_with fail
      refine (impl_within.nice s.f1 0 100000 true H2.out _).mono ?_
      rintro e wx ⟨rfl, rfl⟩
      clear q1
      by_cases h3 : s.f2.length ≤ 5
      rotate_left
      · have H3 := Aside0.mk (decide_eq_false h3)
        have h3' : 5 < s.f2.length := by omega
        clear h3
        have q2 : w1.cell? ⟨w.heap.size, 2, none⟩ = some (.slice A2 s.f2.length c2) := (blk_cell BK.out 2).trans rfl
        go_wp2
        go_ret
        exact ⟨by rw [show r = false from by rw [HM.out]; exact store_head (by rw [shead_of H1.out H2.out H3.out rfl]; rfl)]; rfl, HB.out⟩
      have H3 := Aside0.mk (decide_eq_true h3)
      have q2 : w1.cell? ⟨w.heap.size, 2, none⟩ = some (.slice A2 s.f2.length c2) := (blk_cell BK.out 2).trans rfl
      cases h4 : sortI s.f3 20 with
      | false =>
        have H4 := Aside0.mk h4
        clear h4
        have q3 : w1.cell? ⟨w.heap.size, 3, none⟩ = some (.slice A3 s.f3.length c3) := (blk_cell BK.out 3).trans rfl
        go_wp2_with fail
        refine (impl_areGids.nice s.f3 A3 c3 20 false H4.out _ (Kd.C_below G3.out HB.out) l3).mono ?_
        rintro e w5 ⟨rfl, hb⟩
        have n0_ := Aside0.mk (below_then HB.out HB.out.size hb)
        have n1_ := Aside0.mk (blk_below BK.out hb)
        clear q2 q3
        clear HB BK hb
        have HB := n0_
        have BK := n1_
        clear n0_ n1_
        go_wp2
        go_ret
        exact ⟨by rw [show r = false from by rw [HM.out]; exact store_head (by rw [shead_of H1.out H2.out H3.out H4.out]; rfl)]; rfl, HB.out⟩
      | true =>
        have H4 := Aside0.mk h4
        clear h4
        have q3 : w1.cell? ⟨w.heap.size, 3, none⟩ = some (.slice A3 s.f3.length c3) := (blk_cell BK.out 3).trans rfl
        go_wp2_with fail
        refine (impl_areGids.nice s.f3 A3 c3 20 true H4.out _ (Kd.C_below G3.out HB.out) l3).mono ?_
        rintro e w5 ⟨rfl, hb⟩
        have n0_ := Aside0.mk (below_then HB.out HB.out.size hb)
        have n1_ := Aside0.mk (blk_below BK.out hb)
        clear q2 q3
        clear HB BK hb
        have HB := n0_
        have BK := n1_
        clear n0_ n1_
        have HH := Aside0.mk (show storeHead s = true by rw [shead_of H1.out H2.out H3.out H4.out]; rfl)
        clear H1 H2 H3 H4
        have q2 : w5.cell? ⟨w.heap.size, 2, none⟩ = some (.slice A2 s.f2.length c2) := (blk_cell BK.out 2).trans rfl
        have HG0 : w.heap.size < w5.heap.size := blk_lt BK.out
        obtain ⟨w6, hw6⟩ : ∃ w6, w5.alloc (.cells #[] 3) = w6 := ⟨_, rfl⟩
        have HO := Aside0.mk (show Kd.R (Kd.int .i64) 3 w6 w.heap.size (fun _ => True) (.slice (some ⟨w5.heap.size, 0, none⟩) 0 0) (seenAt s 0 0) by rw [seen_zero, ← hw6]; exact Kd.R_of_own (own_lit w5 w.heap.size 3 .i64 [] HB.out.size (by simp)) (fun _ _ => trivial))
        have HB1 := Aside0.mk (show Below w5.heap.size w5 w6 by rw [← hw6]; exact below_alloc (Below.refl _ _) _)
        have n0_ := Aside0.mk (below_then HB.out HB.out.size HB1.out)
        have n1_ := Aside0.mk (blk_below BK.out HB1.out)
        have HW := Aside0.mk hw6
        clear hw6
        go_wp2
        rw [HW.out]
        clear HW HB BK HB1 q2
        have HB := n0_
        have BK := n1_
        clear n0_ n1_
        go_loopw [3, 34] (fun v3 v wr => ∃ i : Nat, i ≤ s.f2.length ∧ v = .int .i64 i ∧ Aside0 (∀ j, j < i → stAt s j = true) ∧ Aside0 (Kd.R (Kd.int .i64) 3 wr w.heap.size (fun _ => True) v3 (seenAt s i 0)) ∧ Aside0 (Below w.heap.size w wr) ∧ Aside0 (wr.heap[w.heap.size]? = some (.cells #[.int .i64 s.f0, .int .i64 s.f1, .slice A2 s.f2.length c2, .slice A3 s.f3.length c3] 29 (0, 0)))) (fun _ v _ => s.f2.length - (intOf v).toNat)
        case atStart => exact ⟨0, Nat.zero_le _, rfl, ⟨fun j h => absurd h (Nat.not_lt_zero _)⟩, HO, HB, BK⟩
        case round =>
          clear HB BK HO
          obtain ⟨i, hi, rfl, HI, HO, HB, BK⟩ := hrel
          by_cases hlt : i < s.f2.length
          rotate_left
          · obtain rfl : i = s.f2.length := by omega
            have HN := Aside0.mk (store_all HH.out HI.out)
            clear HI hlt
            go_wp2
            go_ret
            exact ⟨by rw [HM.out, HN.out]; rfl, HB.out⟩
          have HG : w.heap.size < wr.heap.size := blk_lt BK.out
          obtain ⟨ad, A5, c5, A6, c6, eA, e0, e1, e2, e3, e4, e5, e6, hK⟩ := box_at G2.out i hlt
          have HF := Aside0.mk (box_mails hK)
          have HK := Aside0.mk (k47.K_below HB.out hK)
          clear hK
          replace e0 := pw_cell_below HB.out e0
          replace e1 := pw_cell_below HB.out e1
          replace e2 := pw_cell_below HB.out e2
          replace e3 := pw_cell_below HB.out e3
          replace e4 := pw_cell_below HB.out e4
          replace e5 := pw_cell_below HB.out e5
          replace e6 := pw_cell_below HB.out e6
          obtain ⟨w5, hw5⟩ : ∃ w5, wr.alloc (.cells #[.int .i64 s.f2[i].f0, .string s.f2[i].f1, .int .i64 s.f2[i].f2.f0, .int .i64 s.f2[i].f2.f1, .int .i64 s.f2[i].f3, .slice A5 s.f2[i].f4.length c5, .slice A6 s.f2[i].f5.length c6] 47) = w5 := ⟨_, rfl⟩
          have BM := Aside0.mk (show w5.heap[wr.heap.size]? = some (.cells #[.int .i64 s.f2[i].f0, .string s.f2[i].f1, .int .i64 s.f2[i].f2.f0, .int .i64 s.f2[i].f2.f1, .int .i64 s.f2[i].f3, .slice A5 s.f2[i].f4.length c5, .slice A6 s.f2[i].f5.length c6] 47 (0, 0)) by rw [← hw5]; exact heap_alloc_new wr _)
          have HB5 := Aside0.mk (show Below wr.heap.size wr w5 by rw [← hw5]; exact below_alloc (Below.refl _ _) _)
          have HW5 := Aside0.mk hw5
          clear hw5
          have hsb := HS.out s.f2[i] (List.getElem_mem hlt)
          subst eA
          go_wp2
          rw [HW5.out]
          have HB6 := Aside0.mk (below_then HB.out HB.out.size HB5.out)
          have BK6 := Aside0.mk (blk_below BK.out HB5.out)
          have HK6 := Aside0.mk (k47.K_below HB5.out HK.out)
          have HO6 := Aside0.mk (Kd.R_below HO.out HB5.out)
          have HKS := Aside0.mk (k29_mk w5 s l2 (Kd.C_below G2.out HB6.out) l3 (Kd.C_below G3.out HB6.out))
          clear e0 e1 e2 e3 e4 e5 e6
          have b0 : ∀ d os, (grow (redrawn w5 d) os).cell? ⟨w.heap.size, 0, none⟩ = some (.int .i64 s.f0) := fun d os => cell_regrown ((blk_cell BK6.out 0).trans rfl) d os
          have b1 : ∀ d os, (grow (redrawn w5 d) os).cell? ⟨w.heap.size, 1, none⟩ = some (.int .i64 s.f1) := fun d os => cell_regrown ((blk_cell BK6.out 1).trans rfl) d os
          have b2 : ∀ d os, (grow (redrawn w5 d) os).cell? ⟨w.heap.size, 2, none⟩ = some (.slice (some ad) s.f2.length c2) := fun d os => cell_regrown ((blk_cell BK6.out 2).trans rfl) d os
          have b3 : ∀ d os, (grow (redrawn w5 d) os).cell? ⟨w.heap.size, 3, none⟩ = some (.slice A3 s.f3.length c3) := fun d os => cell_regrown ((blk_cell BK6.out 3).trans rfl) d os
          have m0 : ∀ d os, (grow (redrawn w5 d) os).cell? ⟨wr.heap.size, 0, none⟩ = some (.int .i64 s.f2[i].f0) := fun d os => cell_regrown ((blk_cell BM.out 0).trans rfl) d os
          have m1 : ∀ d os, (grow (redrawn w5 d) os).cell? ⟨wr.heap.size, 1, none⟩ = some (.string s.f2[i].f1) := fun d os => cell_regrown ((blk_cell BM.out 1).trans rfl) d os
          have m2 : ∀ d os, (grow (redrawn w5 d) os).cell? ⟨wr.heap.size, 2, none⟩ = some (.int .i64 s.f2[i].f2.f0) := fun d os => cell_regrown ((blk_cell BM.out 2).trans rfl) d os
          have m3 : ∀ d os, (grow (redrawn w5 d) os).cell? ⟨wr.heap.size, 3, none⟩ = some (.int .i64 s.f2[i].f2.f1) := fun d os => cell_regrown ((blk_cell BM.out 3).trans rfl) d os
          have m4 : ∀ d os, (grow (redrawn w5 d) os).cell? ⟨wr.heap.size, 4, none⟩ = some (.int .i64 s.f2[i].f3) := fun d os => cell_regrown ((blk_cell BM.out 4).trans rfl) d os
          have m5 : ∀ d os, (grow (redrawn w5 d) os).cell? ⟨wr.heap.size, 5, none⟩ = some (.slice A5 s.f2[i].f4.length c5) := fun d os => cell_regrown ((blk_cell BM.out 5).trans rfl) d os
          have m6 : ∀ d os, (grow (redrawn w5 d) os).cell? ⟨wr.heap.size, 6, none⟩ = some (.slice A6 s.f2[i].f5.length c6) := fun d os => cell_regrown ((blk_cell BM.out 6).trans rfl) d os
          cases h1 : boxI s.f2[i] with
          | false =>
            have H1 := Aside0.mk h1
            clear h1
            refine wp_region_quiet_below (by kernel_rfl) (by kernel_rfl) ?_
            repeat (go_big_quiet_step ((first | (go_at_call 80; exact Calls.regrown_of (impl_BoxOk.nice s.f2[i] _ false H1.out _ (k47.K_below (below_regrown w5 _ _) HK6.out) hsb)))))
            refine wpQuiet_nil ?_
            intro w7 hw7
            obtain ⟨p7, hw7⟩ := hw7
            have HB7 := Aside0.mk (show Below w5.heap.size w5 w7 by rw [hw7]; exact below_regrown w5 _ _)
            clear hw7 b0 b1 b2 b3 m0 m1 m2 m3 m4 m5 m6
            have HB8 := Aside0.mk (below_then HB6.out HB6.out.size HB7.out)
            have HN := Aside0.mk (store_not hlt (st_no1 (by rw [boxOkAt_of hlt H1.out rfl rfl rfl rfl]; first | rfl | simp)))
            go_wp2
            go_ret
            exact ⟨by rw [HM.out, HN.out]; rfl, HB8.out⟩
          | true =>
            have H1 := Aside0.mk h1
            clear h1
            have hx : (¬ 0 < i ∧ (decide (i = 0) || decide ((s.f2.getD (i - 1) z47).f0 < s.f2[i].f0)) = true ∧ True) ∨ (0 < i ∧ ∃ q : Bool, decide (s.f2[i].f0 ≤ s.f2[i - 1].f0) = q ∧ (decide (i = 0) || decide ((s.f2.getD (i - 1) z47).f0 < s.f2[i].f0)) = !q) := by
              by_cases h0 : 0 < i
              · refine .inr ⟨h0, _, rfl, ?_⟩
                rw [sprev_of h0 (by omega)]
                by_cases hq : s.f2[i].f0 ≤ s.f2[i - 1].f0
                · rw [decide_eq_true hq, decide_eq_false (by omega)]; rfl
                · rw [decide_eq_false hq, decide_eq_true (by omega)]; rfl
              · exact .inl ⟨h0, sprev_no h0 _, trivial⟩
            rcases hx with ⟨h0, h2, _⟩ | ⟨h0, q, hq, h2⟩
            · have H2 := Aside0.mk h2
              have d0 : decide (0 < i) = false := decide_eq_false h0
              clear h2
              by_cases h3 : boxNamed s.f2 s.f2[i].f1 = i
              rotate_left
              · have H3 := Aside0.mk (decide_eq_false h3)
                have d3 : (boxNamed s.f2 s.f2[i].f1 != (i : Int)) = true := by rw [bne_iff_ne]; exact h3
                clear h3
                refine wp_region_quiet_below (by kernel_rfl) (by kernel_rfl) ?_
                repeat (go_big_quiet_step ((first | (go_at_call 80; exact Calls.regrown_of (impl_BoxOk.nice s.f2[i] _ true H1.out _ (k47.K_below (below_regrown w5 _ _) HK6.out) hsb)) | (go_at_call 107; exact Calls.regrown_of (impl_BoxNamed.calls s _ s.f2[i].f1 _ (k29.K_below (below_regrown w5 _ _) HKS.out))))))
                refine wpQuiet_nil ?_
                intro w7 hw7
                obtain ⟨p7, hw7⟩ := hw7
                have HB7 := Aside0.mk (show Below w5.heap.size w5 w7 by rw [hw7]; exact below_regrown w5 _ _)
                clear hw7 b0 b1 b2 b3 m0 m1 m2 m3 m4 m5 m6
                have HB8 := Aside0.mk (below_then HB6.out HB6.out.size HB7.out)
                have HN := Aside0.mk (store_not hlt (st_no1 (by rw [boxOkAt_of hlt H1.out H2.out H3.out rfl rfl]; first | rfl | simp)))
                go_wp2
                go_ret
                exact ⟨by rw [HM.out, HN.out]; rfl, HB8.out⟩
              have H3 := Aside0.mk (decide_eq_true h3)
              have d3 : (boxNamed s.f2 s.f2[i].f1 != (i : Int)) = false := by rw [bne_eq_false_iff_eq]; exact h3
              clear h3
              cases h4 : hasI s.f3 s.f2[i].f0 with
              | true =>
                have H4 := Aside0.mk h4
                clear h4
                refine wp_region_quiet_below (by kernel_rfl) (by kernel_rfl) ?_
                repeat (go_big_quiet_step ((first | (go_at_call 80; exact Calls.regrown_of (impl_BoxOk.nice s.f2[i] _ true H1.out _ (k47.K_below (below_regrown w5 _ _) HK6.out) hsb)) | (go_at_call 107; exact Calls.regrown_of (impl_BoxNamed.calls s _ s.f2[i].f1 _ (k29.K_below (below_regrown w5 _ _) HKS.out))) | (go_at_call 155; exact Calls.regrown_of (slices_ContainsInt.nice s.f3 A3 c3 s.f2[i].f0 true H4.out _ (Kd.C_below (Kd.C_below G3.out HB6.out) (below_regrown w5 _ _)) l3)))))
                refine wpQuiet_nil ?_
                intro w7 hw7
                obtain ⟨p7, hw7⟩ := hw7
                have HB7 := Aside0.mk (show Below w5.heap.size w5 w7 by rw [hw7]; exact below_regrown w5 _ _)
                clear hw7 b0 b1 b2 b3 m0 m1 m2 m3 m4 m5 m6
                have HB8 := Aside0.mk (below_then HB6.out HB6.out.size HB7.out)
                have HN := Aside0.mk (store_not hlt (st_no1 (by rw [boxOkAt_of hlt H1.out H2.out H3.out H4.out rfl]; first | rfl | simp)))
                go_wp2
                go_ret
                exact ⟨by rw [HM.out, HN.out]; rfl, HB8.out⟩
              | false =>
                have H4 := Aside0.mk h4
                clear h4
                cases h5 : lateI s.f2[i] s.f1 with
                | true =>
                  have H5 := Aside0.mk h5
                  clear h5
                  refine wp_region_quiet_below (by kernel_rfl) (by kernel_rfl) ?_
                  repeat (go_big_quiet_step ((first | (go_at_call 80; exact Calls.regrown_of (impl_BoxOk.nice s.f2[i] _ true H1.out _ (k47.K_below (below_regrown w5 _ _) HK6.out) hsb)) | (go_at_call 107; exact Calls.regrown_of (impl_BoxNamed.calls s _ s.f2[i].f1 _ (k29.K_below (below_regrown w5 _ _) HKS.out))) | (go_at_call 155; exact Calls.regrown_of (slices_ContainsInt.nice s.f3 A3 c3 s.f2[i].f0 false H4.out _ (Kd.C_below (Kd.C_below G3.out HB6.out) (below_regrown w5 _ _)) l3)) | (go_at_call 156; exact Calls.regrown_of (impl_isLate.nice s.f2[i] _ s.f1 true H5.out _ (k47.K_below (below_regrown w5 _ _) HK6.out))))))
                  refine wpQuiet_nil ?_
                  intro w7 hw7
                  obtain ⟨p7, hw7⟩ := hw7
                  have HB7 := Aside0.mk (show Below w5.heap.size w5 w7 by rw [hw7]; exact below_regrown w5 _ _)
                  clear hw7 b0 b1 b2 b3 m0 m1 m2 m3 m4 m5 m6
                  have HB8 := Aside0.mk (below_then HB6.out HB6.out.size HB7.out)
                  have HN := Aside0.mk (store_not hlt (st_no1 (by rw [boxOkAt_of hlt H1.out H2.out H3.out H4.out H5.out]; first | rfl | simp)))
                  go_wp2
                  go_ret
                  exact ⟨by rw [HM.out, HN.out]; rfl, HB8.out⟩
                | false =>
                  have H5 := Aside0.mk h5
                  clear h5
                  refine wp_region_quiet_below (by kernel_rfl) (by kernel_rfl) ?_
                  repeat (go_big_quiet_step ((first | (go_at_call 80; exact Calls.regrown_of (impl_BoxOk.nice s.f2[i] _ true H1.out _ (k47.K_below (below_regrown w5 _ _) HK6.out) hsb)) | (go_at_call 107; exact Calls.regrown_of (impl_BoxNamed.calls s _ s.f2[i].f1 _ (k29.K_below (below_regrown w5 _ _) HKS.out))) | (go_at_call 155; exact Calls.regrown_of (slices_ContainsInt.nice s.f3 A3 c3 s.f2[i].f0 false H4.out _ (Kd.C_below (Kd.C_below G3.out HB6.out) (below_regrown w5 _ _)) l3)) | (go_at_call 156; exact Calls.regrown_of (impl_isLate.nice s.f2[i] _ s.f1 false H5.out _ (k47.K_below (below_regrown w5 _ _) HK6.out))))))
                  refine wpQuiet_nil ?_
                  intro w7 hw7
                  obtain ⟨p7, hw7⟩ := hw7
                  have HB7 := Aside0.mk (show Below w5.heap.size w5 w7 by rw [hw7]; exact below_regrown w5 _ _)
                  clear hw7 b0 b1 b2 b3 m0 m1 m2 m3 m4 m5 m6
                  have HB8 := Aside0.mk (below_then HB6.out HB6.out.size HB7.out)
                  have HOK := Aside0.mk (show boxOkAt s i = true by rw [boxOkAt_of hlt H1.out H2.out H3.out H4.out H5.out]; rfl)
                  have BK7 := Aside0.mk (blk_below BK6.out HB7.out)
                  have BM7 := Aside0.mk (blk_below BM.out HB7.out)
                  have HO7 := Aside0.mk (Kd.R_below HO6.out HB7.out)
                  have h10 := box_small H1.out
                  have h5b : i ≤ 5 := by have := HH.out; unfold storeHead at this; simp only [Bool.and_eq_true, decide_eq_true_eq] at this; omega
                  clear H1 H2 H3 H4 H5
                  generalize wr.heap.size = gb at BM7 ⊢
                  have q5 : w7.cell? ⟨gb, 5, none⟩ = some (.slice A5 s.f2[i].f4.length c5) := (blk_cell BM7.out 5).trans rfl
                  go_wp2
                  clear q5
                  go_loopw [3, 82] (fun v3 v wi => ∃ k : Nat, k ≤ s.f2[i].f4.length ∧ v = .int .i64 k ∧ Aside0 (∀ j, j < k → newAt s i j = true) ∧ Aside0 (Kd.R (Kd.int .i64) 3 wi w.heap.size (fun _ => True) v3 (seenAt s i k)) ∧ Aside0 (Below w.heap.size w wi) ∧ Aside0 (wi.heap[w.heap.size]? = some (.cells #[.int .i64 s.f0, .int .i64 s.f1, .slice (some ad) s.f2.length c2, .slice A3 s.f3.length c3] 29 (0, 0))) ∧ Aside0 (wi.heap[gb]? = some (.cells #[.int .i64 s.f2[i].f0, .string s.f2[i].f1, .int .i64 s.f2[i].f2.f0, .int .i64 s.f2[i].f2.f1, .int .i64 s.f2[i].f3, .slice A5 s.f2[i].f4.length c5, .slice A6 s.f2[i].f5.length c6] 47 (0, 0)))) (fun _ v _ => s.f2[i].f4.length - (intOf v).toNat)
                  case atStart => exact ⟨0, Nat.zero_le _, rfl, ⟨fun j h => absurd h (Nat.not_lt_zero _)⟩, HO7, HB8, BK7, BM7⟩
                  case round =>
                    obtain ⟨k, hk, rfl, HJ, HR, HC, BK9, BM9⟩ := hrel
                    by_cases hlk : k < s.f2[i].f4.length
                    rotate_left
                    · obtain rfl : k = s.f2[i].f4.length := by omega
                      have HN := Aside0.mk (upTo_succ HI.out (st_yes hlt HOK.out HJ.out))
                      have n0_ := HR
                      rw [seen_next hlt] at n0_
                      clear HJ HR
                      go_wp2
                      go_roundw
                      case rel => exact ⟨i + 1, by omega, by go_num, HN, n0_, HC, BK9⟩
                      case measure => simp [intOf]; omega
                    obtain ⟨Av, cv, rfl⟩ := Kd.R_slice HR.out
                    have hlen : (seenAt s i k).length ≤ 60 := by have := seen_len2 (k := k) hi HI.out; omega
                    obtain ⟨ad3, A7, c7, eA3, g0, g1, g2, g3, _⟩ := mail_at (Kd.C_below HF.out HC.out) k hlk
                    subst eA3
                    obtain ⟨wa, hwa⟩ : ∃ wa, wr.alloc (.cells #[.int .i64 s.f2[i].f4[k].f0, .int .i64 s.f2[i].f4[k].f1, .slice A7 s.f2[i].f4[k].f2.length c7, .string s.f2[i].f4[k].f3] 69) = wa := ⟨_, rfl⟩
                    have HBa := Aside0.mk (show Below wr.heap.size wr wa by rw [← hwa]; exact below_alloc (Below.refl _ _) _)
                    have BA := Aside0.mk (show wa.heap[wr.heap.size]? = some (.cells #[.int .i64 s.f2[i].f4[k].f0, .int .i64 s.f2[i].f4[k].f1, .slice A7 s.f2[i].f4[k].f2.length c7, .string s.f2[i].f4[k].f3] 69 (0, 0)) by rw [← hwa]; exact heap_alloc_new wr _)
                    have HWa := Aside0.mk hwa
                    clear hwa
                    have q0 : wa.cell? ⟨wr.heap.size, 0, none⟩ = some (.int .i64 s.f2[i].f4[k].f0) := (blk_cell BA.out 0).trans rfl
                    cases h6 : hasI (seenAt s i k) s.f2[i].f4[k].f0 with
                    | true =>
                      have H6 := Aside0.mk h6
                      clear h6
                      go_upto_region 12 with (fail)
                      rw [HWa.out]
                      clear HWa
                      go_wp2_with fail
                      refine (slices_ContainsInt.nice (seenAt s i k) Av cv s.f2[i].f4[k].f0 true H6.out _ (Kd.R_reads' (Kd.R_below HR.out HBa.out)).2.2 (Kd.R_reads' HR.out).2.1).mono ?_
                      rintro e wc ⟨rfl, hb⟩
                      have HBc := Aside0.mk (below_then HBa.out HBa.out.size hb)
                      have q0' := pw_cell_below hb q0
                      clear q0
                      have HCc := Aside0.mk (below_then HC.out HC.out.size HBc.out)
                      clear hb
                      have HN := Aside0.mk (store_not hlt (st_no2 hlt hlk (by rw [new_of hlt hlk H6.out]; rfl)))
                      go_wp2
                      go_ret
                      exact ⟨by rw [HM.out, HN.out]; rfl, HCc.out⟩
                    | false =>
                      have H6 := Aside0.mk h6
                      clear h6
                      go_upto_region 12 with (fail)
                      rw [HWa.out]
                      clear HWa
                      go_wp2_with fail
                      refine (slices_ContainsInt.nice (seenAt s i k) Av cv s.f2[i].f4[k].f0 false H6.out _ (Kd.R_reads' (Kd.R_below HR.out HBa.out)).2.2 (Kd.R_reads' HR.out).2.1).mono ?_
                      rintro e wc ⟨rfl, hb⟩
                      have HBc := Aside0.mk (below_then HBa.out HBa.out.size hb)
                      have q0' := pw_cell_below hb q0
                      clear q0
                      have HCc := Aside0.mk (below_then HC.out HC.out.size HBc.out)
                      clear hb
                      have HRc := Aside0.mk (Kd.R_below HR.out HBc.out)
                      have BKc := Aside0.mk (blk_below BK9.out HBc.out)
                      have BMc := Aside0.mk (blk_below BM9.out HBc.out)
                      have HN := Aside0.mk (upTo_succ HJ.out (show newAt s i k = true by rw [new_of hlt hlk H6.out]; rfl))
                      clear g1 g2 g3
                      go_wp2_with ((with_reducible refine gate_builtin (b := .append) (xs := #[.tmp 90, .tmp 93]) rfl ?_); at_builtin; refine Kd.R_append (Kd.int .i64) (w0 := w) w.heap.size rfl (.tmp 90) (.tmp 93) 23 3 (.int .i64 0) 8 rfl Try.underlying23 info3 rfl (by decide) (by omega) (.slice Av (seenAt s i k).length cv) (seenAt s i k) s.f2[i].f4[k].f0 [.int .i64 s.f2[i].f4[k].f0] (fun _ => True) (fun _ => False) rfl rfl rfl (fun _ hk => hk.elim) (fun _ _ => trivial) HRc.out HCc.out HCc.out.size (by omega) ?_; intro v1 wd hr1 hb1 hg1 hat1; have HRd := Aside0.mk hr1; have HCd := Aside0.mk hb1; have BKd := Aside0.mk (blk_grown BKc.out hg1 (Kd.R_ne HRc.out BKc.out (by decide))); have BMd := Aside0.mk (blk_grown BMc.out hg1 (Kd.R_ne HRc.out BMc.out (by decide))); clear hr1 hb1 hg1 hat1)
                      rw [seen_succ hlt hlk] at HRd
                      go_roundw
                      case rel => exact ⟨k + 1, by omega, by go_num, HN, HRd, HCd, BKd, BMd⟩
                      case measure => simp [intOf]; omega
            · have H2 := Aside0.mk h2
              have d0 : decide (0 < i) = true := decide_eq_true h0
              clear h2
              obtain ⟨ad2, _, _, _, _, eA2, f0, _⟩ := box_at (Kd.C_below G2.out HB6.out) (i - 1) (by omega)
              obtain rfl : ad = ad2 := Option.some.inj eA2
              have p1 : ∀ d os, (grow (redrawn w5 d) os).cell? (ad.add ((i - 1) * 7)) = some (.int .i64 s.f2[i - 1].f0) := fun d os => cell_regrown f0 d os
              clear f0 eA2
              cases q with
              | true =>
                refine wp_region_quiet_below (by kernel_rfl) (by kernel_rfl) ?_
                repeat (go_big_quiet_step ((first | (go_at_call 80; exact Calls.regrown_of (impl_BoxOk.nice s.f2[i] _ true H1.out _ (k47.K_below (below_regrown w5 _ _) HK6.out) hsb)))))
                refine wpQuiet_nil ?_
                intro w7 hw7
                obtain ⟨p7, hw7⟩ := hw7
                have HB7 := Aside0.mk (show Below w5.heap.size w5 w7 by rw [hw7]; exact below_regrown w5 _ _)
                clear hw7 b0 b1 b2 b3 m0 m1 m2 m3 m4 m5 m6
                have HB8 := Aside0.mk (below_then HB6.out HB6.out.size HB7.out)
                clear p1
                have HN := Aside0.mk (store_not hlt (st_no1 (by rw [boxOkAt_of hlt H1.out H2.out rfl rfl rfl]; first | rfl | simp)))
                go_wp2
                go_ret
                exact ⟨by rw [HM.out, HN.out]; rfl, HB8.out⟩
              | false =>
                by_cases h3 : boxNamed s.f2 s.f2[i].f1 = i
                rotate_left
                · have H3 := Aside0.mk (decide_eq_false h3)
                  have d3 : (boxNamed s.f2 s.f2[i].f1 != (i : Int)) = true := by rw [bne_iff_ne]; exact h3
                  clear h3
                  refine wp_region_quiet_below (by kernel_rfl) (by kernel_rfl) ?_
                  repeat (go_big_quiet_step ((first | (go_at_call 80; exact Calls.regrown_of (impl_BoxOk.nice s.f2[i] _ true H1.out _ (k47.K_below (below_regrown w5 _ _) HK6.out) hsb)) | (go_at_call 107; exact Calls.regrown_of (impl_BoxNamed.calls s _ s.f2[i].f1 _ (k29.K_below (below_regrown w5 _ _) HKS.out))))))
                  refine wpQuiet_nil ?_
                  intro w7 hw7
                  obtain ⟨p7, hw7⟩ := hw7
                  have HB7 := Aside0.mk (show Below w5.heap.size w5 w7 by rw [hw7]; exact below_regrown w5 _ _)
                  clear hw7 b0 b1 b2 b3 m0 m1 m2 m3 m4 m5 m6
                  have HB8 := Aside0.mk (below_then HB6.out HB6.out.size HB7.out)
                  have HN := Aside0.mk (store_not hlt (st_no1 (by rw [boxOkAt_of hlt H1.out H2.out H3.out rfl rfl]; first | rfl | simp)))
                  go_wp2
                  go_ret
                  exact ⟨by rw [HM.out, HN.out]; rfl, HB8.out⟩
                have H3 := Aside0.mk (decide_eq_true h3)
                have d3 : (boxNamed s.f2 s.f2[i].f1 != (i : Int)) = false := by rw [bne_eq_false_iff_eq]; exact h3
                clear h3
                cases h4 : hasI s.f3 s.f2[i].f0 with
                | true =>
                  have H4 := Aside0.mk h4
                  clear h4
                  refine wp_region_quiet_below (by kernel_rfl) (by kernel_rfl) ?_
                  repeat (go_big_quiet_step ((first | (go_at_call 80; exact Calls.regrown_of (impl_BoxOk.nice s.f2[i] _ true H1.out _ (k47.K_below (below_regrown w5 _ _) HK6.out) hsb)) | (go_at_call 107; exact Calls.regrown_of (impl_BoxNamed.calls s _ s.f2[i].f1 _ (k29.K_below (below_regrown w5 _ _) HKS.out))) | (go_at_call 155; exact Calls.regrown_of (slices_ContainsInt.nice s.f3 A3 c3 s.f2[i].f0 true H4.out _ (Kd.C_below (Kd.C_below G3.out HB6.out) (below_regrown w5 _ _)) l3)))))
                  refine wpQuiet_nil ?_
                  intro w7 hw7
                  obtain ⟨p7, hw7⟩ := hw7
                  have HB7 := Aside0.mk (show Below w5.heap.size w5 w7 by rw [hw7]; exact below_regrown w5 _ _)
                  clear hw7 b0 b1 b2 b3 m0 m1 m2 m3 m4 m5 m6
                  have HB8 := Aside0.mk (below_then HB6.out HB6.out.size HB7.out)
                  have HN := Aside0.mk (store_not hlt (st_no1 (by rw [boxOkAt_of hlt H1.out H2.out H3.out H4.out rfl]; first | rfl | simp)))
                  go_wp2
                  go_ret
                  exact ⟨by rw [HM.out, HN.out]; rfl, HB8.out⟩
                | false =>
                  have H4 := Aside0.mk h4
                  clear h4
                  cases h5 : lateI s.f2[i] s.f1 with
                  | true =>
                    have H5 := Aside0.mk h5
                    clear h5
                    refine wp_region_quiet_below (by kernel_rfl) (by kernel_rfl) ?_
                    repeat (go_big_quiet_step ((first | (go_at_call 80; exact Calls.regrown_of (impl_BoxOk.nice s.f2[i] _ true H1.out _ (k47.K_below (below_regrown w5 _ _) HK6.out) hsb)) | (go_at_call 107; exact Calls.regrown_of (impl_BoxNamed.calls s _ s.f2[i].f1 _ (k29.K_below (below_regrown w5 _ _) HKS.out))) | (go_at_call 155; exact Calls.regrown_of (slices_ContainsInt.nice s.f3 A3 c3 s.f2[i].f0 false H4.out _ (Kd.C_below (Kd.C_below G3.out HB6.out) (below_regrown w5 _ _)) l3)) | (go_at_call 156; exact Calls.regrown_of (impl_isLate.nice s.f2[i] _ s.f1 true H5.out _ (k47.K_below (below_regrown w5 _ _) HK6.out))))))
                    refine wpQuiet_nil ?_
                    intro w7 hw7
                    obtain ⟨p7, hw7⟩ := hw7
                    have HB7 := Aside0.mk (show Below w5.heap.size w5 w7 by rw [hw7]; exact below_regrown w5 _ _)
                    clear hw7 b0 b1 b2 b3 m0 m1 m2 m3 m4 m5 m6
                    have HB8 := Aside0.mk (below_then HB6.out HB6.out.size HB7.out)
                    have HN := Aside0.mk (store_not hlt (st_no1 (by rw [boxOkAt_of hlt H1.out H2.out H3.out H4.out H5.out]; first | rfl | simp)))
                    go_wp2
                    go_ret
                    exact ⟨by rw [HM.out, HN.out]; rfl, HB8.out⟩
                  | false =>
                    have H5 := Aside0.mk h5
                    clear h5
                    refine wp_region_quiet_below (by kernel_rfl) (by kernel_rfl) ?_
                    repeat (go_big_quiet_step ((first | (go_at_call 80; exact Calls.regrown_of (impl_BoxOk.nice s.f2[i] _ true H1.out _ (k47.K_below (below_regrown w5 _ _) HK6.out) hsb)) | (go_at_call 107; exact Calls.regrown_of (impl_BoxNamed.calls s _ s.f2[i].f1 _ (k29.K_below (below_regrown w5 _ _) HKS.out))) | (go_at_call 155; exact Calls.regrown_of (slices_ContainsInt.nice s.f3 A3 c3 s.f2[i].f0 false H4.out _ (Kd.C_below (Kd.C_below G3.out HB6.out) (below_regrown w5 _ _)) l3)) | (go_at_call 156; exact Calls.regrown_of (impl_isLate.nice s.f2[i] _ s.f1 false H5.out _ (k47.K_below (below_regrown w5 _ _) HK6.out))))))
                    refine wpQuiet_nil ?_
                    intro w7 hw7
                    obtain ⟨p7, hw7⟩ := hw7
                    have HB7 := Aside0.mk (show Below w5.heap.size w5 w7 by rw [hw7]; exact below_regrown w5 _ _)
                    clear hw7 b0 b1 b2 b3 m0 m1 m2 m3 m4 m5 m6
                    have HB8 := Aside0.mk (below_then HB6.out HB6.out.size HB7.out)
                    have HOK := Aside0.mk (show boxOkAt s i = true by rw [boxOkAt_of hlt H1.out H2.out H3.out H4.out H5.out]; rfl)
                    have BK7 := Aside0.mk (blk_below BK6.out HB7.out)
                    have BM7 := Aside0.mk (blk_below BM.out HB7.out)
                    have HO7 := Aside0.mk (Kd.R_below HO6.out HB7.out)
                    have h10 := box_small H1.out
                    have h5b : i ≤ 5 := by have := HH.out; unfold storeHead at this; simp only [Bool.and_eq_true, decide_eq_true_eq] at this; omega
                    clear H1 H2 H3 H4 H5
                    generalize wr.heap.size = gb at BM7 ⊢
                    have q5 : w7.cell? ⟨gb, 5, none⟩ = some (.slice A5 s.f2[i].f4.length c5) := (blk_cell BM7.out 5).trans rfl
                    go_wp2
                    clear q5
                    go_loopw [3, 82] (fun v3 v wi => ∃ k : Nat, k ≤ s.f2[i].f4.length ∧ v = .int .i64 k ∧ Aside0 (∀ j, j < k → newAt s i j = true) ∧ Aside0 (Kd.R (Kd.int .i64) 3 wi w.heap.size (fun _ => True) v3 (seenAt s i k)) ∧ Aside0 (Below w.heap.size w wi) ∧ Aside0 (wi.heap[w.heap.size]? = some (.cells #[.int .i64 s.f0, .int .i64 s.f1, .slice (some ad) s.f2.length c2, .slice A3 s.f3.length c3] 29 (0, 0))) ∧ Aside0 (wi.heap[gb]? = some (.cells #[.int .i64 s.f2[i].f0, .string s.f2[i].f1, .int .i64 s.f2[i].f2.f0, .int .i64 s.f2[i].f2.f1, .int .i64 s.f2[i].f3, .slice A5 s.f2[i].f4.length c5, .slice A6 s.f2[i].f5.length c6] 47 (0, 0)))) (fun _ v _ => s.f2[i].f4.length - (intOf v).toNat)
                    case atStart => exact ⟨0, Nat.zero_le _, rfl, ⟨fun j h => absurd h (Nat.not_lt_zero _)⟩, HO7, HB8, BK7, BM7⟩
                    case round =>
                      obtain ⟨k, hk, rfl, HJ, HR, HC, BK9, BM9⟩ := hrel
                      by_cases hlk : k < s.f2[i].f4.length
                      rotate_left
                      · obtain rfl : k = s.f2[i].f4.length := by omega
                        have HN := Aside0.mk (upTo_succ HI.out (st_yes hlt HOK.out HJ.out))
                        have n0_ := HR
                        rw [seen_next hlt] at n0_
                        clear HJ HR
                        go_wp2
                        go_roundw
                        case rel => exact ⟨i + 1, by omega, by go_num, HN, n0_, HC, BK9⟩
                        case measure => simp [intOf]; omega
                      obtain ⟨Av, cv, rfl⟩ := Kd.R_slice HR.out
                      have hlen : (seenAt s i k).length ≤ 60 := by have := seen_len2 (k := k) hi HI.out; omega
                      obtain ⟨ad3, A7, c7, eA3, g0, g1, g2, g3, _⟩ := mail_at (Kd.C_below HF.out HC.out) k hlk
                      subst eA3
                      obtain ⟨wa, hwa⟩ : ∃ wa, wr.alloc (.cells #[.int .i64 s.f2[i].f4[k].f0, .int .i64 s.f2[i].f4[k].f1, .slice A7 s.f2[i].f4[k].f2.length c7, .string s.f2[i].f4[k].f3] 69) = wa := ⟨_, rfl⟩
                      have HBa := Aside0.mk (show Below wr.heap.size wr wa by rw [← hwa]; exact below_alloc (Below.refl _ _) _)
                      have BA := Aside0.mk (show wa.heap[wr.heap.size]? = some (.cells #[.int .i64 s.f2[i].f4[k].f0, .int .i64 s.f2[i].f4[k].f1, .slice A7 s.f2[i].f4[k].f2.length c7, .string s.f2[i].f4[k].f3] 69 (0, 0)) by rw [← hwa]; exact heap_alloc_new wr _)
                      have HWa := Aside0.mk hwa
                      clear hwa
                      have q0 : wa.cell? ⟨wr.heap.size, 0, none⟩ = some (.int .i64 s.f2[i].f4[k].f0) := (blk_cell BA.out 0).trans rfl
                      cases h6 : hasI (seenAt s i k) s.f2[i].f4[k].f0 with
                      | true =>
                        have H6 := Aside0.mk h6
                        clear h6
                        go_upto_region 12 with (fail)
                        rw [HWa.out]
                        clear HWa
                        go_wp2_with fail
                        refine (slices_ContainsInt.nice (seenAt s i k) Av cv s.f2[i].f4[k].f0 true H6.out _ (Kd.R_reads' (Kd.R_below HR.out HBa.out)).2.2 (Kd.R_reads' HR.out).2.1).mono ?_
                        rintro e wc ⟨rfl, hb⟩
                        have HBc := Aside0.mk (below_then HBa.out HBa.out.size hb)
                        have q0' := pw_cell_below hb q0
                        clear q0
                        have HCc := Aside0.mk (below_then HC.out HC.out.size HBc.out)
                        clear hb
                        have HN := Aside0.mk (store_not hlt (st_no2 hlt hlk (by rw [new_of hlt hlk H6.out]; rfl)))
                        go_wp2
                        go_ret
                        exact ⟨by rw [HM.out, HN.out]; rfl, HCc.out⟩
                      | false =>
                        have H6 := Aside0.mk h6
                        clear h6
                        go_upto_region 12 with (fail)
                        rw [HWa.out]
                        clear HWa
                        go_wp2_with fail
                        refine (slices_ContainsInt.nice (seenAt s i k) Av cv s.f2[i].f4[k].f0 false H6.out _ (Kd.R_reads' (Kd.R_below HR.out HBa.out)).2.2 (Kd.R_reads' HR.out).2.1).mono ?_
                        rintro e wc ⟨rfl, hb⟩
                        have HBc := Aside0.mk (below_then HBa.out HBa.out.size hb)
                        have q0' := pw_cell_below hb q0
                        clear q0
                        have HCc := Aside0.mk (below_then HC.out HC.out.size HBc.out)
                        clear hb
                        have HRc := Aside0.mk (Kd.R_below HR.out HBc.out)
                        have BKc := Aside0.mk (blk_below BK9.out HBc.out)
                        have BMc := Aside0.mk (blk_below BM9.out HBc.out)
                        have HN := Aside0.mk (upTo_succ HJ.out (show newAt s i k = true by rw [new_of hlt hlk H6.out]; rfl))
                        clear g1 g2 g3
                        go_wp2_with ((with_reducible refine gate_builtin (b := .append) (xs := #[.tmp 90, .tmp 93]) rfl ?_); at_builtin; refine Kd.R_append (Kd.int .i64) (w0 := w) w.heap.size rfl (.tmp 90) (.tmp 93) 23 3 (.int .i64 0) 8 rfl Try.underlying23 info3 rfl (by decide) (by omega) (.slice Av (seenAt s i k).length cv) (seenAt s i k) s.f2[i].f4[k].f0 [.int .i64 s.f2[i].f4[k].f0] (fun _ => True) (fun _ => False) rfl rfl rfl (fun _ hk => hk.elim) (fun _ _ => trivial) HRc.out HCc.out HCc.out.size (by omega) ?_; intro v1 wd hr1 hb1 hg1 hat1; have HRd := Aside0.mk hr1; have HCd := Aside0.mk hb1; have BKd := Aside0.mk (blk_grown BKc.out hg1 (Kd.R_ne HRc.out BKc.out (by decide))); have BMd := Aside0.mk (blk_grown BMc.out hg1 (Kd.R_ne HRc.out BMc.out (by decide))); clear hr1 hb1 hg1 hat1)
                        rw [seen_succ hlt hlk] at HRd
                        go_roundw
                        case rel => exact ⟨k + 1, by omega, by go_num, HN, HRd, HCd, BKd, BMd⟩
                        case measure => simp [intOf]; omega
end Go.Proofs.Ytjheiahfhknakaa.G
