/- What reads as one value is found equal (eqStore and its kin). Condition: both can be read. -/
import Derived.Test.YtjheiahfhknakaaRead4
import Derived.Lib.QuietBelow
import Derived.BigQuiet
import Derived.Outline
namespace Go.Proofs.Ytjheiahfhknakaa.G
open Go.Sort Go.RowKit Go.Proofs.YtjheiahfhknakaaW.PrintWords Go.Proofs.YtjheiahfhknakaaW.PrintLast Go.Proofs.YtjheiahfhknakaaW.PrintMore
set_option linter.unusedVariables false
set_option linter.unusedSimpArgs false
theorem laws_eqStamp.same (s : S44) (w : World) : Calls Try.prog 117 #[.agg #[.int .i64 s.f0, .int .i64 s.f1], .agg #[.int .i64 s.f0, .int .i64 s.f1]] w fun e w' => e = .returned (.bool true) ∧ Below w.heap.size w w' := by
  go_enter Try.func117, Try.ntmps117
  go_wp2
  go_ret
  exact ⟨rfl, below_alloc (below_alloc (Below.refl _ _) _) _⟩
theorem laws_eqReg.same (r : S146) (w : World) : Calls Try.prog 185 #[.agg #[.int .i64 r.f0, .int .i64 r.f1.f0, .int .i64 r.f1.f1], .agg #[.int .i64 r.f0, .int .i64 r.f1.f0, .int .i64 r.f1.f1]] w fun e w' => e = .returned (.bool true) ∧ Below w.heap.size w w' := by
  obtain ⟨w1, hw1⟩ : ∃ w1, (w.alloc (.cells #[.int .i64 r.f0, .int .i64 r.f1.f0, .int .i64 r.f1.f1] 146)).alloc (.cells #[.int .i64 r.f0, .int .i64 r.f1.f0, .int .i64 r.f1.f1] 146) = w1 := ⟨_, rfl⟩
  have BA := Aside0.mk (show w1.heap[w.heap.size]? = some (.cells #[.int .i64 r.f0, .int .i64 r.f1.f0, .int .i64 r.f1.f1] 146 (0, 0)) by rw [← hw1]; refine blk_alloc ?_ _; exact heap_alloc_new w _)
  have BB := Aside0.mk (show w1.heap[w.heap.size + 1]? = some (.cells #[.int .i64 r.f0, .int .i64 r.f1.f0, .int .i64 r.f1.f1] 146 (0, 0)) by rw [← hw1]; simpa using heap_alloc_new (w.alloc (.cells #[.int .i64 r.f0, .int .i64 r.f1.f0, .int .i64 r.f1.f1] 146)) (.cells #[.int .i64 r.f0, .int .i64 r.f1.f0, .int .i64 r.f1.f1] 146))
  have HB := Aside0.mk (show Below w.heap.size w w1 by rw [← hw1]; exact below_alloc (below_alloc (Below.refl _ _) _) _)
  have HW := Aside0.mk hw1
  clear hw1
  go_enter Try.func185, Try.ntmps185
  go_wp2_with fail
  rw [HW.out]
  clear HW
  refine (laws_eqStamp.same r.f1 w1).mono ?_
  rintro e w2 ⟨rfl, hb⟩
  have HB2 := Aside0.mk (below_then HB.out HB.out.size hb)
  clear hb
  go_wp2
  go_ret
  exact ⟨rfl, HB2.out⟩
set_option maxRecDepth 100000 in
set_option maxHeartbeats 4000000 in
theorem laws_eqRegS.same (l : List S146) (A B : Option Addr) (c d : Nat) (w : World) (h1 : Kd.C k146 w A l.length l) (h2 : Kd.C k146 w B l.length l) : Calls Try.prog 133 #[.slice A l.length c, .slice B l.length d] w fun e w' => e = .returned (.bool true) ∧ Below w.heap.size w w' := by
  have HA := Aside0.mk h1
  have HC := Aside0.mk h2
  have hmx := Kd.C_max h1
  clear h1 h2
  go_enter Try.func133, Try.ntmps133
  go_wp2
  go_loopw [5] (fun v wr => ∃ i : Nat, i ≤ l.length ∧ v = .int .i64 i ∧ Aside0 (Below w.heap.size w wr)) (fun v _ => l.length - (intOf v).toNat)
  case atStart => exact ⟨0, Nat.zero_le _, rfl, ⟨Below.refl _ _⟩⟩
  case round =>
    obtain ⟨i, hi, rfl, HB⟩ := hrel
    by_cases hlt : i < l.length
    rotate_left
    · obtain rfl : i = l.length := by omega
      go_wp2
      go_ret
      exact ⟨rfl, HB.out⟩
    obtain ⟨ad, eA, e0, e1, e2⟩ := reg_at (Kd.C_below HA.out HB.out) i hlt
    obtain ⟨bd, eB, f0, f1, f2⟩ := reg_at (Kd.C_below HC.out HB.out) i hlt
    subst eA eB
    have eg0 : ∀ d_ os, (grow (redrawn wr d_) os).cell? (ad.add (i * 3)) = some (.int .i64 l[i].f0) := fun d_ os => cell_regrown e0 d_ os
    have eg1 : ∀ d_ os, (grow (redrawn wr d_) os).cell? ⟨(ad.add (i * 3)).block, (ad.add (i * 3)).off + 1, none⟩ = some (.int .i64 l[i].f1.f0) := fun d_ os => cell_regrown e1 d_ os
    have eg2 : ∀ d_ os, (grow (redrawn wr d_) os).cell? ⟨(ad.add (i * 3)).block, (ad.add (i * 3)).off + 2, none⟩ = some (.int .i64 l[i].f1.f1) := fun d_ os => cell_regrown e2 d_ os
    have fg0 : ∀ d_ os, (grow (redrawn wr d_) os).cell? (bd.add (i * 3)) = some (.int .i64 l[i].f0) := fun d_ os => cell_regrown f0 d_ os
    have fg1 : ∀ d_ os, (grow (redrawn wr d_) os).cell? ⟨(bd.add (i * 3)).block, (bd.add (i * 3)).off + 1, none⟩ = some (.int .i64 l[i].f1.f0) := fun d_ os => cell_regrown f1 d_ os
    have fg2 : ∀ d_ os, (grow (redrawn wr d_) os).cell? ⟨(bd.add (i * 3)).block, (bd.add (i * 3)).off + 2, none⟩ = some (.int .i64 l[i].f1.f1) := fun d_ os => cell_regrown f2 d_ os
    clear e0 f0 e1 f1 e2 f2
    go_wp2
    refine wp_region_quiet_below (by kernel_rfl) (by kernel_rfl) ?_
    repeat (go_big_quiet_step ((go_at_call 185; exact Calls.regrown_of (laws_eqReg.same l[i] _))))
    refine wpQuiet_nil ?_
    intro w7 hw7
    obtain ⟨p7, hw7⟩ := hw7
    have HB7 := Aside0.mk (below_then HB.out HB.out.size (show Below wr.heap.size wr w7 by rw [hw7]; exact below_regrown wr _ _))
    clear hw7 eg0 fg0 eg1 fg1 eg2 fg2
    go_wp2
    go_roundw
    case rel => exact ⟨i + 1, by omega, by go_num, HB7⟩
    case measure => simp [intOf]; omega
set_option maxRecDepth 100000 in
set_option maxHeartbeats 4000000 in
theorem laws_eqMail.same (m : S69) (cs ds : Array Value) (w : World) (h1 : k69.K w m cs.toList) (h2 : k69.K w m ds.toList) : Calls Try.prog 44 #[.agg cs, .agg ds] w fun e w' => e = .returned (.bool true) ∧ Below w.heap.size w w' := by
  obtain ⟨A2, c2, e, l2, g2⟩ := k69_open h1
  obtain rfl : cs = _ := Array.ext' e
  obtain ⟨B2, d2, e_, l3, g3⟩ := k69_open h2
  obtain rfl : ds = _ := Array.ext' e_
  have Gg2 := Aside0.mk g2
  clear g2
  have Gg3 := Aside0.mk g3
  clear g3
  clear h1 h2 e e_
  obtain ⟨w1, hw1⟩ : ∃ w1, (w.alloc (.cells #[.int .i64 m.f0, .int .i64 m.f1, .slice A2 m.f2.length c2, .string m.f3] 69)).alloc (.cells #[.int .i64 m.f0, .int .i64 m.f1, .slice B2 m.f2.length d2, .string m.f3] 69) = w1 := ⟨_, rfl⟩
  have BA := Aside0.mk (show w1.heap[w.heap.size]? = some (.cells #[.int .i64 m.f0, .int .i64 m.f1, .slice A2 m.f2.length c2, .string m.f3] 69 (0, 0)) by rw [← hw1]; refine blk_alloc ?_ _; exact heap_alloc_new w _)
  have BB := Aside0.mk (show w1.heap[w.heap.size + 1]? = some (.cells #[.int .i64 m.f0, .int .i64 m.f1, .slice B2 m.f2.length d2, .string m.f3] 69 (0, 0)) by rw [← hw1]; simpa using heap_alloc_new (w.alloc (.cells #[.int .i64 m.f0, .int .i64 m.f1, .slice A2 m.f2.length c2, .string m.f3] 69)) (.cells #[.int .i64 m.f0, .int .i64 m.f1, .slice B2 m.f2.length d2, .string m.f3] 69))
  have HB := Aside0.mk (show Below w.heap.size w w1 by rw [← hw1]; exact below_alloc (below_alloc (Below.refl _ _) _) _)
  have HW := Aside0.mk hw1
  clear hw1
  go_enter Try.func44, Try.ntmps44
  go_wp2_with fail
  rw [HW.out]
  clear HW
  refine (laws_eqRegS.same m.f2 A2 B2 c2 d2 w1 (Kd.C_below Gg2.out HB.out) (Kd.C_below Gg3.out HB.out)).mono ?_
  rintro e w2 ⟨rfl, hb⟩
  have n0_ := Aside0.mk (blk_below BA.out hb)
  have n1_ := Aside0.mk (blk_below BB.out hb)
  have n2_ := Aside0.mk (below_then HB.out HB.out.size hb)
  clear BA BB HB hb
  have BA := n0_
  have BB := n1_
  have HB := n2_
  clear n0_ n1_ n2_
  have a0 : w2.cell? ⟨w.heap.size, 0, none⟩ = some (.int .i64 m.f0) := (blk_cell BA.out 0).trans rfl
  have b0 : w2.cell? ⟨w.heap.size + 1, 0, none⟩ = some (.int .i64 m.f0) := (blk_cell BB.out 0).trans rfl
  have a1 : w2.cell? ⟨w.heap.size, 1, none⟩ = some (.int .i64 m.f1) := (blk_cell BA.out 1).trans rfl
  have b1 : w2.cell? ⟨w.heap.size + 1, 1, none⟩ = some (.int .i64 m.f1) := (blk_cell BB.out 1).trans rfl
  have a2 : w2.cell? ⟨w.heap.size, 2, none⟩ = some (.slice A2 m.f2.length c2) := (blk_cell BA.out 2).trans rfl
  have b2 : w2.cell? ⟨w.heap.size + 1, 2, none⟩ = some (.slice B2 m.f2.length d2) := (blk_cell BB.out 2).trans rfl
  have a3 : w2.cell? ⟨w.heap.size, 3, none⟩ = some (.string m.f3) := (blk_cell BA.out 3).trans rfl
  have b3 : w2.cell? ⟨w.heap.size + 1, 3, none⟩ = some (.string m.f3) := (blk_cell BB.out 3).trans rfl
  go_wp2
  go_ret
  exact ⟨rfl, HB.out⟩
set_option maxRecDepth 100000 in
set_option maxHeartbeats 4000000 in
theorem laws_eqMailS.same (l : List S69) (A B : Option Addr) (c d : Nat) (w : World) (h1 : Kd.C k69 w A l.length l) (h2 : Kd.C k69 w B l.length l) : Calls Try.prog 118 #[.slice A l.length c, .slice B l.length d] w fun e w' => e = .returned (.bool true) ∧ Below w.heap.size w w' := by
  have HA := Aside0.mk h1
  have HC := Aside0.mk h2
  have hmx := Kd.C_max h1
  clear h1 h2
  go_enter Try.func118, Try.ntmps118
  go_wp2
  go_loopw [5] (fun v wr => ∃ i : Nat, i ≤ l.length ∧ v = .int .i64 i ∧ Aside0 (Below w.heap.size w wr)) (fun v _ => l.length - (intOf v).toNat)
  case atStart => exact ⟨0, Nat.zero_le _, rfl, ⟨Below.refl _ _⟩⟩
  case round =>
    obtain ⟨i, hi, rfl, HB⟩ := hrel
    by_cases hlt : i < l.length
    rotate_left
    · obtain rfl : i = l.length := by omega
      go_wp2
      go_ret
      exact ⟨rfl, HB.out⟩
    obtain ⟨ad, A2, c2, eA, e0, e1, e2, e3, hK⟩ := mail_at (Kd.C_below HA.out HB.out) i hlt
    obtain ⟨bd, B2, d2, eB, f0, f1, f2, f3, hL⟩ := mail_at (Kd.C_below HC.out HB.out) i hlt
    subst eA eB
    have HK := Aside0.mk hK
    have HL := Aside0.mk hL
    clear hK hL
    have eg0 : ∀ d_ os, (grow (redrawn wr d_) os).cell? (ad.add (i * 4)) = some (.int .i64 l[i].f0) := fun d_ os => cell_regrown e0 d_ os
    have eg1 : ∀ d_ os, (grow (redrawn wr d_) os).cell? ⟨(ad.add (i * 4)).block, (ad.add (i * 4)).off + 1, none⟩ = some (.int .i64 l[i].f1) := fun d_ os => cell_regrown e1 d_ os
    have eg2 : ∀ d_ os, (grow (redrawn wr d_) os).cell? ⟨(ad.add (i * 4)).block, (ad.add (i * 4)).off + 2, none⟩ = some (.slice A2 l[i].f2.length c2) := fun d_ os => cell_regrown e2 d_ os
    have eg3 : ∀ d_ os, (grow (redrawn wr d_) os).cell? ⟨(ad.add (i * 4)).block, (ad.add (i * 4)).off + 3, none⟩ = some (.string l[i].f3) := fun d_ os => cell_regrown e3 d_ os
    have fg0 : ∀ d_ os, (grow (redrawn wr d_) os).cell? (bd.add (i * 4)) = some (.int .i64 l[i].f0) := fun d_ os => cell_regrown f0 d_ os
    have fg1 : ∀ d_ os, (grow (redrawn wr d_) os).cell? ⟨(bd.add (i * 4)).block, (bd.add (i * 4)).off + 1, none⟩ = some (.int .i64 l[i].f1) := fun d_ os => cell_regrown f1 d_ os
    have fg2 : ∀ d_ os, (grow (redrawn wr d_) os).cell? ⟨(bd.add (i * 4)).block, (bd.add (i * 4)).off + 2, none⟩ = some (.slice B2 l[i].f2.length d2) := fun d_ os => cell_regrown f2 d_ os
    have fg3 : ∀ d_ os, (grow (redrawn wr d_) os).cell? ⟨(bd.add (i * 4)).block, (bd.add (i * 4)).off + 3, none⟩ = some (.string l[i].f3) := fun d_ os => cell_regrown f3 d_ os
    clear e0 f0 e1 f1 e2 f2 e3 f3
    go_wp2
    refine wp_region_quiet_below (by kernel_rfl) (by kernel_rfl) ?_
    repeat (go_big_quiet_step ((go_at_call 44; exact Calls.regrown_of (laws_eqMail.same l[i] _ _ _ (k69.K_below (below_regrown wr _ _) HK.out) (k69.K_below (below_regrown wr _ _) HL.out)))))
    refine wpQuiet_nil ?_
    intro w7 hw7
    obtain ⟨p7, hw7⟩ := hw7
    have HB7 := Aside0.mk (below_then HB.out HB.out.size (show Below wr.heap.size wr w7 by rw [hw7]; exact below_regrown wr _ _))
    clear hw7 eg0 fg0 eg1 fg1 eg2 fg2 eg3 fg3
    go_wp2
    go_roundw
    case rel => exact ⟨i + 1, by omega, by go_num, HB7⟩
    case measure => simp [intOf]; omega
set_option maxRecDepth 100000 in
set_option maxHeartbeats 4000000 in
theorem laws_eqIntS.same (l : List Int) (A B : Option Addr) (c d : Nat) (w : World) (h1 : Kd.C (Kd.int .i64) w A l.length l) (h2 : Kd.C (Kd.int .i64) w B l.length l) : Calls Try.prog 98 #[.slice A l.length c, .slice B l.length d] w fun e w' => e = .returned (.bool true) ∧ Below w.heap.size w w' := by
  have HA := Aside0.mk h1
  have HC := Aside0.mk h2
  have hmx := Kd.C_max h1
  clear h1 h2
  go_enter Try.func98, Try.ntmps98
  go_wp2
  go_loopw [5] (fun v wr => ∃ i : Nat, i ≤ l.length ∧ v = .int .i64 i ∧ Aside0 (Below w.heap.size w wr)) (fun v _ => l.length - (intOf v).toNat)
  case atStart => exact ⟨0, Nat.zero_le _, rfl, ⟨Below.refl _ _⟩⟩
  case round =>
    obtain ⟨i, hi, rfl, HB⟩ := hrel
    by_cases hlt : i < l.length
    rotate_left
    · obtain rfl : i = l.length := by omega
      go_wp2
      go_ret
      exact ⟨rfl, HB.out⟩
    obtain ⟨ad, eA, e0⟩ := int_at (Kd.C_below HA.out HB.out) i hlt
    obtain ⟨bd, eB, f0⟩ := int_at (Kd.C_below HC.out HB.out) i hlt
    subst eA eB
    have eg0 : ∀ d_ os, (grow (redrawn wr d_) os).cell? (ad.add i) = some (.int .i64 l[i]) := fun d_ os => cell_regrown e0 d_ os
    have fg0 : ∀ d_ os, (grow (redrawn wr d_) os).cell? (bd.add i) = some (.int .i64 l[i]) := fun d_ os => cell_regrown f0 d_ os
    clear e0 f0
    go_wp2
    refine wp_region_quiet_below (by kernel_rfl) (by kernel_rfl) ?_
    repeat (go_big_quiet_step (fail))
    refine wpQuiet_nil ?_
    intro w7 hw7
    obtain ⟨p7, hw7⟩ := hw7
    have HB7 := Aside0.mk (below_then HB.out HB.out.size (show Below wr.heap.size wr w7 by rw [hw7]; exact below_regrown wr _ _))
    clear hw7 eg0 fg0
    go_wp2
    go_roundw
    case rel => exact ⟨i + 1, by omega, by go_num, HB7⟩
    case measure => simp [intOf]; omega
set_option maxRecDepth 100000 in
set_option maxHeartbeats 4000000 in
theorem laws_eqBox.same (b : S47) (cs ds : Array Value) (w : World) (h1 : k47.K w b cs.toList) (h2 : k47.K w b ds.toList) : Calls Try.prog 30 #[.agg cs, .agg ds] w fun e w' => e = .returned (.bool true) ∧ Below w.heap.size w w' := by
  obtain ⟨A5, c5, A6, c6, e, l5, g5, l6, g6⟩ := k47_open h1
  obtain rfl : cs = _ := Array.ext' e
  obtain ⟨B5, d5, B6, d6, e_, m5, h5, m6, h6⟩ := k47_open h2
  obtain rfl : ds = _ := Array.ext' e_
  have Gg5 := Aside0.mk g5
  clear g5
  have Gg6 := Aside0.mk g6
  clear g6
  have Gh5 := Aside0.mk h5
  clear h5
  have Gh6 := Aside0.mk h6
  clear h6
  clear h1 h2 e e_
  obtain ⟨w1, hw1⟩ : ∃ w1, (w.alloc (.cells #[.int .i64 b.f0, .string b.f1, .int .i64 b.f2.f0, .int .i64 b.f2.f1, .int .i64 b.f3, .slice A5 b.f4.length c5, .slice A6 b.f5.length c6] 47)).alloc (.cells #[.int .i64 b.f0, .string b.f1, .int .i64 b.f2.f0, .int .i64 b.f2.f1, .int .i64 b.f3, .slice B5 b.f4.length d5, .slice B6 b.f5.length d6] 47) = w1 := ⟨_, rfl⟩
  have BA := Aside0.mk (show w1.heap[w.heap.size]? = some (.cells #[.int .i64 b.f0, .string b.f1, .int .i64 b.f2.f0, .int .i64 b.f2.f1, .int .i64 b.f3, .slice A5 b.f4.length c5, .slice A6 b.f5.length c6] 47 (0, 0)) by rw [← hw1]; refine blk_alloc ?_ _; exact heap_alloc_new w _)
  have BB := Aside0.mk (show w1.heap[w.heap.size + 1]? = some (.cells #[.int .i64 b.f0, .string b.f1, .int .i64 b.f2.f0, .int .i64 b.f2.f1, .int .i64 b.f3, .slice B5 b.f4.length d5, .slice B6 b.f5.length d6] 47 (0, 0)) by rw [← hw1]; simpa using heap_alloc_new (w.alloc (.cells #[.int .i64 b.f0, .string b.f1, .int .i64 b.f2.f0, .int .i64 b.f2.f1, .int .i64 b.f3, .slice A5 b.f4.length c5, .slice A6 b.f5.length c6] 47)) (.cells #[.int .i64 b.f0, .string b.f1, .int .i64 b.f2.f0, .int .i64 b.f2.f1, .int .i64 b.f3, .slice B5 b.f4.length d5, .slice B6 b.f5.length d6] 47))
  have HB := Aside0.mk (show Below w.heap.size w w1 by rw [← hw1]; exact below_alloc (below_alloc (Below.refl _ _) _) _)
  have HW := Aside0.mk hw1
  clear hw1
  go_enter Try.func30, Try.ntmps30
  go_wp2_with fail
  rw [HW.out]
  clear HW
  refine (laws_eqStamp.same b.f2 w1).mono ?_
  rintro e w2 ⟨rfl, hb⟩
  have n0_ := Aside0.mk (blk_below BA.out hb)
  have n1_ := Aside0.mk (blk_below BB.out hb)
  have n2_ := Aside0.mk (below_then HB.out HB.out.size hb)
  clear BA BB HB hb
  have BA := n0_
  have BB := n1_
  have HB := n2_
  clear n0_ n1_ n2_
  have a4 : w2.cell? ⟨w.heap.size, 4, none⟩ = some (.int .i64 b.f3) := (blk_cell BA.out 4).trans rfl
  have b4 : w2.cell? ⟨w.heap.size + 1, 4, none⟩ = some (.int .i64 b.f3) := (blk_cell BB.out 4).trans rfl
  have a5 : w2.cell? ⟨w.heap.size, 5, none⟩ = some (.slice A5 b.f4.length c5) := (blk_cell BA.out 5).trans rfl
  have b5 : w2.cell? ⟨w.heap.size + 1, 5, none⟩ = some (.slice B5 b.f4.length d5) := (blk_cell BB.out 5).trans rfl
  go_wp2_with fail
  clear a4 b4
  clear a5 b5
  refine (laws_eqMailS.same b.f4 A5 B5 c5 d5 w2 (Kd.C_below Gg5.out HB.out) (Kd.C_below Gh5.out HB.out)).mono ?_
  rintro e w3 ⟨rfl, hb⟩
  have n0_ := Aside0.mk (blk_below BA.out hb)
  have n1_ := Aside0.mk (blk_below BB.out hb)
  have n2_ := Aside0.mk (below_then HB.out HB.out.size hb)
  clear BA BB HB hb
  have BA := n0_
  have BB := n1_
  have HB := n2_
  clear n0_ n1_ n2_
  have a6 : w3.cell? ⟨w.heap.size, 6, none⟩ = some (.slice A6 b.f5.length c6) := (blk_cell BA.out 6).trans rfl
  have b6 : w3.cell? ⟨w.heap.size + 1, 6, none⟩ = some (.slice B6 b.f5.length d6) := (blk_cell BB.out 6).trans rfl
  go_wp2_with fail
  clear a6 b6
  refine (laws_eqIntS.same b.f5 A6 B6 c6 d6 w3 (Kd.C_below Gg6.out HB.out) (Kd.C_below Gh6.out HB.out)).mono ?_
  rintro e w4 ⟨rfl, hb⟩
  have n0_ := Aside0.mk (blk_below BA.out hb)
  have n1_ := Aside0.mk (blk_below BB.out hb)
  have n2_ := Aside0.mk (below_then HB.out HB.out.size hb)
  clear BA BB HB hb
  have BA := n0_
  have BB := n1_
  have HB := n2_
  clear n0_ n1_ n2_
  have a0 : w4.cell? ⟨w.heap.size, 0, none⟩ = some (.int .i64 b.f0) := (blk_cell BA.out 0).trans rfl
  have b0 : w4.cell? ⟨w.heap.size + 1, 0, none⟩ = some (.int .i64 b.f0) := (blk_cell BB.out 0).trans rfl
  have a1 : w4.cell? ⟨w.heap.size, 1, none⟩ = some (.string b.f1) := (blk_cell BA.out 1).trans rfl
  have b1 : w4.cell? ⟨w.heap.size + 1, 1, none⟩ = some (.string b.f1) := (blk_cell BB.out 1).trans rfl
  have a2 : w4.cell? ⟨w.heap.size, 2, none⟩ = some (.int .i64 b.f2.f0) := (blk_cell BA.out 2).trans rfl
  have b2 : w4.cell? ⟨w.heap.size + 1, 2, none⟩ = some (.int .i64 b.f2.f0) := (blk_cell BB.out 2).trans rfl
  have a3 : w4.cell? ⟨w.heap.size, 3, none⟩ = some (.int .i64 b.f2.f1) := (blk_cell BA.out 3).trans rfl
  have b3 : w4.cell? ⟨w.heap.size + 1, 3, none⟩ = some (.int .i64 b.f2.f1) := (blk_cell BB.out 3).trans rfl
  have a4 : w4.cell? ⟨w.heap.size, 4, none⟩ = some (.int .i64 b.f3) := (blk_cell BA.out 4).trans rfl
  have b4 : w4.cell? ⟨w.heap.size + 1, 4, none⟩ = some (.int .i64 b.f3) := (blk_cell BB.out 4).trans rfl
  have a5 : w4.cell? ⟨w.heap.size, 5, none⟩ = some (.slice A5 b.f4.length c5) := (blk_cell BA.out 5).trans rfl
  have b5 : w4.cell? ⟨w.heap.size + 1, 5, none⟩ = some (.slice B5 b.f4.length d5) := (blk_cell BB.out 5).trans rfl
  have a6 : w4.cell? ⟨w.heap.size, 6, none⟩ = some (.slice A6 b.f5.length c6) := (blk_cell BA.out 6).trans rfl
  have b6 : w4.cell? ⟨w.heap.size + 1, 6, none⟩ = some (.slice B6 b.f5.length d6) := (blk_cell BB.out 6).trans rfl
  go_wp2
  go_ret
  exact ⟨rfl, HB.out⟩
set_option maxRecDepth 100000 in
set_option maxHeartbeats 4000000 in
theorem laws_eqBoxS.same (l : List S47) (A B : Option Addr) (c d : Nat) (w : World) (h1 : Kd.C k47 w A l.length l) (h2 : Kd.C k47 w B l.length l) : Calls Try.prog 97 #[.slice A l.length c, .slice B l.length d] w fun e w' => e = .returned (.bool true) ∧ Below w.heap.size w w' := by
  have HA := Aside0.mk h1
  have HC := Aside0.mk h2
  have hmx := Kd.C_max h1
  clear h1 h2
  go_enter Try.func97, Try.ntmps97
  go_wp2
  go_loopw [5] (fun v wr => ∃ i : Nat, i ≤ l.length ∧ v = .int .i64 i ∧ Aside0 (Below w.heap.size w wr)) (fun v _ => l.length - (intOf v).toNat)
  case atStart => exact ⟨0, Nat.zero_le _, rfl, ⟨Below.refl _ _⟩⟩
  case round =>
    obtain ⟨i, hi, rfl, HB⟩ := hrel
    by_cases hlt : i < l.length
    rotate_left
    · obtain rfl : i = l.length := by omega
      go_wp2
      go_ret
      exact ⟨rfl, HB.out⟩
    obtain ⟨ad, A5, c5, A6, c6, eA, e0, e1, e2, e3, e4, e5, e6, hK⟩ := box_at (Kd.C_below HA.out HB.out) i hlt
    obtain ⟨bd, B5, d5, B6, d6, eB, f0, f1, f2, f3, f4, f5, f6, hL⟩ := box_at (Kd.C_below HC.out HB.out) i hlt
    subst eA eB
    have HK := Aside0.mk hK
    have HL := Aside0.mk hL
    clear hK hL
    have eg0 : ∀ d_ os, (grow (redrawn wr d_) os).cell? (ad.add (i * 7)) = some (.int .i64 l[i].f0) := fun d_ os => cell_regrown e0 d_ os
    have eg1 : ∀ d_ os, (grow (redrawn wr d_) os).cell? ⟨(ad.add (i * 7)).block, (ad.add (i * 7)).off + 1, none⟩ = some (.string l[i].f1) := fun d_ os => cell_regrown e1 d_ os
    have eg2 : ∀ d_ os, (grow (redrawn wr d_) os).cell? ⟨(ad.add (i * 7)).block, (ad.add (i * 7)).off + 2, none⟩ = some (.int .i64 l[i].f2.f0) := fun d_ os => cell_regrown e2 d_ os
    have eg3 : ∀ d_ os, (grow (redrawn wr d_) os).cell? ⟨(ad.add (i * 7)).block, (ad.add (i * 7)).off + 3, none⟩ = some (.int .i64 l[i].f2.f1) := fun d_ os => cell_regrown e3 d_ os
    have eg4 : ∀ d_ os, (grow (redrawn wr d_) os).cell? ⟨(ad.add (i * 7)).block, (ad.add (i * 7)).off + 4, none⟩ = some (.int .i64 l[i].f3) := fun d_ os => cell_regrown e4 d_ os
    have eg5 : ∀ d_ os, (grow (redrawn wr d_) os).cell? ⟨(ad.add (i * 7)).block, (ad.add (i * 7)).off + 5, none⟩ = some (.slice A5 l[i].f4.length c5) := fun d_ os => cell_regrown e5 d_ os
    have eg6 : ∀ d_ os, (grow (redrawn wr d_) os).cell? ⟨(ad.add (i * 7)).block, (ad.add (i * 7)).off + 6, none⟩ = some (.slice A6 l[i].f5.length c6) := fun d_ os => cell_regrown e6 d_ os
    have fg0 : ∀ d_ os, (grow (redrawn wr d_) os).cell? (bd.add (i * 7)) = some (.int .i64 l[i].f0) := fun d_ os => cell_regrown f0 d_ os
    have fg1 : ∀ d_ os, (grow (redrawn wr d_) os).cell? ⟨(bd.add (i * 7)).block, (bd.add (i * 7)).off + 1, none⟩ = some (.string l[i].f1) := fun d_ os => cell_regrown f1 d_ os
    have fg2 : ∀ d_ os, (grow (redrawn wr d_) os).cell? ⟨(bd.add (i * 7)).block, (bd.add (i * 7)).off + 2, none⟩ = some (.int .i64 l[i].f2.f0) := fun d_ os => cell_regrown f2 d_ os
    have fg3 : ∀ d_ os, (grow (redrawn wr d_) os).cell? ⟨(bd.add (i * 7)).block, (bd.add (i * 7)).off + 3, none⟩ = some (.int .i64 l[i].f2.f1) := fun d_ os => cell_regrown f3 d_ os
    have fg4 : ∀ d_ os, (grow (redrawn wr d_) os).cell? ⟨(bd.add (i * 7)).block, (bd.add (i * 7)).off + 4, none⟩ = some (.int .i64 l[i].f3) := fun d_ os => cell_regrown f4 d_ os
    have fg5 : ∀ d_ os, (grow (redrawn wr d_) os).cell? ⟨(bd.add (i * 7)).block, (bd.add (i * 7)).off + 5, none⟩ = some (.slice B5 l[i].f4.length d5) := fun d_ os => cell_regrown f5 d_ os
    have fg6 : ∀ d_ os, (grow (redrawn wr d_) os).cell? ⟨(bd.add (i * 7)).block, (bd.add (i * 7)).off + 6, none⟩ = some (.slice B6 l[i].f5.length d6) := fun d_ os => cell_regrown f6 d_ os
    clear e0 f0 e1 f1 e2 f2 e3 f3 e4 f4 e5 f5 e6 f6
    go_wp2
    refine wp_region_quiet_below (by kernel_rfl) (by kernel_rfl) ?_
    repeat (go_big_quiet_step ((go_at_call 30; exact Calls.regrown_of (laws_eqBox.same l[i] _ _ _ (k47.K_below (below_regrown wr _ _) HK.out) (k47.K_below (below_regrown wr _ _) HL.out)))))
    refine wpQuiet_nil ?_
    intro w7 hw7
    obtain ⟨p7, hw7⟩ := hw7
    have HB7 := Aside0.mk (below_then HB.out HB.out.size (show Below wr.heap.size wr w7 by rw [hw7]; exact below_regrown wr _ _))
    clear hw7 eg0 fg0 eg1 fg1 eg2 fg2 eg3 fg3 eg4 fg4 eg5 fg5 eg6 fg6
    go_wp2
    go_roundw
    case rel => exact ⟨i + 1, by omega, by go_num, HB7⟩
    case measure => simp [intOf]; omega
set_option maxRecDepth 100000 in
set_option maxHeartbeats 4000000 in
theorem laws_eqStore.same (s : S29) (cs ds : Array Value) (w : World) (h1 : k29.K w s cs.toList) (h2 : k29.K w s ds.toList) : Calls Try.prog 21 #[.agg cs, .agg ds] w fun e w' => e = .returned (.bool true) ∧ Below w.heap.size w w' := by
  obtain ⟨A2, c2, A3, c3, e, l2, g2, l3, g3⟩ := k29_open h1
  obtain rfl : cs = _ := Array.ext' e
  obtain ⟨B2, d2, B3, d3, e_, m2, h2_, m3, h3_⟩ := k29_open h2
  obtain rfl : ds = _ := Array.ext' e_
  have Gg2 := Aside0.mk g2
  clear g2
  have Gg3 := Aside0.mk g3
  clear g3
  have Gh2_ := Aside0.mk h2_
  clear h2_
  have Gh3_ := Aside0.mk h3_
  clear h3_
  clear h1 h2 e e_
  obtain ⟨w1, hw1⟩ : ∃ w1, (w.alloc (.cells #[.int .i64 s.f0, .int .i64 s.f1, .slice A2 s.f2.length c2, .slice A3 s.f3.length c3] 29)).alloc (.cells #[.int .i64 s.f0, .int .i64 s.f1, .slice B2 s.f2.length d2, .slice B3 s.f3.length d3] 29) = w1 := ⟨_, rfl⟩
  have BA := Aside0.mk (show w1.heap[w.heap.size]? = some (.cells #[.int .i64 s.f0, .int .i64 s.f1, .slice A2 s.f2.length c2, .slice A3 s.f3.length c3] 29 (0, 0)) by rw [← hw1]; refine blk_alloc ?_ _; exact heap_alloc_new w _)
  have BB := Aside0.mk (show w1.heap[w.heap.size + 1]? = some (.cells #[.int .i64 s.f0, .int .i64 s.f1, .slice B2 s.f2.length d2, .slice B3 s.f3.length d3] 29 (0, 0)) by rw [← hw1]; simpa using heap_alloc_new (w.alloc (.cells #[.int .i64 s.f0, .int .i64 s.f1, .slice A2 s.f2.length c2, .slice A3 s.f3.length c3] 29)) (.cells #[.int .i64 s.f0, .int .i64 s.f1, .slice B2 s.f2.length d2, .slice B3 s.f3.length d3] 29))
  have HB := Aside0.mk (show Below w.heap.size w w1 by rw [← hw1]; exact below_alloc (below_alloc (Below.refl _ _) _) _)
  have HW := Aside0.mk hw1
  clear hw1
  go_enter Try.func21, Try.ntmps21
  go_wp2_with fail
  rw [HW.out]
  clear HW
  refine (laws_eqBoxS.same s.f2 A2 B2 c2 d2 w1 (Kd.C_below Gg2.out HB.out) (Kd.C_below Gh2_.out HB.out)).mono ?_
  rintro e w2 ⟨rfl, hb⟩
  have n0_ := Aside0.mk (blk_below BA.out hb)
  have n1_ := Aside0.mk (blk_below BB.out hb)
  have n2_ := Aside0.mk (below_then HB.out HB.out.size hb)
  clear BA BB HB hb
  have BA := n0_
  have BB := n1_
  have HB := n2_
  clear n0_ n1_ n2_
  have a3 : w2.cell? ⟨w.heap.size, 3, none⟩ = some (.slice A3 s.f3.length c3) := (blk_cell BA.out 3).trans rfl
  have b3 : w2.cell? ⟨w.heap.size + 1, 3, none⟩ = some (.slice B3 s.f3.length d3) := (blk_cell BB.out 3).trans rfl
  go_wp2_with fail
  clear a3 b3
  refine (laws_eqIntS.same s.f3 A3 B3 c3 d3 w2 (Kd.C_below Gg3.out HB.out) (Kd.C_below Gh3_.out HB.out)).mono ?_
  rintro e w3 ⟨rfl, hb⟩
  have n0_ := Aside0.mk (blk_below BA.out hb)
  have n1_ := Aside0.mk (blk_below BB.out hb)
  have n2_ := Aside0.mk (below_then HB.out HB.out.size hb)
  clear BA BB HB hb
  have BA := n0_
  have BB := n1_
  have HB := n2_
  clear n0_ n1_ n2_
  have a0 : w3.cell? ⟨w.heap.size, 0, none⟩ = some (.int .i64 s.f0) := (blk_cell BA.out 0).trans rfl
  have b0 : w3.cell? ⟨w.heap.size + 1, 0, none⟩ = some (.int .i64 s.f0) := (blk_cell BB.out 0).trans rfl
  have a1 : w3.cell? ⟨w.heap.size, 1, none⟩ = some (.int .i64 s.f1) := (blk_cell BA.out 1).trans rfl
  have b1 : w3.cell? ⟨w.heap.size + 1, 1, none⟩ = some (.int .i64 s.f1) := (blk_cell BB.out 1).trans rfl
  have a2 : w3.cell? ⟨w.heap.size, 2, none⟩ = some (.slice A2 s.f2.length c2) := (blk_cell BA.out 2).trans rfl
  have b2 : w3.cell? ⟨w.heap.size + 1, 2, none⟩ = some (.slice B2 s.f2.length d2) := (blk_cell BB.out 2).trans rfl
  have a3 : w3.cell? ⟨w.heap.size, 3, none⟩ = some (.slice A3 s.f3.length c3) := (blk_cell BA.out 3).trans rfl
  have b3 : w3.cell? ⟨w.heap.size + 1, 3, none⟩ = some (.slice B3 s.f3.length d3) := (blk_cell BB.out 3).trans rfl
  go_wp2
  go_ret
  exact ⟨rfl, HB.out⟩
end Go.Proofs.Ytjheiahfhknakaa.G
