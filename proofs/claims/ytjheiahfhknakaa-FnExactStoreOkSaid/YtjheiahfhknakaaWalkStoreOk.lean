/- The walk of FnExactStoreOk: it returns true and changes nothing that was there. Condition: the store can be read, its names and texts are no longer than a slice may be. -/
import Derived.Test.YtjheiahfhknakaaStoreS
import Derived.Test.YtjheiahfhknakaaTo
import Derived.Test.YtjheiahfhknakaaEq
import Derived.RegionTactic
import Derived.Deep.RegionHeld3
import Derived.Outline
namespace Go.Proofs.Ytjheiahfhknakaa.G
open Go.RowKit Go.Proofs.YtjheiahfhknakaaW.PrintWords Go.Proofs.YtjheiahfhknakaaW.PrintLast Go.Proofs.YtjheiahfhknakaaW.PrintMore
set_option linter.unusedVariables false
set_option linter.unusedSimpArgs false
theorem cv_names {s : S25} (ht : ∀ b ∈ s.f2, bigB b) : ∀ b ∈ (cvT s).f2, b.f1.size ≤ 9223372036854775807 := by
  intro b hb
  obtain ⟨x, hx, rfl⟩ := List.mem_map.1 hb
  exact (ht x hx).1
set_option maxRecDepth 100000 in
set_option maxHeartbeats 8000000 in
theorem laws_FnExactStoreOk.true_ (s : S25) (cs : Array Value) (w : World) (hs : k25.K w s cs.toList) (ht : ∀ b ∈ s.f2, bigB b) :
    Calls Try.prog 10 #[.agg cs] w fun e w' => e = .returned (.bool true) ∧ Below w.heap.size w w' := by
  obtain ⟨v, hv⟩ : ∃ v, storeI (cvT s) = v := ⟨_, rfl⟩
  have HV := Aside0.mk hv
  have HT := Aside0.mk ht
  have HNM := Aside0.mk (cv_names ht)
  have HK := Aside0.mk hs
  obtain ⟨A2, c2, A3, c3, e, l2, g2, l3, g3⟩ := k25_open hs
  obtain rfl : cs = _ := Array.ext' e
  clear hs ht hv e g2 g3
  obtain ⟨w1, hw1⟩ : ∃ w1, w.alloc (.cells #[.int .i64 s.f0, .int .i64 s.f1, .slice A2 s.f2.length c2, .slice A3 s.f3.length c3] 25) = w1 := ⟨_, rfl⟩
  have BA := Aside0.mk (show w1.heap[w.heap.size]? = some (.cells #[.int .i64 s.f0, .int .i64 s.f1, .slice A2 s.f2.length c2, .slice A3 s.f3.length c3] 25 (0, 0)) by rw [← hw1]; exact heap_alloc_new w _)
  have HB := Aside0.mk (show Below w.heap.size w w1 by rw [← hw1]; exact below_alloc (Below.refl _ _) _)
  have HW := Aside0.mk hw1
  clear hw1
  go_enter Try.func10, Try.ntmps10
  go_wp2_with fail
  rw [HW.out]
  clear HW
  refine (laws_szStore.nice s _ 1048576 w1 (k25.K_below HB.out HK.out) (by omega) (by omega) HT.out).mono ?_
  rintro e w2 ⟨r, rfl, hr, hq, hb⟩
  have HQ := Aside0.mk hq
  have n0_ := Aside0.mk (below_then HB.out HB.out.size hb)
  have n1_ := Aside0.mk (blk_below BA.out hb)
  clear HB BA hb hq
  have HB := n0_
  have BA := n1_
  clear n0_ n1_
  by_cases hn : r < 0
  · go_wp2
    go_ret
    exact ⟨rfl, HB.out⟩
  have hn' : 0 ≤ r := by omega
  have SM := Aside0.mk (HQ.out hn')
  clear hn HQ
  have q0 : w2.cell? ⟨w.heap.size, 0, none⟩ = some (.int .i64 s.f0) := (blk_cell BA.out 0).trans rfl
  have q1 : w2.cell? ⟨w.heap.size, 1, none⟩ = some (.int .i64 s.f1) := (blk_cell BA.out 1).trans rfl
  have q2 : w2.cell? ⟨w.heap.size, 2, none⟩ = some (.slice A2 s.f2.length c2) := (blk_cell BA.out 2).trans rfl
  have q3 : w2.cell? ⟨w.heap.size, 3, none⟩ = some (.slice A3 s.f3.length c3) := (blk_cell BA.out 3).trans rfl
  go_wp2_with fail
  clear q0 q1 q2 q3
  refine (laws_toStore.makes s _ w2 (k25.K_below HB.out HK.out) SM.out).mono ?_
  rintro e w3 ⟨cs1, rfl, hM, hb⟩
  have HZ := Aside0.mk (k29a_K (k29a.K_of_M hM))
  have n0_ := Aside0.mk (below_then HB.out HB.out.size hb)
  have n1_ := Aside0.mk (blk_below BA.out hb)
  clear HB BA hb hM
  have HB := n0_
  have BA := n1_
  clear n0_ n1_
  go_wp2_with fail
  refine (spec_StoreOk.nice (cvT s) cs1 v HV.out w3 HZ.out HNM.out).mono ?_
  rintro e w4 ⟨rfl, hb⟩
  have n0_ := Aside0.mk (below_then HB.out HB.out.size hb)
  have n1_ := Aside0.mk (blk_below BA.out hb)
  clear HB BA hb HZ
  have HB := n0_
  have BA := n1_
  clear n0_ n1_
  have q0 : w4.cell? ⟨w.heap.size, 0, none⟩ = some (.int .i64 s.f0) := (blk_cell BA.out 0).trans rfl
  have q1 : w4.cell? ⟨w.heap.size, 1, none⟩ = some (.int .i64 s.f1) := (blk_cell BA.out 1).trans rfl
  have q2 : w4.cell? ⟨w.heap.size, 2, none⟩ = some (.slice A2 s.f2.length c2) := (blk_cell BA.out 2).trans rfl
  have q3 : w4.cell? ⟨w.heap.size, 3, none⟩ = some (.slice A3 s.f3.length c3) := (blk_cell BA.out 3).trans rfl
  go_wp2_with fail
  clear q0 q1 q2 q3
  refine (laws_toStore.makes s _ w4 (k25.K_below HB.out HK.out) SM.out).mono ?_
  rintro e w5 ⟨cs2, rfl, hM, hb⟩
  obtain ⟨p_, v2_, v3_, hcs_, hS2_, hS3_⟩ := k29a_openM hM
  obtain ⟨B2, d2, rfl⟩ := Kd.S_slice hS2_
  obtain ⟨B3, d3, rfl⟩ := Kd.S_slice hS3_
  obtain rfl : cs2 = _ := Array.ext' hcs_
  obtain ⟨w6, hw6⟩ : ∃ w6, w5.alloc (.cells #[.int .i64 (cvT s).f0, .int .i64 (cvT s).f1, .slice B2 (cvT s).f2.length d2, .slice B3 (cvT s).f3.length d3] 29) = w6 := ⟨_, rfl⟩
  have HX := Aside0.mk (show k29.K w6 (cvT s) [.int .i64 (cvT s).f0, .int .i64 (cvT s).f1, .slice B2 (cvT s).f2.length d2, .slice B3 (cvT s).f3.length d3] by rw [← hw6]; exact k29.K_below (below_alloc (Below.refl _ _) _) (k29a_K (k29a.K_of_M hM)))
  have HB6 := Aside0.mk (show Below w5.heap.size w5 w6 by rw [← hw6]; exact below_alloc (Below.refl _ _) _)
  have BX := Aside0.mk (show w6.heap[w5.heap.size]? = some (.cells #[.int .i64 (cvT s).f0, .int .i64 (cvT s).f1, .slice B2 (cvT s).f2.length d2, .slice B3 (cvT s).f3.length d3] 29 (0, 0)) by rw [← hw6]; exact heap_alloc_new w5 _)
  have HW := Aside0.mk hw6
  have n0_ := Aside0.mk (below_then (below_then HB.out HB.out.size hb) (by have := HB.out.size; have := hb.size; omega) HB6.out)
  have n1_ := Aside0.mk (blk_below (blk_below BA.out hb) HB6.out)
  clear HB BA hb hM hS2_ hS3_ hw6 hcs_ HB6
  have HB := n0_
  have BA := n1_
  clear n0_ n1_
  generalize hx_ : cvT s = x at *
  have HE := Aside0.mk hx_
  clear hx_
  go_wp2_with fail
  rw [HW.out]
  clear HW
  refine (impl_StoreOk.nice x _ v HV.out w6 HX.out HNM.out).mono ?_
  rintro e w7 ⟨rfl, hb⟩
  have n0_ := Aside0.mk (below_then HB.out HB.out.size hb)
  have n1_ := Aside0.mk (blk_below BA.out hb)
  have n2_ := Aside0.mk (blk_below BX.out hb)
  have n3_ := Aside0.mk (k29.K_below hb HX.out)
  clear HB BA BX HX hb
  have HB := n0_
  have BA := n1_
  have BX := n2_
  have HX := n3_
  clear n0_ n1_ n2_ n3_
  generalize w5.heap.size = gx at BX ⊢
  go_upto_region 10 with (fail)
  have q0 : w7.cell? ⟨w.heap.size, 0, none⟩ = some (.int .i64 s.f0) := (blk_cell BA.out 0).trans rfl
  have q1 : w7.cell? ⟨w.heap.size, 1, none⟩ = some (.int .i64 s.f1) := (blk_cell BA.out 1).trans rfl
  have q2 : w7.cell? ⟨w.heap.size, 2, none⟩ = some (.slice A2 s.f2.length c2) := (blk_cell BA.out 2).trans rfl
  have q3 : w7.cell? ⟨w.heap.size, 3, none⟩ = some (.slice A3 s.f3.length c3) := (blk_cell BA.out 3).trans rfl
  have p0 : w7.cell? ⟨gx, 0, none⟩ = some (.int .i64 x.f0) := (blk_cell BX.out 0).trans rfl
  have p1 : w7.cell? ⟨gx, 1, none⟩ = some (.int .i64 x.f1) := (blk_cell BX.out 1).trans rfl
  have p2 : w7.cell? ⟨gx, 2, none⟩ = some (.slice B2 x.f2.length d2) := (blk_cell BX.out 2).trans rfl
  have p3 : w7.cell? ⟨gx, 3, none⟩ = some (.slice B3 x.f3.length d3) := (blk_cell BX.out 3).trans rfl
  have HK7 := Aside0.mk (k25.K_below HB.out HK.out)
  have BW := Aside0.mk (Below.refl w7.heap.size w7)
  clear BA BX HK
  go_region_held3 (fun w' => w'.cell? ⟨w.heap.size, 0, none⟩ = some (.int .i64 s.f0) ∧ w'.cell? ⟨w.heap.size, 1, none⟩ = some (.int .i64 s.f1) ∧ w'.cell? ⟨w.heap.size, 2, none⟩ = some (.slice A2 s.f2.length c2) ∧ w'.cell? ⟨w.heap.size, 3, none⟩ = some (.slice A3 s.f3.length c3) ∧ w'.cell? ⟨gx, 0, none⟩ = some (.int .i64 x.f0) ∧ w'.cell? ⟨gx, 1, none⟩ = some (.int .i64 x.f1) ∧ w'.cell? ⟨gx, 2, none⟩ = some (.slice B2 x.f2.length d2) ∧ w'.cell? ⟨gx, 3, none⟩ = some (.slice B3 x.f3.length d3)) (first | exact ⟨pw_cell_below (by (with_reducible repeat (first | exact BW.out | apply below_alloc | apply below_drew | apply pw_below_drewN))) q0, pw_cell_below (by (with_reducible repeat (first | exact BW.out | apply below_alloc | apply below_drew | apply pw_below_drewN))) q1, pw_cell_below (by (with_reducible repeat (first | exact BW.out | apply below_alloc | apply below_drew | apply pw_below_drewN))) q2, pw_cell_below (by (with_reducible repeat (first | exact BW.out | apply below_alloc | apply below_drew | apply pw_below_drewN))) q3, pw_cell_below (by (with_reducible repeat (first | exact BW.out | apply below_alloc | apply below_drew | apply pw_below_drewN))) p0, pw_cell_below (by (with_reducible repeat (first | exact BW.out | apply below_alloc | apply below_drew | apply pw_below_drewN))) p1, pw_cell_below (by (with_reducible repeat (first | exact BW.out | apply below_alloc | apply below_drew | apply pw_below_drewN))) p2, pw_cell_below (by (with_reducible repeat (first | exact BW.out | apply below_alloc | apply below_drew | apply pw_below_drewN))) p3⟩ | go_keep) (first | (go_at_call 19; refine (laws_toStore.makes s _ _ (k25.K_below (by (with_reducible repeat (first | exact BW.out | apply below_alloc | apply below_drew | apply pw_below_drewN))) HK7.out) SM.out).mono ?_; rintro e w8 ⟨cz_, rfl, hM_, hb_⟩; have n0_ := Aside0.mk (below_then (by (with_reducible repeat (first | exact BW.out | apply below_alloc | apply below_drew | apply pw_below_drewN))) ((by (with_reducible repeat (first | exact BW.out | apply below_alloc | apply below_drew | apply pw_below_drewN))) : Below w7.heap.size w7 _).size hb_); clear BW; have BW := n0_; clear n0_; rw [HE.out] at hM_; have HZ := Aside0.mk (k29a_K (k29a.K_of_M hM_)); clear hM_ hb_) | (go_at_call 21; refine (laws_eqStore.same x _ _ _ (k29.K_below (by (with_reducible repeat (first | exact BW.out | apply below_alloc | apply below_drew | apply pw_below_drewN))) HX.out) (k29.K_below (by (with_reducible repeat (first | exact Below.refl _ _ | apply below_alloc | apply below_drew | apply pw_below_drewN))) HZ.out)).mono ?_; rintro e w9 ⟨rfl, hb_⟩; have n0_ := Aside0.mk (below_then (by (with_reducible repeat (first | exact BW.out | apply below_alloc | apply below_drew | apply pw_below_drewN))) ((by (with_reducible repeat (first | exact BW.out | apply below_alloc | apply below_drew | apply pw_below_drewN))) : Below w7.heap.size w7 _).size hb_); clear BW; have BW := n0_; clear n0_ hb_))
  have HB9 := Aside0.mk (below_then HB.out HB.out.size BW.out)
  clear q0 q1 q2 q3 p0 p1 p2 p3
  go_wp2
  go_ret
  exact ⟨rfl, HB9.out⟩
end Go.Proofs.Ytjheiahfhknakaa.G
