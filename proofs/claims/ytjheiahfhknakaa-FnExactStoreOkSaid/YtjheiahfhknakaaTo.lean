/- The statement's values as the program's (toStore and its kin): each makes a value of its own. Condition: the argument can be read, and is small. -/
import Derived.Test.YtjheiahfhknakaaKinds
import Derived.Test.YtjheiahfhknakaaSz
import Derived.Outline
namespace Go.Proofs.Ytjheiahfhknakaa.G
open Go.RowKit Go.Proofs.YtjheiahfhknakaaW.PrintWords Go.Proofs.YtjheiahfhknakaaW.PrintLast Go.Proofs.YtjheiahfhknakaaW.PrintMore
set_option linter.unusedVariables false
set_option linter.unusedSimpArgs false
def cvS (s : S39) : S44 := ⟨s.f0, s.f1⟩
def cvR (r : S179) : S146 := ⟨r.f0, cvS r.f1⟩
def cvM (m : S65) : S69 := ⟨m.f0, m.f1, m.f2.map cvR, m.f3⟩
def cvB (b : S42) : S47 := ⟨b.f0, b.f1, cvS b.f2, b.f3, b.f4.map cvM, b.f5⟩
def cvT (s : S25) : S29 := ⟨s.f0, s.f1, s.f2.map cvB, s.f3⟩
/-- A row that is being filled. -/
def fillAt {α β : Type} (f : α → β) (z : β) (l : List α) (i : Nat) : List β := (l.take i).map f ++ List.replicate (l.length - i) z
theorem fill_len {α β : Type} (f : α → β) (z : β) (l : List α) (i : Nat) (hi : i ≤ l.length) : (fillAt f z l i).length = l.length := by
  unfold fillAt
  rw [List.length_append, List.length_map, List.length_take, List.length_replicate]
  omega
theorem fill_zero {α β : Type} (f : α → β) (z : β) (l : List α) : fillAt f z l 0 = List.replicate l.length z := by simp [fillAt]
theorem fill_all {α β : Type} (f : α → β) (z : β) (l : List α) : fillAt f z l l.length = l.map f := by simp [fillAt]
theorem fill_set {α β : Type} (f : α → β) (z : β) (l : List α) (i : Nat) (hi : i < l.length) : (fillAt f z l i).set i (f l[i]) = fillAt f z l (i + 1) := by
  have hl : ((l.take i).map f).length = i := by rw [List.length_map, List.length_take]; omega
  unfold fillAt
  rw [List.set_append, if_neg (by omega), hl, Nat.sub_self, List.take_succ_eq_append_getElem hi, List.map_append, List.append_assoc]
  congr 1
  rw [show l.length - i = (l.length - (i + 1)) + 1 by omega, List.replicate_succ, List.set_cons_zero]
  rfl
theorem S_cell {α : Type} {d : Kd α} {e g n cap base : Nat} {ok : Nat → Prop} {W : World} {xs : List α} (h : Kd.S d e W base ok (.slice (some ⟨g, 0, none⟩) n cap) xs) (z : α) (i : Nat) (hi : i < n) (j : Nat) (hj : j < d.sz) :
    ∃ u, W.cell? ⟨g, i * d.sz + j, none⟩ = some u ∧ W.frozen? ⟨g, i * d.sz + j, none⟩ = false := by
  obtain ⟨_, c, hcl, _, hcc, hfr, _⟩ := Kd.S_elem h z (i : Int) (by omega) (by omega)
  rw [Int.toNat_natCast] at hcc hfr
  exact ⟨c[j], hcc j _ (List.getElem?_eq_getElem (by omega)), hfr j⟩
theorem S_block {α : Type} {d : Kd α} {e base N : Nat} {ok : Nat → Prop} {w : World} {v : Value} {xs : List α} (h : Kd.S d e w base ok v xs) (hat : ∃ b, v.ownBlock = some b ∧ N ≤ b) : ∃ g cap, v = .slice (some ⟨g, 0, none⟩) xs.length cap ∧ base ≤ g := by
  obtain ⟨A, c, rfl⟩ := Kd.S_slice h
  cases A with
  | none =>
    obtain ⟨b, hb, _⟩ := hat
    simp [Value.ownBlock] at hb
  | some ad =>
    obtain ⟨g, rfl⟩ := Kd.R_head (Kd.S_R h)
    exact ⟨g, c, rfl, Kd.S_base h g (by simp [Value.ownBlock])⟩
theorem laws_toStamp.makes (s : S39) (w : World) : Calls Try.prog 73 #[.agg #[.int .i64 s.f0, .int .i64 s.f1]] w fun e w' => e = .returned (.agg #[.int .i64 s.f0, .int .i64 s.f1]) ∧ Below w.heap.size w w' := by
  go_enter Try.func73, Try.ntmps73
  go_wp2
  exact bodyPost_ret (v := .agg #[.int .i64 s.f0, .int .i64 s.f1]) (by simp [results, Try.results73, go_sem]) rfl ⟨rfl, below_alloc (below_alloc (below_alloc (Below.refl _ _) _) _) _⟩
theorem laws_toReg.makes (r : S179) (w : World) : Calls Try.prog 184 #[.agg #[.int .i64 r.f0, .int .i64 r.f1.f0, .int .i64 r.f1.f1]] w fun e w' => e = .returned (.agg #[.int .i64 r.f0, .int .i64 r.f1.f0, .int .i64 r.f1.f1]) ∧ Below w.heap.size w w' := by
  obtain ⟨w1, hw1⟩ : ∃ w1, ((w.alloc (.cells #[.int .i64 r.f0, .int .i64 r.f1.f0, .int .i64 r.f1.f1] 179)).alloc (.cells #[.int .i64 0, .int .i64 0, .int .i64 0] 146)).alloc (.cells #[.int .i64 r.f0, .int .i64 0, .int .i64 0] 146) = w1 := ⟨_, rfl⟩
  have B0 := Aside0.mk (show w1.heap[w.heap.size]? = some (.cells #[.int .i64 r.f0, .int .i64 r.f1.f0, .int .i64 r.f1.f1] 179 (0, 0)) by rw [← hw1]; refine blk_alloc (blk_alloc ?_ _) _; exact heap_alloc_new w _)
  have B1 := Aside0.mk (show w1.heap[w.heap.size + 1]? = some (.cells #[.int .i64 0, .int .i64 0, .int .i64 0] 146 (0, 0)) by rw [← hw1]; refine blk_alloc ?_ _; simpa using heap_alloc_new (w.alloc (.cells #[.int .i64 r.f0, .int .i64 r.f1.f0, .int .i64 r.f1.f1] 179)) (.cells #[.int .i64 0, .int .i64 0, .int .i64 0] 146))
  have B2 := Aside0.mk (show w1.heap[w.heap.size + 1 + 1]? = some (.cells #[.int .i64 r.f0, .int .i64 0, .int .i64 0] 146 (0, 0)) by rw [← hw1]; simpa using heap_alloc_new ((w.alloc (.cells #[.int .i64 r.f0, .int .i64 r.f1.f0, .int .i64 r.f1.f1] 179)).alloc (.cells #[.int .i64 0, .int .i64 0, .int .i64 0] 146)) (.cells #[.int .i64 r.f0, .int .i64 0, .int .i64 0] 146))
  have HB := Aside0.mk (show Below w.heap.size w w1 by rw [← hw1]; exact below_alloc (below_alloc (below_alloc (Below.refl _ _) _) _) _)
  have HW := Aside0.mk hw1
  clear hw1
  go_enter Try.func184, Try.ntmps184
  go_wp2_with fail
  rw [HW.out]
  clear HW
  refine (laws_toStamp.makes r.f1 w1).mono ?_
  rintro e w2 ⟨rfl, hb⟩
  have n0_ := Aside0.mk (blk_below B0.out hb)
  have n1_ := Aside0.mk (blk_below B1.out hb)
  have n2_ := Aside0.mk (blk_below B2.out hb)
  have n3_ := Aside0.mk (below_then HB.out HB.out.size hb)
  clear B0 B1 B2 HB
  have B0 := n0_
  have B1 := n1_
  have B2 := n2_
  have HB := n3_
  clear n0_ n1_ n2_ n3_
  clear hb
  have t0 : w2.cell? ⟨w.heap.size + 1 + 1, 0, none⟩ = some (.int .i64 r.f0) := (blk_cell B2.out 0).trans rfl
  have y0 := blk_frozen B2.out 0
  have t1 : w2.cell? ⟨w.heap.size + 1 + 1, 1, none⟩ = some (.int .i64 0) := (blk_cell B2.out 1).trans rfl
  have y1 := blk_frozen B2.out 1
  have t2 : w2.cell? ⟨w.heap.size + 1 + 1, 2, none⟩ = some (.int .i64 0) := (blk_cell B2.out 2).trans rfl
  have y2 := blk_frozen B2.out 2
  have x0 : w2.cell? ⟨w.heap.size + 1, 0, none⟩ = some (.int .i64 0) := (blk_cell B1.out 0).trans rfl
  have x1 : w2.cell? ⟨w.heap.size + 1, 1, none⟩ = some (.int .i64 0) := (blk_cell B1.out 1).trans rfl
  have x2 : w2.cell? ⟨w.heap.size + 1, 2, none⟩ = some (.int .i64 0) := (blk_cell B1.out 2).trans rfl
  have f0 := blk_frozen B1.out 0
  have f1 := blk_frozen B1.out 1
  have f2 := blk_frozen B1.out 2
  go_wp2
  exact bodyPost_ret (results_cell_row rfl _ _ (w.heap.size + 1) 146 #[.int .i64 r.f0, .int .i64 r.f1.f0, .int .i64 r.f1.f1] (0, 0) _ rfl (blk_put (cs := #[.int .i64 r.f0, .int .i64 r.f1.f0, .int .i64 0]) (cs' := #[.int .i64 r.f0, .int .i64 r.f1.f0, .int .i64 r.f1.f1]) (blk_put (cs := #[.int .i64 r.f0, .int .i64 0, .int .i64 0]) (cs' := #[.int .i64 r.f0, .int .i64 r.f1.f0, .int .i64 0]) (blk_put (cs := #[.int .i64 0, .int .i64 0, .int .i64 0]) (cs' := #[.int .i64 r.f0, .int .i64 0, .int .i64 0]) (blk_far (blk_far (B1.out) (by simp; try omega) _) (by simp; try omega) _) 0 (.int .i64 r.f0) rfl) 1 (.int .i64 r.f1.f0) rfl) 2 (.int .i64 r.f1.f1) rfl) Try.underlying146 rfl (by kernel_rfl)) rfl ⟨rfl, below_set (below_set (below_set (below_set (below_set (HB.out) (by omega)) (by omega)) (by omega)) (by omega)) (by omega)⟩
theorem reg179_at {w : World} {A : Option Addr} {n : Nat} {xs : List S179} (h : Kd.C k179 w A n xs) (i : Nat) (hi : i < xs.length) : ∃ ad, A = some ad ∧
    w.cell? (ad.add (i * 3)) = some (.int .i64 xs[i].f0) ∧ w.cell? ⟨(ad.add (i * 3)).block, (ad.add (i * 3)).off + 1, none⟩ = some (.int .i64 xs[i].f1.f0) ∧
    w.cell? ⟨(ad.add (i * 3)).block, (ad.add (i * 3)).off + 2, none⟩ = some (.int .i64 xs[i].f1.f1) := by
  have hn := Kd.C_len h
  obtain ⟨ad, c, e, _, hK, hc0⟩ := Kd.C_get h z179 (i : Int) (by omega) (by omega)
  rw [Int.toNat_natCast] at hK hc0
  rw [List.getD_eq_getElem?_getD, List.getElem?_eq_getElem hi] at hK
  have hK' : k179.K w xs[i] c := hK
  have hc : ∀ j u, c[j]? = some u → w.cell? (ad.add (i * 3 + j)) = some u := hc0
  obtain rfl := k179_open hK'
  exact ⟨ad, e, hc 0 _ rfl, by rw [← add_field _ _ 1 (by omega)]; exact hc 1 _ rfl, by rw [← add_field _ _ 2 (by omega)]; exact hc 2 _ rfl⟩
set_option maxRecDepth 100000 in
set_option maxHeartbeats 4000000 in
theorem laws_toRegS.makes (l : List S179) (A : Option Addr) (c : Nat) (w : World) (hl : Kd.C k179 w A l.length l) (hc : l.length ≤ c) (hn : l.length ≤ 1048576) :
    Calls Try.prog 131 #[.slice A l.length c] w (MakesS k146 146 (l.map cvR) w) := by
  have HL := Aside0.mk hl
  clear hl
  go_enter Try.func131, Try.ntmps131
  go_wp2_with (refine Kd.S_make k146 w.heap.size 146 rfl (N := 7) rfl 67 _ _ rfl (l.length : Int) rfl rfl Try.underlying67 (.agg #[(.int .i64 0), (.int .i64 0), (.int .i64 0)]) 24 info146 rfl (by decide) (by omega) z146 (ok := fun _ => True) (okp := fun _ => True) (k146_mkM _ _ _ z146) (fun _ hk => hk) trivial (by omega) (by rw [Int.toNat_natCast]; omega) (Below.refl _ _) (Nat.le_refl _) ?_; intro v1 w1 hr hb hg hat; rw [Int.toNat_natCast, ← fill_zero cvR] at hr; obtain ⟨g, cap, hv, hg1⟩ := S_block hr hat; rw [fill_len _ _ _ _ (Nat.zero_le _)] at hv; subst hv; have HS := Aside0.mk hr; have HB := Aside0.mk hb; clear hr hb hg hat)
  go_loopw [4] (fun v wr => ∃ i : Nat, i ≤ l.length ∧ v = .int .i64 i ∧ Aside0 (Kd.S k146 146 wr w.heap.size (fun _ => True) (.slice (some ⟨g, 0, none⟩) l.length cap) (fillAt cvR z146 l i)) ∧ Aside0 (Below w.heap.size w wr)) (fun v _ => l.length - (intOf v).toNat)
  case atStart => exact ⟨0, Nat.zero_le _, rfl, HS, HB⟩
  case round =>
    clear HS HB
    obtain ⟨i, hi, rfl, HS, HB⟩ := hrel
    by_cases hlt : i < l.length
    rotate_left
    · obtain rfl : i = l.length := by omega
      have n0_ := HS
      rw [fill_all] at n0_
      clear HS
      go_wp2
      go_ret
      exact ⟨_, rfl, n0_.out, HB.out⟩
    obtain ⟨ad, eA, e0, e1, e2⟩ := reg179_at (Kd.C_below HL.out HB.out) i hlt
    subst eA
    go_wp2_with fail
    refine (laws_toReg.makes l[i] wr).mono ?_
    rintro e w2 ⟨rfl, hb⟩
    have HB2 := Aside0.mk hb
    clear hb
    have hM_ := k146_mkM w2 wr.heap.size (fun _ => True) (cvR l[i])
    have HP := Aside0.mk (S_put HS.out HB2.out hM_ z146 i (by omega) HB.out.size)
    rw [fill_set _ _ _ _ hlt] at HP
    have HS2 := Aside0.mk (Kd.S_below HS.out HB2.out)
    have HB3 := Aside0.mk (below_then HB.out HB.out.size HB2.out)
    obtain ⟨u0, p0, f0⟩ : ∃ u, w2.cell? ⟨g, i * 3, none⟩ = some u ∧ w2.frozen? ⟨g, i * 3, none⟩ = false := S_cell HS2.out z146 i (by omega) 0 (by decide)
    obtain ⟨u1, p1, f1⟩ : ∃ u, w2.cell? ⟨g, i * 3 + 1, none⟩ = some u ∧ w2.frozen? ⟨g, i * 3 + 1, none⟩ = false := S_cell HS2.out z146 i (by omega) 1 (by decide)
    obtain ⟨u2, p2, f2⟩ : ∃ u, w2.cell? ⟨g, i * 3 + 2, none⟩ = some u ∧ w2.frozen? ⟨g, i * 3 + 2, none⟩ = false := S_cell HS2.out z146 i (by omega) 2 (by decide)
    clear hM_
    go_wp2
    go_roundw
    case rel =>
      refine ⟨i + 1, by omega, by go_num, ?_, ⟨by with_reducible repeat (first | exact HB3.out | refine below_set ?_ hg1)⟩⟩
      have h3 := HP.out.1
      rw [show (k146).sz = 3 from rfl] at h3
      simp only [World.setCells, Nat.add_assoc, Nat.reduceAdd] at h3
      exact ⟨h3⟩
    case measure => simp [intOf]; omega
theorem map_id_int (l : List Int) : l.map (fun x => x) = l := List.map_id' l
set_option maxRecDepth 100000 in
set_option maxHeartbeats 4000000 in
theorem laws_toIntS.makes (l : List Int) (A : Option Addr) (c : Nat) (w : World) (hl : Kd.C (Kd.int .i64) w A l.length l) (hc : l.length ≤ c) (hn : l.length ≤ 1048576) :
    Calls Try.prog 92 #[.slice A l.length c] w (MakesS (Kd.int .i64) 3 (l.map (fun x : Int => x)) w) := by
  have HL := Aside0.mk hl
  clear hl
  go_enter Try.func92, Try.ntmps92
  go_wp2_with (refine Kd.S_make (Kd.int .i64) w.heap.size 3 rfl (N := 7) rfl 23 _ _ rfl (l.length : Int) rfl rfl Try.underlying23 (.int .i64 0) 8 info3 rfl (by decide) (by omega) (0 : Int) (ok := fun _ => True) (okp := fun _ => True) rfl (fun _ hk => hk) trivial (by omega) (by rw [Int.toNat_natCast]; omega) (Below.refl _ _) (Nat.le_refl _) ?_; intro v1 w1 hr hb hg hat; rw [Int.toNat_natCast, ← fill_zero (fun x : Int => x)] at hr; obtain ⟨g, cap, hv, hg1⟩ := S_block hr hat; rw [fill_len _ _ _ _ (Nat.zero_le _)] at hv; subst hv; have HS := Aside0.mk hr; have HB := Aside0.mk hb; clear hr hb hg hat)
  go_loopw [4] (fun v wr => ∃ i : Nat, i ≤ l.length ∧ v = .int .i64 i ∧ Aside0 (Kd.S (Kd.int .i64) 3 wr w.heap.size (fun _ => True) (.slice (some ⟨g, 0, none⟩) l.length cap) (fillAt (fun x : Int => x) (0 : Int) l i)) ∧ Aside0 (Below w.heap.size w wr)) (fun v _ => l.length - (intOf v).toNat)
  case atStart => exact ⟨0, Nat.zero_le _, rfl, HS, HB⟩
  case round =>
    clear HS HB
    obtain ⟨i, hi, rfl, HS, HB⟩ := hrel
    by_cases hlt : i < l.length
    rotate_left
    · obtain rfl : i = l.length := by omega
      have n0_ := HS
      rw [fill_all] at n0_
      clear HS
      go_wp2
      go_ret
      exact ⟨_, rfl, n0_.out, HB.out⟩
    obtain ⟨ad, eA, e0⟩ := int_at (Kd.C_below HL.out HB.out) i hlt
    subst eA
    obtain ⟨w2, rfl⟩ : ∃ w2 : World, w2 = wr := ⟨_, rfl⟩
    have HB2 := Aside0.mk (Below.refl w2.heap.size w2)
    have HP := Aside0.mk (S_put HS.out HB2.out (rfl : (Kd.int .i64).M w2 w2.heap.size (fun _ => True) l[i] [.int .i64 l[i]]) (0 : Int) i (by omega) HB.out.size)
    rw [show l[i] = ((fun x : Int => x) l[i]) from rfl, fill_set _ _ _ _ hlt] at HP
    have HS2 := Aside0.mk (Kd.S_below HS.out HB2.out)
    have HB3 := Aside0.mk (below_then HB.out HB.out.size HB2.out)
    obtain ⟨u0, p0, f0⟩ : ∃ u, w2.cell? ⟨g, i, none⟩ = some u ∧ w2.frozen? ⟨g, i, none⟩ = false := by have := S_cell HS2.out (0 : Int) i (by omega) 0 (by decide); rwa [show ((Kd.int .i64)).sz = 1 from rfl, Nat.mul_one, Nat.add_zero] at this
    go_wp2
    go_roundw
    case rel =>
      refine ⟨i + 1, by omega, by go_num, ?_, ⟨by with_reducible repeat (first | exact HB3.out | refine below_set ?_ hg1)⟩⟩
      have h3 := HP.out.1
      exact ⟨by rw [show ((Kd.int .i64)).sz = 1 from rfl, Nat.mul_one] at h3; exact h3⟩
    case measure => simp [intOf]; omega
set_option maxRecDepth 100000 in
theorem laws_toMail.makes (m : S65) (cs : Array Value) (w : World) (hm : k65.K w m cs.toList) (hs : smM m) : Calls Try.prog 42 #[.agg cs] w (Makes k69a (cvM m) w) := by
  obtain ⟨A2, c2, e, l2, g2⟩ := k65_open hm
  obtain rfl : cs = _ := Array.ext' e
  have G2 := Aside0.mk g2
  have hs1 := hs.1
  clear hm e g2 hs
  obtain ⟨w1, hw1⟩ : ∃ w1, ((w.alloc (.cells #[.int .i64 m.f0, .int .i64 m.f1, .slice A2 m.f2.length c2, .string m.f3] 65)).alloc (.cells #[.int .i64 0, .int .i64 0, .slice none 0 0, .string ⟨#[]⟩] 69)).alloc (.cells #[.int .i64 m.f0, .int .i64 m.f1, .slice none 0 0, .string ⟨#[]⟩] 69) = w1 := ⟨_, rfl⟩
  have B0 := Aside0.mk (show w1.heap[w.heap.size]? = some (.cells #[.int .i64 m.f0, .int .i64 m.f1, .slice A2 m.f2.length c2, .string m.f3] 65 (0, 0)) by rw [← hw1]; refine blk_alloc (blk_alloc ?_ _) _; exact heap_alloc_new w _)
  have B1 := Aside0.mk (show w1.heap[w.heap.size + 1]? = some (.cells #[.int .i64 0, .int .i64 0, .slice none 0 0, .string ⟨#[]⟩] 69 (0, 0)) by rw [← hw1]; refine blk_alloc ?_ _; simpa using heap_alloc_new (w.alloc (.cells #[.int .i64 m.f0, .int .i64 m.f1, .slice A2 m.f2.length c2, .string m.f3] 65)) (.cells #[.int .i64 0, .int .i64 0, .slice none 0 0, .string ⟨#[]⟩] 69))
  have B2 := Aside0.mk (show w1.heap[w.heap.size + 1 + 1]? = some (.cells #[.int .i64 m.f0, .int .i64 m.f1, .slice none 0 0, .string ⟨#[]⟩] 69 (0, 0)) by rw [← hw1]; simpa using heap_alloc_new ((w.alloc (.cells #[.int .i64 m.f0, .int .i64 m.f1, .slice A2 m.f2.length c2, .string m.f3] 65)).alloc (.cells #[.int .i64 0, .int .i64 0, .slice none 0 0, .string ⟨#[]⟩] 69)) (.cells #[.int .i64 m.f0, .int .i64 m.f1, .slice none 0 0, .string ⟨#[]⟩] 69))
  have HB := Aside0.mk (show Below w.heap.size w w1 by rw [← hw1]; exact below_alloc (below_alloc (below_alloc (Below.refl _ _) _) _) _)
  have HW := Aside0.mk hw1
  clear hw1
  go_enter Try.func42, Try.ntmps42
  go_wp2_with fail
  rw [HW.out]
  clear HW
  have hNHR : w.heap.size + 1 + 1 < w1.heap.size := blk_lt B2.out
  refine (laws_toRegS.makes m.f2 A2 c2 w1 (Kd.C_below G2.out HB.out) l2 hs1).mono ?_
  rintro e w2 ⟨v_, rfl, hS, hb⟩
  obtain ⟨AHR, cHR, hv_⟩ := Kd.S_slice hS
  rw [List.length_map] at hv_
  subst hv_
  have HR := Aside0.mk (Kd.S_mono (ok' := fun k => w1.heap.size ≤ k) (Kd.S_bound hS) (fun k hk => hk.2.1))
  have n0_ := Aside0.mk (blk_below B0.out hb)
  have n1_ := Aside0.mk (blk_below B1.out hb)
  have n2_ := Aside0.mk (blk_below B2.out hb)
  have n3_ := Aside0.mk (below_then HB.out HB.out.size hb)
  clear B0 B1 B2 HB
  have B0 := n0_
  have B1 := n1_
  have B2 := n2_
  have HB := n3_
  clear n0_ n1_ n2_ n3_
  clear hb hS
  have l3 : w2.cell? ⟨w.heap.size, 3, none⟩ = some (.string m.f3) := (blk_cell B0.out 3).trans rfl
  have t0 : w2.cell? ⟨w.heap.size + 1 + 1, 0, none⟩ = some (.int .i64 m.f0) := (blk_cell B2.out 0).trans rfl
  have y0 := blk_frozen B2.out 0
  have t1 : w2.cell? ⟨w.heap.size + 1 + 1, 1, none⟩ = some (.int .i64 m.f1) := (blk_cell B2.out 1).trans rfl
  have y1 := blk_frozen B2.out 1
  have t2 : w2.cell? ⟨w.heap.size + 1 + 1, 2, none⟩ = some (.slice none 0 0) := (blk_cell B2.out 2).trans rfl
  have y2 := blk_frozen B2.out 2
  have t3 : w2.cell? ⟨w.heap.size + 1 + 1, 3, none⟩ = some (.string ⟨#[]⟩) := (blk_cell B2.out 3).trans rfl
  have y3 := blk_frozen B2.out 3
  have x0 : w2.cell? ⟨w.heap.size + 1, 0, none⟩ = some (.int .i64 0) := (blk_cell B1.out 0).trans rfl
  have x1 : w2.cell? ⟨w.heap.size + 1, 1, none⟩ = some (.int .i64 0) := (blk_cell B1.out 1).trans rfl
  have x2 : w2.cell? ⟨w.heap.size + 1, 2, none⟩ = some (.slice none 0 0) := (blk_cell B1.out 2).trans rfl
  have x3 : w2.cell? ⟨w.heap.size + 1, 3, none⟩ = some (.string ⟨#[]⟩) := (blk_cell B1.out 3).trans rfl
  have f0 := blk_frozen B1.out 0
  have f1 := blk_frozen B1.out 1
  have f2 := blk_frozen B1.out 2
  have f3 := blk_frozen B1.out 3
  go_wp2
  exact bodyPost_ret (results_cell_row rfl _ _ (w.heap.size + 1) 69 #[.int .i64 m.f0, .int .i64 m.f1, .slice AHR m.f2.length cHR, .string m.f3] (0, 0) _ rfl (blk_put (cs := #[.int .i64 m.f0, .int .i64 m.f1, .slice AHR m.f2.length cHR, .string ⟨#[]⟩]) (cs' := #[.int .i64 m.f0, .int .i64 m.f1, .slice AHR m.f2.length cHR, .string m.f3]) (blk_put (cs := #[.int .i64 m.f0, .int .i64 m.f1, .slice none 0 0, .string ⟨#[]⟩]) (cs' := #[.int .i64 m.f0, .int .i64 m.f1, .slice AHR m.f2.length cHR, .string ⟨#[]⟩]) (blk_put (cs := #[.int .i64 m.f0, .int .i64 0, .slice none 0 0, .string ⟨#[]⟩]) (cs' := #[.int .i64 m.f0, .int .i64 m.f1, .slice none 0 0, .string ⟨#[]⟩]) (blk_put (cs := #[.int .i64 0, .int .i64 0, .slice none 0 0, .string ⟨#[]⟩]) (cs' := #[.int .i64 m.f0, .int .i64 0, .slice none 0 0, .string ⟨#[]⟩]) (blk_far (blk_far (B1.out) (by simp; try omega) _) (by simp; try omega) _) 0 (.int .i64 m.f0) rfl) 1 (.int .i64 m.f1) rfl) 2 (.slice AHR m.f2.length cHR) rfl) 3 (.string m.f3) rfl) Try.underlying69 rfl (by kernel_rfl)) rfl ⟨_, rfl, k69a_mkM (cvM m) (Kd.S_lower (Kd.S_mono (Kd.S_far (p := ⟨w.heap.size + 1, 3, none⟩) (Kd.S_far (p := ⟨w.heap.size + 1, 2, none⟩) (Kd.S_far (p := ⟨w.heap.size + 1, 1, none⟩) (Kd.S_far (p := ⟨w.heap.size + 1, 0, none⟩) (Kd.S_far (p := ⟨w.heap.size + 1 + 1, 3, none⟩) (Kd.S_far (p := ⟨w.heap.size + 1 + 1, 2, none⟩) (HR.out) (fun k hk => by show k ≠ w.heap.size + 1 + 1; omega) (.slice AHR m.f2.length cHR)) (fun k hk => by show k ≠ w.heap.size + 1 + 1; omega) (.string m.f3)) (fun k hk => by show k ≠ w.heap.size + 1; omega) (.int .i64 m.f0)) (fun k hk => by show k ≠ w.heap.size + 1; omega) (.int .i64 m.f1)) (fun k hk => by show k ≠ w.heap.size + 1; omega) (.slice AHR m.f2.length cHR)) (fun k hk => by show k ≠ w.heap.size + 1; omega) (.string m.f3)) (fun _ _ => trivial)) (by omega)), below_set (below_set (below_set (below_set (below_set (below_set (HB.out) (by omega)) (by omega)) (by omega)) (by omega)) (by omega)) (by omega)⟩
set_option maxRecDepth 100000 in
set_option maxHeartbeats 4000000 in
theorem laws_toMailS.makes (l : List S65) (A : Option Addr) (c : Nat) (w : World) (hl : Kd.C k65 w A l.length l) (hc : l.length ≤ c) (hn : l.length ≤ 1048576) (hx : ∀ m ∈ l, smM m) :
    Calls Try.prog 113 #[.slice A l.length c] w (MakesS k69a 69 (l.map cvM) w) := by
  have HL := Aside0.mk hl
  clear hl
  have HX := Aside0.mk hx
  clear hx
  go_enter Try.func113, Try.ntmps113
  go_wp2_with (refine Kd.S_make k69a w.heap.size 69 rfl (N := 7) rfl 45 _ _ rfl (l.length : Int) rfl rfl Try.underlying45 (.agg #[(.int .i64 0), (.int .i64 0), (.slice none 0 0), (.string ⟨#[]⟩)]) 56 info69 rfl (by decide) (by omega) z69 (ok := fun _ => True) (okp := fun _ => True) (k69a_mkM z69 (Kd.S_nil _ _ _ _ _)) (fun _ hk => hk) trivial (by omega) (by rw [Int.toNat_natCast]; omega) (Below.refl _ _) (Nat.le_refl _) ?_; intro v1 w1 hr hb hg hat; rw [Int.toNat_natCast, ← fill_zero cvM] at hr; obtain ⟨g, cap, hv, hg1⟩ := S_block hr hat; rw [fill_len _ _ _ _ (Nat.zero_le _)] at hv; subst hv; have HS := Aside0.mk hr; have HB := Aside0.mk hb; clear hr hb hg hat)
  go_loopw [4] (fun v wr => ∃ i : Nat, i ≤ l.length ∧ v = .int .i64 i ∧ Aside0 (Kd.S k69a 69 wr w.heap.size (fun _ => True) (.slice (some ⟨g, 0, none⟩) l.length cap) (fillAt cvM z69 l i)) ∧ Aside0 (Below w.heap.size w wr)) (fun v _ => l.length - (intOf v).toNat)
  case atStart => exact ⟨0, Nat.zero_le _, rfl, HS, HB⟩
  case round =>
    clear HS HB
    obtain ⟨i, hi, rfl, HS, HB⟩ := hrel
    by_cases hlt : i < l.length
    rotate_left
    · obtain rfl : i = l.length := by omega
      have n0_ := HS
      rw [fill_all] at n0_
      clear HS
      go_wp2
      go_ret
      exact ⟨_, rfl, n0_.out, HB.out⟩
    obtain ⟨ad, A2, c2, eA, e0, e1, e2, e3, hK⟩ := mail65_at (Kd.C_below HL.out HB.out) i hlt
    subst eA
    have HK := Aside0.mk hK
    have hsm := HX.out l[i] (List.getElem_mem hlt)
    clear hK
    go_wp2_with fail
    refine (laws_toMail.makes l[i] _ wr HK.out hsm).mono ?_
    rintro e w2 ⟨cs_, rfl, hM0, hb⟩
    obtain ⟨v2_, hcs_, hS2_⟩ := k69a_openM hM0
    obtain ⟨Ar_, cr_, rfl⟩ := Kd.S_slice hS2_
    obtain rfl : cs_ = _ := Array.ext' hcs_
    have HB2 := Aside0.mk hb
    clear hb hcs_ hS2_ e0 e1 e2 e3
    have hM_ := hM0
    clear hM0
    have HP := Aside0.mk (S_put HS.out HB2.out hM_ z69 i (by omega) HB.out.size)
    rw [fill_set _ _ _ _ hlt] at HP
    have HS2 := Aside0.mk (Kd.S_below HS.out HB2.out)
    have HB3 := Aside0.mk (below_then HB.out HB.out.size HB2.out)
    obtain ⟨u0, p0, f0⟩ : ∃ u, w2.cell? ⟨g, i * 4, none⟩ = some u ∧ w2.frozen? ⟨g, i * 4, none⟩ = false := S_cell HS2.out z69 i (by omega) 0 (by decide)
    obtain ⟨u1, p1, f1⟩ : ∃ u, w2.cell? ⟨g, i * 4 + 1, none⟩ = some u ∧ w2.frozen? ⟨g, i * 4 + 1, none⟩ = false := S_cell HS2.out z69 i (by omega) 1 (by decide)
    obtain ⟨u2, p2, f2⟩ : ∃ u, w2.cell? ⟨g, i * 4 + 2, none⟩ = some u ∧ w2.frozen? ⟨g, i * 4 + 2, none⟩ = false := S_cell HS2.out z69 i (by omega) 2 (by decide)
    obtain ⟨u3, p3, f3⟩ : ∃ u, w2.cell? ⟨g, i * 4 + 3, none⟩ = some u ∧ w2.frozen? ⟨g, i * 4 + 3, none⟩ = false := S_cell HS2.out z69 i (by omega) 3 (by decide)
    clear hM_
    go_wp2
    go_roundw
    case rel =>
      refine ⟨i + 1, by omega, by go_num, ?_, ⟨by with_reducible repeat (first | exact HB3.out | refine below_set ?_ hg1)⟩⟩
      have h3 := HP.out.1
      rw [show (k69a).sz = 4 from rfl] at h3
      simp only [World.setCells, Nat.add_assoc, Nat.reduceAdd] at h3
      exact ⟨h3⟩
    case measure => simp [intOf]; omega
set_option maxRecDepth 100000 in
theorem laws_toBox.makes (b : S42) (cs : Array Value) (w : World) (hm : k42.K w b cs.toList) (hs : smB b) : Calls Try.prog 28 #[.agg cs] w (Makes k47a (cvB b) w) := by
  obtain ⟨A5, c5, A6, c6, e, l5, g5, l6, g6⟩ := k42_open hm
  obtain rfl : cs = _ := Array.ext' e
  have G5 := Aside0.mk g5
  have G6 := Aside0.mk g6
  have hs1 := hs.2.1.1
  have HX := Aside0.mk hs.2.1.2
  have hs3 := hs.2.2
  clear hm e g5 g6 hs
  obtain ⟨w1, hw1⟩ : ∃ w1, ((w.alloc (.cells #[.int .i64 b.f0, .string b.f1, .int .i64 b.f2.f0, .int .i64 b.f2.f1, .int .i64 b.f3, .slice A5 b.f4.length c5, .slice A6 b.f5.length c6] 42)).alloc (.cells #[.int .i64 0, .string ⟨#[]⟩, .int .i64 0, .int .i64 0, .int .i64 0, .slice none 0 0, .slice none 0 0] 47)).alloc (.cells #[.int .i64 b.f0, .string b.f1, .int .i64 0, .int .i64 0, .int .i64 0, .slice none 0 0, .slice none 0 0] 47) = w1 := ⟨_, rfl⟩
  have B0 := Aside0.mk (show w1.heap[w.heap.size]? = some (.cells #[.int .i64 b.f0, .string b.f1, .int .i64 b.f2.f0, .int .i64 b.f2.f1, .int .i64 b.f3, .slice A5 b.f4.length c5, .slice A6 b.f5.length c6] 42 (0, 0)) by rw [← hw1]; refine blk_alloc (blk_alloc ?_ _) _; exact heap_alloc_new w _)
  have B1 := Aside0.mk (show w1.heap[w.heap.size + 1]? = some (.cells #[.int .i64 0, .string ⟨#[]⟩, .int .i64 0, .int .i64 0, .int .i64 0, .slice none 0 0, .slice none 0 0] 47 (0, 0)) by rw [← hw1]; refine blk_alloc ?_ _; simpa using heap_alloc_new (w.alloc (.cells #[.int .i64 b.f0, .string b.f1, .int .i64 b.f2.f0, .int .i64 b.f2.f1, .int .i64 b.f3, .slice A5 b.f4.length c5, .slice A6 b.f5.length c6] 42)) (.cells #[.int .i64 0, .string ⟨#[]⟩, .int .i64 0, .int .i64 0, .int .i64 0, .slice none 0 0, .slice none 0 0] 47))
  have B2 := Aside0.mk (show w1.heap[w.heap.size + 1 + 1]? = some (.cells #[.int .i64 b.f0, .string b.f1, .int .i64 0, .int .i64 0, .int .i64 0, .slice none 0 0, .slice none 0 0] 47 (0, 0)) by rw [← hw1]; simpa using heap_alloc_new ((w.alloc (.cells #[.int .i64 b.f0, .string b.f1, .int .i64 b.f2.f0, .int .i64 b.f2.f1, .int .i64 b.f3, .slice A5 b.f4.length c5, .slice A6 b.f5.length c6] 42)).alloc (.cells #[.int .i64 0, .string ⟨#[]⟩, .int .i64 0, .int .i64 0, .int .i64 0, .slice none 0 0, .slice none 0 0] 47)) (.cells #[.int .i64 b.f0, .string b.f1, .int .i64 0, .int .i64 0, .int .i64 0, .slice none 0 0, .slice none 0 0] 47))
  have HB := Aside0.mk (show Below w.heap.size w w1 by rw [← hw1]; exact below_alloc (below_alloc (below_alloc (Below.refl _ _) _) _) _)
  have HW := Aside0.mk hw1
  clear hw1
  go_enter Try.func28, Try.ntmps28
  go_wp2_with fail
  rw [HW.out]
  clear HW
  refine (laws_toStamp.makes b.f2 w1).mono ?_
  rintro e w2 ⟨rfl, hb⟩
  have n0_ := Aside0.mk (blk_below B0.out hb)
  have n1_ := Aside0.mk (blk_below B1.out hb)
  have n2_ := Aside0.mk (blk_below B2.out hb)
  have n3_ := Aside0.mk (below_then HB.out HB.out.size hb)
  clear B0 B1 B2 HB
  have B0 := n0_
  have B1 := n1_
  have B2 := n2_
  have HB := n3_
  clear n0_ n1_ n2_ n3_
  clear hb
  have l4 : w2.cell? ⟨w.heap.size, 4, none⟩ = some (.int .i64 b.f3) := (blk_cell B0.out 4).trans rfl
  have l5 : w2.cell? ⟨w.heap.size, 5, none⟩ = some (.slice A5 b.f4.length c5) := (blk_cell B0.out 5).trans rfl
  have t2 : w2.cell? ⟨w.heap.size + 1 + 1, 2, none⟩ = some (.int .i64 0) := (blk_cell B2.out 2).trans rfl
  have y2 := blk_frozen B2.out 2
  have t3 : w2.cell? ⟨w.heap.size + 1 + 1, 3, none⟩ = some (.int .i64 0) := (blk_cell B2.out 3).trans rfl
  have y3 := blk_frozen B2.out 3
  have t4 : w2.cell? ⟨w.heap.size + 1 + 1, 4, none⟩ = some (.int .i64 0) := (blk_cell B2.out 4).trans rfl
  have y4 := blk_frozen B2.out 4
  go_wp2_with fail
  clear l4
  clear l5
  clear t2 y2
  clear t3 y3
  clear t4 y4
  obtain ⟨v2, hw1⟩ : ∃ x, (((w2.setCell ⟨w.heap.size + 1 + 1, 2, none⟩ (.int .i64 b.f2.f0)).setCell ⟨w.heap.size + 1 + 1, 3, none⟩ (.int .i64 b.f2.f1)).setCell ⟨w.heap.size + 1 + 1, 4, none⟩ (.int .i64 b.f3)) = x := ⟨_, rfl⟩
  have n0_ := Aside0.mk (show v2.heap[w.heap.size]? = some (.cells #[.int .i64 b.f0, .string b.f1, .int .i64 b.f2.f0, .int .i64 b.f2.f1, .int .i64 b.f3, .slice A5 b.f4.length c5, .slice A6 b.f5.length c6] 42 (0, 0)) by rw [← hw1]; exact blk_far (blk_far (blk_far (B0.out) (by simp; try omega) _) (by simp; try omega) _) (by simp; try omega) _)
  have n1_ := Aside0.mk (show v2.heap[w.heap.size + 1]? = some (.cells #[.int .i64 0, .string ⟨#[]⟩, .int .i64 0, .int .i64 0, .int .i64 0, .slice none 0 0, .slice none 0 0] 47 (0, 0)) by rw [← hw1]; exact blk_far (blk_far (blk_far (B1.out) (by simp; try omega) _) (by simp; try omega) _) (by simp; try omega) _)
  have n2_ := Aside0.mk (show v2.heap[w.heap.size + 1 + 1]? = some (.cells #[.int .i64 b.f0, .string b.f1, .int .i64 b.f2.f0, .int .i64 b.f2.f1, .int .i64 b.f3, .slice none 0 0, .slice none 0 0] 47 (0, 0)) by rw [← hw1]; exact blk_put (cs := #[.int .i64 b.f0, .string b.f1, .int .i64 b.f2.f0, .int .i64 b.f2.f1, .int .i64 0, .slice none 0 0, .slice none 0 0]) (cs' := #[.int .i64 b.f0, .string b.f1, .int .i64 b.f2.f0, .int .i64 b.f2.f1, .int .i64 b.f3, .slice none 0 0, .slice none 0 0]) (blk_put (cs := #[.int .i64 b.f0, .string b.f1, .int .i64 b.f2.f0, .int .i64 0, .int .i64 0, .slice none 0 0, .slice none 0 0]) (cs' := #[.int .i64 b.f0, .string b.f1, .int .i64 b.f2.f0, .int .i64 b.f2.f1, .int .i64 0, .slice none 0 0, .slice none 0 0]) (blk_put (cs := #[.int .i64 b.f0, .string b.f1, .int .i64 0, .int .i64 0, .int .i64 0, .slice none 0 0, .slice none 0 0]) (cs' := #[.int .i64 b.f0, .string b.f1, .int .i64 b.f2.f0, .int .i64 0, .int .i64 0, .slice none 0 0, .slice none 0 0]) (B2.out) 2 (.int .i64 b.f2.f0) rfl) 3 (.int .i64 b.f2.f1) rfl) 4 (.int .i64 b.f3) rfl)
  have n3_ := Aside0.mk (show Below w.heap.size w v2 by rw [← hw1]; exact below_set (below_set (below_set (HB.out) (by omega)) (by omega)) (by omega))
  have HW := Aside0.mk hw1
  clear hw1 B0 B1 B2 HB
  have B0 := n0_
  have B1 := n1_
  have B2 := n2_
  have HB := n3_
  clear n0_ n1_ n2_ n3_
  rw [HW.out]
  clear HW
  have hNHR : w.heap.size + 1 + 1 < v2.heap.size := blk_lt B2.out
  refine (laws_toMailS.makes b.f4 A5 c5 v2 (Kd.C_below G5.out HB.out) l5 hs1 HX.out).mono ?_
  rintro e w3 ⟨v_, rfl, hS, hb⟩
  obtain ⟨AHR, cHR, hv_⟩ := Kd.S_slice hS
  rw [List.length_map] at hv_
  subst hv_
  have HR := Aside0.mk (Kd.S_mono (ok' := fun k => v2.heap.size ≤ k) (Kd.S_bound hS) (fun k hk => hk.2.1))
  have n0_ := Aside0.mk (blk_below B0.out hb)
  have n1_ := Aside0.mk (blk_below B1.out hb)
  have n2_ := Aside0.mk (blk_below B2.out hb)
  have n3_ := Aside0.mk (below_then HB.out HB.out.size hb)
  clear B0 B1 B2 HB
  have B0 := n0_
  have B1 := n1_
  have B2 := n2_
  have HB := n3_
  clear n0_ n1_ n2_ n3_
  clear hb hS
  have l6 : w3.cell? ⟨w.heap.size, 6, none⟩ = some (.slice A6 b.f5.length c6) := (blk_cell B0.out 6).trans rfl
  have t5 : w3.cell? ⟨w.heap.size + 1 + 1, 5, none⟩ = some (.slice none 0 0) := (blk_cell B2.out 5).trans rfl
  have y5 := blk_frozen B2.out 5
  go_wp2_with fail
  clear l6
  clear t5 y5
  obtain ⟨v3, hw1⟩ : ∃ x, (w3.setCell ⟨w.heap.size + 1 + 1, 5, none⟩ (.slice AHR b.f4.length cHR)) = x := ⟨_, rfl⟩
  have n0_ := Aside0.mk (show v3.heap[w.heap.size]? = some (.cells #[.int .i64 b.f0, .string b.f1, .int .i64 b.f2.f0, .int .i64 b.f2.f1, .int .i64 b.f3, .slice A5 b.f4.length c5, .slice A6 b.f5.length c6] 42 (0, 0)) by rw [← hw1]; exact blk_far (B0.out) (by simp; try omega) _)
  have n1_ := Aside0.mk (show v3.heap[w.heap.size + 1]? = some (.cells #[.int .i64 0, .string ⟨#[]⟩, .int .i64 0, .int .i64 0, .int .i64 0, .slice none 0 0, .slice none 0 0] 47 (0, 0)) by rw [← hw1]; exact blk_far (B1.out) (by simp; try omega) _)
  have n2_ := Aside0.mk (show v3.heap[w.heap.size + 1 + 1]? = some (.cells #[.int .i64 b.f0, .string b.f1, .int .i64 b.f2.f0, .int .i64 b.f2.f1, .int .i64 b.f3, .slice AHR b.f4.length cHR, .slice none 0 0] 47 (0, 0)) by rw [← hw1]; exact blk_put (cs := #[.int .i64 b.f0, .string b.f1, .int .i64 b.f2.f0, .int .i64 b.f2.f1, .int .i64 b.f3, .slice none 0 0, .slice none 0 0]) (cs' := #[.int .i64 b.f0, .string b.f1, .int .i64 b.f2.f0, .int .i64 b.f2.f1, .int .i64 b.f3, .slice AHR b.f4.length cHR, .slice none 0 0]) (B2.out) 5 (.slice AHR b.f4.length cHR) rfl)
  have n3_ := Aside0.mk (show Below w.heap.size w v3 by rw [← hw1]; exact below_set (HB.out) (by omega))
  have m_ := Aside0.mk (Kd.S_far (p := ⟨w.heap.size + 1 + 1, 5, none⟩) (HR.out) (fun k hk => by show k ≠ w.heap.size + 1 + 1; omega) (.slice AHR b.f4.length cHR))
  rw [hw1] at m_
  clear HR
  have HR := m_
  clear m_
  have HW := Aside0.mk hw1
  clear hw1 B0 B1 B2 HB
  have B0 := n0_
  have B1 := n1_
  have B2 := n2_
  have HB := n3_
  clear n0_ n1_ n2_ n3_
  rw [HW.out]
  clear HW
  have hNHI : w.heap.size + 1 + 1 < v3.heap.size := blk_lt B2.out
  refine (laws_toIntS.makes b.f5 A6 c6 v3 (Kd.C_below G6.out HB.out) l6 hs3).mono ?_
  rintro e w4 ⟨v_, rfl, hS, hb⟩
  obtain ⟨AHI, cHI, hv_⟩ := Kd.S_slice hS
  rw [map_id_int] at hv_ hS
  subst hv_
  have HI := Aside0.mk (Kd.S_mono (ok' := fun k => v3.heap.size ≤ k) (Kd.S_bound hS) (fun k hk => hk.2.1))
  have n0_ := Aside0.mk (blk_below B0.out hb)
  have n1_ := Aside0.mk (blk_below B1.out hb)
  have n2_ := Aside0.mk (blk_below B2.out hb)
  have n3_ := Aside0.mk (below_then HB.out HB.out.size hb)
  have m_ := Aside0.mk (Kd.S_old HR.out hb)
  clear HR
  have HR := m_
  clear m_
  clear B0 B1 B2 HB
  have B0 := n0_
  have B1 := n1_
  have B2 := n2_
  have HB := n3_
  clear n0_ n1_ n2_ n3_
  clear hb hS
  have t0 : w4.cell? ⟨w.heap.size + 1 + 1, 0, none⟩ = some (.int .i64 b.f0) := (blk_cell B2.out 0).trans rfl
  have y0 := blk_frozen B2.out 0
  have t1 : w4.cell? ⟨w.heap.size + 1 + 1, 1, none⟩ = some (.string b.f1) := (blk_cell B2.out 1).trans rfl
  have y1 := blk_frozen B2.out 1
  have t2 : w4.cell? ⟨w.heap.size + 1 + 1, 2, none⟩ = some (.int .i64 b.f2.f0) := (blk_cell B2.out 2).trans rfl
  have y2 := blk_frozen B2.out 2
  have t3 : w4.cell? ⟨w.heap.size + 1 + 1, 3, none⟩ = some (.int .i64 b.f2.f1) := (blk_cell B2.out 3).trans rfl
  have y3 := blk_frozen B2.out 3
  have t4 : w4.cell? ⟨w.heap.size + 1 + 1, 4, none⟩ = some (.int .i64 b.f3) := (blk_cell B2.out 4).trans rfl
  have y4 := blk_frozen B2.out 4
  have t5 : w4.cell? ⟨w.heap.size + 1 + 1, 5, none⟩ = some (.slice AHR b.f4.length cHR) := (blk_cell B2.out 5).trans rfl
  have y5 := blk_frozen B2.out 5
  have t6 : w4.cell? ⟨w.heap.size + 1 + 1, 6, none⟩ = some (.slice none 0 0) := (blk_cell B2.out 6).trans rfl
  have y6 := blk_frozen B2.out 6
  have x0 : w4.cell? ⟨w.heap.size + 1, 0, none⟩ = some (.int .i64 0) := (blk_cell B1.out 0).trans rfl
  have x1 : w4.cell? ⟨w.heap.size + 1, 1, none⟩ = some (.string ⟨#[]⟩) := (blk_cell B1.out 1).trans rfl
  have x2 : w4.cell? ⟨w.heap.size + 1, 2, none⟩ = some (.int .i64 0) := (blk_cell B1.out 2).trans rfl
  have x3 : w4.cell? ⟨w.heap.size + 1, 3, none⟩ = some (.int .i64 0) := (blk_cell B1.out 3).trans rfl
  have x4 : w4.cell? ⟨w.heap.size + 1, 4, none⟩ = some (.int .i64 0) := (blk_cell B1.out 4).trans rfl
  have x5 : w4.cell? ⟨w.heap.size + 1, 5, none⟩ = some (.slice none 0 0) := (blk_cell B1.out 5).trans rfl
  have x6 : w4.cell? ⟨w.heap.size + 1, 6, none⟩ = some (.slice none 0 0) := (blk_cell B1.out 6).trans rfl
  have f0 := blk_frozen B1.out 0
  have f1 := blk_frozen B1.out 1
  have f2 := blk_frozen B1.out 2
  have f3 := blk_frozen B1.out 3
  have f4 := blk_frozen B1.out 4
  have f5 := blk_frozen B1.out 5
  have f6 := blk_frozen B1.out 6
  go_wp2
  exact bodyPost_ret (results_cell_row rfl _ _ (w.heap.size + 1) 47 #[.int .i64 b.f0, .string b.f1, .int .i64 b.f2.f0, .int .i64 b.f2.f1, .int .i64 b.f3, .slice AHR b.f4.length cHR, .slice AHI b.f5.length cHI] (0, 0) _ rfl (blk_put (cs := #[.int .i64 b.f0, .string b.f1, .int .i64 b.f2.f0, .int .i64 b.f2.f1, .int .i64 b.f3, .slice AHR b.f4.length cHR, .slice none 0 0]) (cs' := #[.int .i64 b.f0, .string b.f1, .int .i64 b.f2.f0, .int .i64 b.f2.f1, .int .i64 b.f3, .slice AHR b.f4.length cHR, .slice AHI b.f5.length cHI]) (blk_put (cs := #[.int .i64 b.f0, .string b.f1, .int .i64 b.f2.f0, .int .i64 b.f2.f1, .int .i64 b.f3, .slice none 0 0, .slice none 0 0]) (cs' := #[.int .i64 b.f0, .string b.f1, .int .i64 b.f2.f0, .int .i64 b.f2.f1, .int .i64 b.f3, .slice AHR b.f4.length cHR, .slice none 0 0]) (blk_put (cs := #[.int .i64 b.f0, .string b.f1, .int .i64 b.f2.f0, .int .i64 b.f2.f1, .int .i64 0, .slice none 0 0, .slice none 0 0]) (cs' := #[.int .i64 b.f0, .string b.f1, .int .i64 b.f2.f0, .int .i64 b.f2.f1, .int .i64 b.f3, .slice none 0 0, .slice none 0 0]) (blk_put (cs := #[.int .i64 b.f0, .string b.f1, .int .i64 b.f2.f0, .int .i64 0, .int .i64 0, .slice none 0 0, .slice none 0 0]) (cs' := #[.int .i64 b.f0, .string b.f1, .int .i64 b.f2.f0, .int .i64 b.f2.f1, .int .i64 0, .slice none 0 0, .slice none 0 0]) (blk_put (cs := #[.int .i64 b.f0, .string b.f1, .int .i64 0, .int .i64 0, .int .i64 0, .slice none 0 0, .slice none 0 0]) (cs' := #[.int .i64 b.f0, .string b.f1, .int .i64 b.f2.f0, .int .i64 0, .int .i64 0, .slice none 0 0, .slice none 0 0]) (blk_put (cs := #[.int .i64 b.f0, .string ⟨#[]⟩, .int .i64 0, .int .i64 0, .int .i64 0, .slice none 0 0, .slice none 0 0]) (cs' := #[.int .i64 b.f0, .string b.f1, .int .i64 0, .int .i64 0, .int .i64 0, .slice none 0 0, .slice none 0 0]) (blk_put (cs := #[.int .i64 0, .string ⟨#[]⟩, .int .i64 0, .int .i64 0, .int .i64 0, .slice none 0 0, .slice none 0 0]) (cs' := #[.int .i64 b.f0, .string ⟨#[]⟩, .int .i64 0, .int .i64 0, .int .i64 0, .slice none 0 0, .slice none 0 0]) (blk_far (B1.out) (by simp; try omega) _) 0 (.int .i64 b.f0) rfl) 1 (.string b.f1) rfl) 2 (.int .i64 b.f2.f0) rfl) 3 (.int .i64 b.f2.f1) rfl) 4 (.int .i64 b.f3) rfl) 5 (.slice AHR b.f4.length cHR) rfl) 6 (.slice AHI b.f5.length cHI) rfl) Try.underlying47 rfl (by kernel_rfl)) rfl ⟨_, rfl, k47a_mkM (cvB b) (fun k => k < v3.heap.size) (Kd.S_lower (Kd.S_mono (Kd.S_far (p := ⟨w.heap.size + 1, 6, none⟩) (Kd.S_far (p := ⟨w.heap.size + 1, 5, none⟩) (Kd.S_far (p := ⟨w.heap.size + 1, 4, none⟩) (Kd.S_far (p := ⟨w.heap.size + 1, 3, none⟩) (Kd.S_far (p := ⟨w.heap.size + 1, 2, none⟩) (Kd.S_far (p := ⟨w.heap.size + 1, 1, none⟩) (Kd.S_far (p := ⟨w.heap.size + 1, 0, none⟩) (Kd.S_far (p := ⟨w.heap.size + 1 + 1, 6, none⟩) (HR.out) (fun k hk => by show k ≠ w.heap.size + 1 + 1; omega) (.slice AHI b.f5.length cHI)) (fun k hk => by show k ≠ w.heap.size + 1; omega) (.int .i64 b.f0)) (fun k hk => by show k ≠ w.heap.size + 1; omega) (.string b.f1)) (fun k hk => by show k ≠ w.heap.size + 1; omega) (.int .i64 b.f2.f0)) (fun k hk => by show k ≠ w.heap.size + 1; omega) (.int .i64 b.f2.f1)) (fun k hk => by show k ≠ w.heap.size + 1; omega) (.int .i64 b.f3)) (fun k hk => by show k ≠ w.heap.size + 1; omega) (.slice AHR b.f4.length cHR)) (fun k hk => by show k ≠ w.heap.size + 1; omega) (.slice AHI b.f5.length cHI)) (fun k hk => ⟨trivial, hk.2⟩)) (by omega)) (Kd.S_lower (Kd.S_mono (Kd.S_far (p := ⟨w.heap.size + 1, 6, none⟩) (Kd.S_far (p := ⟨w.heap.size + 1, 5, none⟩) (Kd.S_far (p := ⟨w.heap.size + 1, 4, none⟩) (Kd.S_far (p := ⟨w.heap.size + 1, 3, none⟩) (Kd.S_far (p := ⟨w.heap.size + 1, 2, none⟩) (Kd.S_far (p := ⟨w.heap.size + 1, 1, none⟩) (Kd.S_far (p := ⟨w.heap.size + 1, 0, none⟩) (Kd.S_far (p := ⟨w.heap.size + 1 + 1, 6, none⟩) (HI.out) (fun k hk => by show k ≠ w.heap.size + 1 + 1; omega) (.slice AHI b.f5.length cHI)) (fun k hk => by show k ≠ w.heap.size + 1; omega) (.int .i64 b.f0)) (fun k hk => by show k ≠ w.heap.size + 1; omega) (.string b.f1)) (fun k hk => by show k ≠ w.heap.size + 1; omega) (.int .i64 b.f2.f0)) (fun k hk => by show k ≠ w.heap.size + 1; omega) (.int .i64 b.f2.f1)) (fun k hk => by show k ≠ w.heap.size + 1; omega) (.int .i64 b.f3)) (fun k hk => by show k ≠ w.heap.size + 1; omega) (.slice AHR b.f4.length cHR)) (fun k hk => by show k ≠ w.heap.size + 1; omega) (.slice AHI b.f5.length cHI)) (fun k hk => ⟨trivial, Nat.not_lt.2 hk⟩)) (by omega)), below_set (below_set (below_set (below_set (below_set (below_set (below_set (below_set (HB.out) (by omega)) (by omega)) (by omega)) (by omega)) (by omega)) (by omega)) (by omega)) (by omega)⟩
set_option maxRecDepth 100000 in
set_option maxHeartbeats 4000000 in
theorem laws_toBoxS.makes (l : List S42) (A : Option Addr) (c : Nat) (w : World) (hl : Kd.C k42 w A l.length l) (hc : l.length ≤ c) (hn : l.length ≤ 1048576) (hx : ∀ m ∈ l, smB m) :
    Calls Try.prog 91 #[.slice A l.length c] w (MakesS k47a 47 (l.map cvB) w) := by
  have HL := Aside0.mk hl
  clear hl
  have HX := Aside0.mk hx
  clear hx
  go_enter Try.func91, Try.ntmps91
  go_wp2_with (refine Kd.S_make k47a w.heap.size 47 rfl (N := 7) rfl 27 _ _ rfl (l.length : Int) rfl rfl Try.underlying27 (.agg #[(.int .i64 0), (.string ⟨#[]⟩), (.int .i64 0), (.int .i64 0), (.int .i64 0), (.slice none 0 0), (.slice none 0 0)]) 96 info47 rfl (by decide) (by omega) z47 (ok := fun _ => True) (okp := fun _ => True) (k47a_mkM z47 (fun _ => True) (Kd.S_nil _ _ _ _ _) (Kd.S_nil _ _ _ _ _)) (fun _ hk => hk) trivial (by omega) (by rw [Int.toNat_natCast]; omega) (Below.refl _ _) (Nat.le_refl _) ?_; intro v1 w1 hr hb hg hat; rw [Int.toNat_natCast, ← fill_zero cvB] at hr; obtain ⟨g, cap, hv, hg1⟩ := S_block hr hat; rw [fill_len _ _ _ _ (Nat.zero_le _)] at hv; subst hv; have HS := Aside0.mk hr; have HB := Aside0.mk hb; clear hr hb hg hat)
  go_loopw [4] (fun v wr => ∃ i : Nat, i ≤ l.length ∧ v = .int .i64 i ∧ Aside0 (Kd.S k47a 47 wr w.heap.size (fun _ => True) (.slice (some ⟨g, 0, none⟩) l.length cap) (fillAt cvB z47 l i)) ∧ Aside0 (Below w.heap.size w wr)) (fun v _ => l.length - (intOf v).toNat)
  case atStart => exact ⟨0, Nat.zero_le _, rfl, HS, HB⟩
  case round =>
    clear HS HB
    obtain ⟨i, hi, rfl, HS, HB⟩ := hrel
    by_cases hlt : i < l.length
    rotate_left
    · obtain rfl : i = l.length := by omega
      have n0_ := HS
      rw [fill_all] at n0_
      clear HS
      go_wp2
      go_ret
      exact ⟨_, rfl, n0_.out, HB.out⟩
    obtain ⟨ad, A5, A6, c5, c6, eA, e0, e1, e2, e3, e4, e5, e6, hK⟩ := box42_at (Kd.C_below HL.out HB.out) i hlt
    subst eA
    have HK := Aside0.mk hK
    have hsm := HX.out l[i] (List.getElem_mem hlt)
    clear hK
    go_wp2_with fail
    refine (laws_toBox.makes l[i] _ wr HK.out hsm).mono ?_
    rintro e w2 ⟨cs_, rfl, hM0, hb⟩
    obtain ⟨p_, v2_, v3_, hcs_, hS2_, hS3_⟩ := k47a_openM hM0
    obtain ⟨Ar_, cr_, rfl⟩ := Kd.S_slice hS2_
    obtain ⟨As_, cs2_, rfl⟩ := Kd.S_slice hS3_
    obtain rfl : cs_ = _ := Array.ext' hcs_
    have HB2 := Aside0.mk hb
    clear hb hcs_ hS2_ hS3_ e0 e1 e2 e3 e4 e5 e6
    have hM_ := hM0
    clear hM0
    have HP := Aside0.mk (S_put HS.out HB2.out hM_ z47 i (by omega) HB.out.size)
    rw [fill_set _ _ _ _ hlt] at HP
    have HS2 := Aside0.mk (Kd.S_below HS.out HB2.out)
    have HB3 := Aside0.mk (below_then HB.out HB.out.size HB2.out)
    obtain ⟨u0, p0, f0⟩ : ∃ u, w2.cell? ⟨g, i * 7, none⟩ = some u ∧ w2.frozen? ⟨g, i * 7, none⟩ = false := S_cell HS2.out z47 i (by omega) 0 (by decide)
    obtain ⟨u1, p1, f1⟩ : ∃ u, w2.cell? ⟨g, i * 7 + 1, none⟩ = some u ∧ w2.frozen? ⟨g, i * 7 + 1, none⟩ = false := S_cell HS2.out z47 i (by omega) 1 (by decide)
    obtain ⟨u2, p2, f2⟩ : ∃ u, w2.cell? ⟨g, i * 7 + 2, none⟩ = some u ∧ w2.frozen? ⟨g, i * 7 + 2, none⟩ = false := S_cell HS2.out z47 i (by omega) 2 (by decide)
    obtain ⟨u3, p3, f3⟩ : ∃ u, w2.cell? ⟨g, i * 7 + 3, none⟩ = some u ∧ w2.frozen? ⟨g, i * 7 + 3, none⟩ = false := S_cell HS2.out z47 i (by omega) 3 (by decide)
    obtain ⟨u4, p4, f4⟩ : ∃ u, w2.cell? ⟨g, i * 7 + 4, none⟩ = some u ∧ w2.frozen? ⟨g, i * 7 + 4, none⟩ = false := S_cell HS2.out z47 i (by omega) 4 (by decide)
    obtain ⟨u5, p5, f5⟩ : ∃ u, w2.cell? ⟨g, i * 7 + 5, none⟩ = some u ∧ w2.frozen? ⟨g, i * 7 + 5, none⟩ = false := S_cell HS2.out z47 i (by omega) 5 (by decide)
    obtain ⟨u6, p6, f6⟩ : ∃ u, w2.cell? ⟨g, i * 7 + 6, none⟩ = some u ∧ w2.frozen? ⟨g, i * 7 + 6, none⟩ = false := S_cell HS2.out z47 i (by omega) 6 (by decide)
    clear hM_
    go_wp2
    go_roundw
    case rel =>
      refine ⟨i + 1, by omega, by go_num, ?_, ⟨by with_reducible repeat (first | exact HB3.out | refine below_set ?_ hg1)⟩⟩
      have h3 := HP.out.1
      rw [show (k47a).sz = 7 from rfl] at h3
      simp only [World.setCells, Nat.add_assoc, Nat.reduceAdd] at h3
      exact ⟨h3⟩
    case measure => simp [intOf]; omega
set_option maxRecDepth 100000 in
theorem laws_toStore.makes (s : S25) (cs : Array Value) (w : World) (hm : k25.K w s cs.toList) (hs : smS s) : Calls Try.prog 19 #[.agg cs] w (Makes k29a (cvT s) w) := by
  obtain ⟨A2, c2, A3, c3, e, l2, g2, l3, g3⟩ := k25_open hm
  obtain rfl : cs = _ := Array.ext' e
  have G5 := Aside0.mk g2
  have G6 := Aside0.mk g3
  have hs1 := hs.1.1
  have HX := Aside0.mk hs.1.2
  have hs3 := hs.2
  clear hm e g2 g3 hs
  obtain ⟨w1, hw1⟩ : ∃ w1, ((w.alloc (.cells #[.int .i64 s.f0, .int .i64 s.f1, .slice A2 s.f2.length c2, .slice A3 s.f3.length c3] 25)).alloc (.cells #[.int .i64 0, .int .i64 0, .slice none 0 0, .slice none 0 0] 29)).alloc (.cells #[.int .i64 s.f0, .int .i64 s.f1, .slice none 0 0, .slice none 0 0] 29) = w1 := ⟨_, rfl⟩
  have B0 := Aside0.mk (show w1.heap[w.heap.size]? = some (.cells #[.int .i64 s.f0, .int .i64 s.f1, .slice A2 s.f2.length c2, .slice A3 s.f3.length c3] 25 (0, 0)) by rw [← hw1]; refine blk_alloc (blk_alloc ?_ _) _; exact heap_alloc_new w _)
  have B1 := Aside0.mk (show w1.heap[w.heap.size + 1]? = some (.cells #[.int .i64 0, .int .i64 0, .slice none 0 0, .slice none 0 0] 29 (0, 0)) by rw [← hw1]; refine blk_alloc ?_ _; simpa using heap_alloc_new (w.alloc (.cells #[.int .i64 s.f0, .int .i64 s.f1, .slice A2 s.f2.length c2, .slice A3 s.f3.length c3] 25)) (.cells #[.int .i64 0, .int .i64 0, .slice none 0 0, .slice none 0 0] 29))
  have B2 := Aside0.mk (show w1.heap[w.heap.size + 1 + 1]? = some (.cells #[.int .i64 s.f0, .int .i64 s.f1, .slice none 0 0, .slice none 0 0] 29 (0, 0)) by rw [← hw1]; simpa using heap_alloc_new ((w.alloc (.cells #[.int .i64 s.f0, .int .i64 s.f1, .slice A2 s.f2.length c2, .slice A3 s.f3.length c3] 25)).alloc (.cells #[.int .i64 0, .int .i64 0, .slice none 0 0, .slice none 0 0] 29)) (.cells #[.int .i64 s.f0, .int .i64 s.f1, .slice none 0 0, .slice none 0 0] 29))
  have HB := Aside0.mk (show Below w.heap.size w w1 by rw [← hw1]; exact below_alloc (below_alloc (below_alloc (Below.refl _ _) _) _) _)
  have HW := Aside0.mk hw1
  clear hw1
  go_enter Try.func19, Try.ntmps19
  go_wp2_with fail
  rw [HW.out]
  clear HW
  have hNHR : w.heap.size + 1 + 1 < w1.heap.size := blk_lt B2.out
  refine (laws_toBoxS.makes s.f2 A2 c2 w1 (Kd.C_below G5.out HB.out) l2 hs1 HX.out).mono ?_
  rintro e w3 ⟨v_, rfl, hS, hb⟩
  obtain ⟨AHR, cHR, hv_⟩ := Kd.S_slice hS
  rw [List.length_map] at hv_
  subst hv_
  have HR := Aside0.mk (Kd.S_mono (ok' := fun k => w1.heap.size ≤ k) (Kd.S_bound hS) (fun k hk => hk.2.1))
  have n0_ := Aside0.mk (blk_below B0.out hb)
  have n1_ := Aside0.mk (blk_below B1.out hb)
  have n2_ := Aside0.mk (blk_below B2.out hb)
  have n3_ := Aside0.mk (below_then HB.out HB.out.size hb)
  clear B0 B1 B2 HB
  have B0 := n0_
  have B1 := n1_
  have B2 := n2_
  have HB := n3_
  clear n0_ n1_ n2_ n3_
  clear hb hS
  have l3 : w3.cell? ⟨w.heap.size, 3, none⟩ = some (.slice A3 s.f3.length c3) := (blk_cell B0.out 3).trans rfl
  have t2 : w3.cell? ⟨w.heap.size + 1 + 1, 2, none⟩ = some (.slice none 0 0) := (blk_cell B2.out 2).trans rfl
  have y2 := blk_frozen B2.out 2
  go_wp2_with fail
  clear l3
  clear t2 y2
  obtain ⟨v2, hw1⟩ : ∃ x, (w3.setCell ⟨w.heap.size + 1 + 1, 2, none⟩ (.slice AHR s.f2.length cHR)) = x := ⟨_, rfl⟩
  have n0_ := Aside0.mk (show v2.heap[w.heap.size]? = some (.cells #[.int .i64 s.f0, .int .i64 s.f1, .slice A2 s.f2.length c2, .slice A3 s.f3.length c3] 25 (0, 0)) by rw [← hw1]; exact blk_far (B0.out) (by simp; try omega) _)
  have n1_ := Aside0.mk (show v2.heap[w.heap.size + 1]? = some (.cells #[.int .i64 0, .int .i64 0, .slice none 0 0, .slice none 0 0] 29 (0, 0)) by rw [← hw1]; exact blk_far (B1.out) (by simp; try omega) _)
  have n2_ := Aside0.mk (show v2.heap[w.heap.size + 1 + 1]? = some (.cells #[.int .i64 s.f0, .int .i64 s.f1, .slice AHR s.f2.length cHR, .slice none 0 0] 29 (0, 0)) by rw [← hw1]; exact blk_put (cs := #[.int .i64 s.f0, .int .i64 s.f1, .slice none 0 0, .slice none 0 0]) (cs' := #[.int .i64 s.f0, .int .i64 s.f1, .slice AHR s.f2.length cHR, .slice none 0 0]) (B2.out) 2 (.slice AHR s.f2.length cHR) rfl)
  have n3_ := Aside0.mk (show Below w.heap.size w v2 by rw [← hw1]; exact below_set (HB.out) (by omega))
  have m_ := Aside0.mk (Kd.S_far (p := ⟨w.heap.size + 1 + 1, 2, none⟩) (HR.out) (fun k hk => by show k ≠ w.heap.size + 1 + 1; omega) (.slice AHR s.f2.length cHR))
  rw [hw1] at m_
  clear HR
  have HR := m_
  clear m_
  have HW := Aside0.mk hw1
  clear hw1 B0 B1 B2 HB
  have B0 := n0_
  have B1 := n1_
  have B2 := n2_
  have HB := n3_
  clear n0_ n1_ n2_ n3_
  rw [HW.out]
  clear HW
  have hNHI : w.heap.size + 1 + 1 < v2.heap.size := blk_lt B2.out
  refine (laws_toIntS.makes s.f3 A3 c3 v2 (Kd.C_below G6.out HB.out) l3 hs3).mono ?_
  rintro e w4 ⟨v_, rfl, hS, hb⟩
  obtain ⟨AHI, cHI, hv_⟩ := Kd.S_slice hS
  rw [map_id_int] at hv_ hS
  subst hv_
  have HI := Aside0.mk (Kd.S_mono (ok' := fun k => v2.heap.size ≤ k) (Kd.S_bound hS) (fun k hk => hk.2.1))
  have n0_ := Aside0.mk (blk_below B0.out hb)
  have n1_ := Aside0.mk (blk_below B1.out hb)
  have n2_ := Aside0.mk (blk_below B2.out hb)
  have n3_ := Aside0.mk (below_then HB.out HB.out.size hb)
  have m_ := Aside0.mk (Kd.S_old HR.out hb)
  clear HR
  have HR := m_
  clear m_
  clear B0 B1 B2 HB
  have B0 := n0_
  have B1 := n1_
  have B2 := n2_
  have HB := n3_
  clear n0_ n1_ n2_ n3_
  clear hb hS
  have t0 : w4.cell? ⟨w.heap.size + 1 + 1, 0, none⟩ = some (.int .i64 s.f0) := (blk_cell B2.out 0).trans rfl
  have y0 := blk_frozen B2.out 0
  have t1 : w4.cell? ⟨w.heap.size + 1 + 1, 1, none⟩ = some (.int .i64 s.f1) := (blk_cell B2.out 1).trans rfl
  have y1 := blk_frozen B2.out 1
  have t2 : w4.cell? ⟨w.heap.size + 1 + 1, 2, none⟩ = some (.slice AHR s.f2.length cHR) := (blk_cell B2.out 2).trans rfl
  have y2 := blk_frozen B2.out 2
  have t3 : w4.cell? ⟨w.heap.size + 1 + 1, 3, none⟩ = some (.slice none 0 0) := (blk_cell B2.out 3).trans rfl
  have y3 := blk_frozen B2.out 3
  have x0 : w4.cell? ⟨w.heap.size + 1, 0, none⟩ = some (.int .i64 0) := (blk_cell B1.out 0).trans rfl
  have x1 : w4.cell? ⟨w.heap.size + 1, 1, none⟩ = some (.int .i64 0) := (blk_cell B1.out 1).trans rfl
  have x2 : w4.cell? ⟨w.heap.size + 1, 2, none⟩ = some (.slice none 0 0) := (blk_cell B1.out 2).trans rfl
  have x3 : w4.cell? ⟨w.heap.size + 1, 3, none⟩ = some (.slice none 0 0) := (blk_cell B1.out 3).trans rfl
  have f0 := blk_frozen B1.out 0
  have f1 := blk_frozen B1.out 1
  have f2 := blk_frozen B1.out 2
  have f3 := blk_frozen B1.out 3
  go_wp2
  exact bodyPost_ret (results_cell_row rfl _ _ (w.heap.size + 1) 29 #[.int .i64 s.f0, .int .i64 s.f1, .slice AHR s.f2.length cHR, .slice AHI s.f3.length cHI] (0, 0) _ rfl (blk_put (cs := #[.int .i64 s.f0, .int .i64 s.f1, .slice AHR s.f2.length cHR, .slice none 0 0]) (cs' := #[.int .i64 s.f0, .int .i64 s.f1, .slice AHR s.f2.length cHR, .slice AHI s.f3.length cHI]) (blk_put (cs := #[.int .i64 s.f0, .int .i64 s.f1, .slice none 0 0, .slice none 0 0]) (cs' := #[.int .i64 s.f0, .int .i64 s.f1, .slice AHR s.f2.length cHR, .slice none 0 0]) (blk_put (cs := #[.int .i64 s.f0, .int .i64 0, .slice none 0 0, .slice none 0 0]) (cs' := #[.int .i64 s.f0, .int .i64 s.f1, .slice none 0 0, .slice none 0 0]) (blk_put (cs := #[.int .i64 0, .int .i64 0, .slice none 0 0, .slice none 0 0]) (cs' := #[.int .i64 s.f0, .int .i64 0, .slice none 0 0, .slice none 0 0]) (blk_far (B1.out) (by simp; try omega) _) 0 (.int .i64 s.f0) rfl) 1 (.int .i64 s.f1) rfl) 2 (.slice AHR s.f2.length cHR) rfl) 3 (.slice AHI s.f3.length cHI) rfl) Try.underlying29 rfl (by kernel_rfl)) rfl ⟨_, rfl, k29a_mkM (cvT s) (fun k => k < v2.heap.size) (Kd.S_lower (Kd.S_mono (Kd.S_far (p := ⟨w.heap.size + 1, 3, none⟩) (Kd.S_far (p := ⟨w.heap.size + 1, 2, none⟩) (Kd.S_far (p := ⟨w.heap.size + 1, 1, none⟩) (Kd.S_far (p := ⟨w.heap.size + 1, 0, none⟩) (Kd.S_far (p := ⟨w.heap.size + 1 + 1, 3, none⟩) (HR.out) (fun k hk => by show k ≠ w.heap.size + 1 + 1; omega) (.slice AHI s.f3.length cHI)) (fun k hk => by show k ≠ w.heap.size + 1; omega) (.int .i64 s.f0)) (fun k hk => by show k ≠ w.heap.size + 1; omega) (.int .i64 s.f1)) (fun k hk => by show k ≠ w.heap.size + 1; omega) (.slice AHR s.f2.length cHR)) (fun k hk => by show k ≠ w.heap.size + 1; omega) (.slice AHI s.f3.length cHI)) (fun k hk => ⟨trivial, hk.2⟩)) (by omega)) (Kd.S_lower (Kd.S_mono (Kd.S_far (p := ⟨w.heap.size + 1, 3, none⟩) (Kd.S_far (p := ⟨w.heap.size + 1, 2, none⟩) (Kd.S_far (p := ⟨w.heap.size + 1, 1, none⟩) (Kd.S_far (p := ⟨w.heap.size + 1, 0, none⟩) (Kd.S_far (p := ⟨w.heap.size + 1 + 1, 3, none⟩) (HI.out) (fun k hk => by show k ≠ w.heap.size + 1 + 1; omega) (.slice AHI s.f3.length cHI)) (fun k hk => by show k ≠ w.heap.size + 1; omega) (.int .i64 s.f0)) (fun k hk => by show k ≠ w.heap.size + 1; omega) (.int .i64 s.f1)) (fun k hk => by show k ≠ w.heap.size + 1; omega) (.slice AHR s.f2.length cHR)) (fun k hk => by show k ≠ w.heap.size + 1; omega) (.slice AHI s.f3.length cHI)) (fun k hk => ⟨trivial, Nat.not_lt.2 hk⟩)) (by omega)), below_set (below_set (below_set (below_set (below_set (HB.out) (by omega)) (by omega)) (by omega)) (by omega)) (by omega)⟩
end Go.Proofs.Ytjheiahfhknakaa.G
