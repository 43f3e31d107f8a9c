/- Where a mail stands in a box, where a box stands in a store (MailAt, BoxAt, BoxNamed; slices.IndexFunc with their predicates): the first place, or -1. Condition: the box or the store can be read. -/
import Derived.Test.YtjheiahfhknakaaStores
namespace Go.Proofs.Ytjheiahfhknakaa.G
open Go.RowKit Go.Proofs.YtjheiahfhknakaaW.PrintWords Go.Proofs.YtjheiahfhknakaaW.PrintLast Go.Proofs.YtjheiahfhknakaaW.PrintMore
set_option linter.unusedVariables false
set_option linter.unusedSimpArgs false
/-- The first place from i on at which p holds, or -1. -/
def ixFrom {α : Type} (p : α → Bool) : Int → List α → Int
  | _, [] => -1
  | i, x :: t => if p x = true then i else ixFrom p (i + 1) t
/-- The first place at which p holds, or -1. -/
def ixOf {α : Type} (p : α → Bool) (l : List α) : Int := ixFrom p 0 l
theorem ix_step {α : Type} {p : α → Bool} {l : List α} {i : Nat} {r : Int} (h : ixFrom p (i : Int) (l.drop i) = r) (hi : i < l.length) : if p l[i] = true then (i : Int) = r else ixFrom p ((i + 1 : Nat) : Int) (l.drop (i + 1)) = r := by
  rw [List.drop_eq_getElem_cons hi] at h
  unfold ixFrom at h
  split
  · rename_i hp; rw [if_pos hp] at h; exact h
  · rename_i hp; rw [if_neg hp] at h; exact h
theorem ix_end {α : Type} {p : α → Bool} {l : List α} {i : Nat} {r : Int} (h : ixFrom p (i : Int) (l.drop i) = r) (hi : l.length ≤ i) : r = -1 := by
  rw [List.drop_eq_nil_of_le hi] at h
  exact h.symm
set_option maxRecDepth 100000 in
theorem impl_MailAt1.calls (m : S69) (cs : Array Value) (gp : Nat) (gid : Int) (w : World) (hm : k69.K w m cs.toList) (hg : w.cell? ⟨gp, 0, none⟩ = some (.int .i64 gid)) :
    Calls Try.prog 171 #[.agg cs, .pointer (some ⟨gp, 0, none⟩)] w fun e w' => e = .returned (.bool (m.f0 == gid)) ∧ Below w.heap.size w w' := by
  obtain ⟨A, c, e, _⟩ := k69_open hm
  obtain rfl : cs = #[.int .i64 m.f0, .int .i64 m.f1, .slice A m.f2.length c, .string m.f3] := Array.ext' e
  have hg2 : ∀ o, (w.alloc o).cell? ⟨gp, 0, none⟩ = some (.int .i64 gid) := fun o => pw_cell_below (below_alloc (Below.refl _ _) o) hg
  clear hm e
  go_enter Try.func171, Try.ntmps171
  go_wp2
  go_ret
  exact ⟨rfl, below_alloc (Below.refl _ _) _⟩
set_option maxRecDepth 100000 in
theorem slices_IndexMail.calls (l : List S69) (A : Option Addr) (c : Nat) (gp : Nat) (gid : Int) (w : World) (hl : Kd.C k69 w A l.length l) (hc : l.length ≤ c) (hg : w.cell? ⟨gp, 0, none⟩ = some (.int .i64 gid)) :
    Calls Try.prog 170 #[.slice A l.length c, .func (.func 171) #[] #[.pointer (some ⟨gp, 0, none⟩)]] w fun e w' => e = .returned (.int .i64 (ixOf (fun m => m.f0 == gid) l)) ∧ Below w.heap.size w w' := by
  have HL := Aside0.mk hl
  have HG := Aside0.mk hg
  have hmx : l.length ≤ 9223372036854775807 := Kd.C_max hl
  clear hl hg
  go_enter Try.func170, Try.ntmps170
  go_wp2
  go_loopw [8] (fun v8 wr => ∃ i : Nat, i ≤ l.length ∧ v8 = .int .i64 i ∧ Aside0 (ixFrom (fun m : S69 => m.f0 == gid) (i : Int) (l.drop i) = ixOf (fun m => m.f0 == gid) l) ∧ Aside0 (Below w.heap.size w wr)) (fun v8 _ => l.length - (intOf v8).toNat)
  case atStart => exact ⟨0, Nat.zero_le _, rfl, ⟨rfl⟩, ⟨Below.refl _ _⟩⟩
  case round =>
    obtain ⟨i, hi, rfl, HI, HB⟩ := hrel
    by_cases hlt : i < l.length
    · have hs := Aside0.mk (ix_step HI.out hlt)
      obtain ⟨ad, A2, c2, rfl, e0, e1, e2, e3, hK⟩ := mail_at (Kd.C_below HL.out HB.out) i hlt
      have HK := Aside0.mk hK
      clear hK
      go_wp2_with fail
      refine (impl_MailAt1.calls l[i] _ gp gid wr HK.out (pw_cell_below HB.out HG.out)).mono ?_
      rintro e w1 ⟨rfl, hb⟩
      have HB2 := Aside0.mk (below_then HB.out HB.out.size hb)
      clear hb
      by_cases hp : (l[i].f0 == gid) = true
      · have hi2 := hs.out
        rw [if_pos hp] at hi2
        have HE := Aside0.mk hi2
        clear hi2
        rw [hp]
        go_wp2
        go_ret
        exact ⟨by rw [HE.out]; rfl, HB2.out⟩
      · have hi2 := hs.out
        rw [if_neg hp] at hi2
        have HE := Aside0.mk hi2
        clear hi2
        rw [Bool.eq_false_iff.2 hp]
        go_wp2
        go_roundw
        case rel => exact ⟨i + 1, by omega, by go_num, HE, HB2⟩
        case measure => simp [intOf]; omega
    · have HE := Aside0.mk (ix_end HI.out (by omega))
      go_wp2
      go_ret
      exact ⟨by rw [HE.out]; rfl, HB.out⟩
/-- Where a mail stands. -/
def mailAt (l : List S69) (gid : Int) : Int := ixOf (fun m => m.f0 == gid) l
set_option maxRecDepth 100000 in
theorem impl_MailAt.calls (b : S47) (cs : Array Value) (gid : Int) (w : World) (hb : k47.K w b cs.toList) :
    Calls Try.prog 81 #[.agg cs, .int .i64 gid] w fun e w' => e = .returned (.int .i64 (mailAt b.f4 gid)) ∧ Below w.heap.size w w' := by
  obtain ⟨A5, c5, A6, c6, e, l5, g5, l6, g6⟩ := k47_open hb
  obtain rfl : cs = _ := Array.ext' e
  have G5 := Aside0.mk g5
  clear hb e g5 g6
  go_enter Try.func81, Try.ntmps81
  go_wp2_with fail
  refine (slices_IndexMail.calls b.f4 A5 c5 _ gid _ (Kd.C_alloc (Kd.C_alloc G5.out _) _) l5 (by simp)).mono ?_
  rintro e w1 ⟨rfl, hb⟩
  have HB := Aside0.mk (below_then (below_alloc (below_alloc (Below.refl w.heap.size w) _) _) (by simp; omega) hb)
  clear hb
  go_wp2
  go_ret
  exact ⟨rfl, HB.out⟩
set_option maxRecDepth 100000 in
theorem impl_BoxAt1.calls (m : S47) (cs : Array Value) (gp : Nat) (x : Int) (w : World) (hm : k47.K w m cs.toList) (hg : w.cell? ⟨gp, 0, none⟩ = some (.int .i64 x)) :
    Calls Try.prog 175 #[.agg cs, .pointer (some ⟨gp, 0, none⟩)] w fun e w' => e = .returned (.bool (m.f0 == x)) ∧ Below w.heap.size w w' := by
  obtain ⟨A5, c5, A6, c6, e, _⟩ := k47_open hm
  obtain rfl : cs = _ := Array.ext' e
  have hg2 : ∀ o, (w.alloc o).cell? ⟨gp, 0, none⟩ = some (.int .i64 x) := fun o => pw_cell_below (below_alloc (Below.refl _ _) o) hg
  clear hm e
  go_enter Try.func175, Try.ntmps175
  go_wp2
  go_ret
  exact ⟨rfl, below_alloc (Below.refl _ _) _⟩
set_option maxRecDepth 100000 in
theorem slices_IndexBoxAt.calls (l : List S47) (A : Option Addr) (c : Nat) (gp : Nat) (x : Int) (w : World) (hl : Kd.C k47 w A l.length l) (hc : l.length ≤ c) (hg : w.cell? ⟨gp, 0, none⟩ = some (.int .i64 x)) :
    Calls Try.prog 174 #[.slice A l.length c, .func (.func 175) #[] #[.pointer (some ⟨gp, 0, none⟩)]] w fun e w' => e = .returned (.int .i64 (ixOf (fun m => m.f0 == x) l)) ∧ Below w.heap.size w w' := by
  have HL := Aside0.mk hl
  have HG := Aside0.mk hg
  have hmx : l.length ≤ 9223372036854775807 := Kd.C_max hl
  clear hl hg
  go_enter Try.func174, Try.ntmps174
  go_wp2
  go_loopw [8] (fun v8 wr => ∃ i : Nat, i ≤ l.length ∧ v8 = .int .i64 i ∧ Aside0 (ixFrom (fun m : S47 => m.f0 == x) (i : Int) (l.drop i) = ixOf (fun m => m.f0 == x) l) ∧ Aside0 (Below w.heap.size w wr)) (fun v8 _ => l.length - (intOf v8).toNat)
  case atStart => exact ⟨0, Nat.zero_le _, rfl, ⟨rfl⟩, ⟨Below.refl _ _⟩⟩
  case round =>
    obtain ⟨i, hi, rfl, HI, HB⟩ := hrel
    by_cases hlt : i < l.length
    · have hs := Aside0.mk (ix_step HI.out hlt)
      obtain ⟨ad, A5, c5, A6, c6, rfl, e0, e1, e2, e3, e4, e5, e6, hK⟩ := box_at (Kd.C_below HL.out HB.out) i hlt
      have HK := Aside0.mk hK
      clear hK
      go_wp2_with fail
      refine (impl_BoxAt1.calls l[i] _ gp x wr HK.out (pw_cell_below HB.out HG.out)).mono ?_
      rintro e w1 ⟨rfl, hb⟩
      have HB2 := Aside0.mk (below_then HB.out HB.out.size hb)
      clear hb
      by_cases hp : (l[i].f0 == x) = true
      · have hi2 := hs.out
        rw [if_pos hp] at hi2
        have HE := Aside0.mk hi2
        clear hi2
        rw [hp]
        go_wp2
        go_ret
        exact ⟨by rw [HE.out]; rfl, HB2.out⟩
      · have hi2 := hs.out
        rw [if_neg hp] at hi2
        have HE := Aside0.mk hi2
        clear hi2
        rw [Bool.eq_false_iff.2 hp]
        go_wp2
        go_roundw
        case rel => exact ⟨i + 1, by omega, by go_num, HE, HB2⟩
        case measure => simp [intOf]; omega
    · have HE := Aside0.mk (ix_end HI.out (by omega))
      go_wp2
      go_ret
      exact ⟨by rw [HE.out]; rfl, HB.out⟩
/-- Where a box stands, by its Gid. -/
def boxAt (l : List S47) (x : Int) : Int := ixOf (fun m => m.f0 == x) l
set_option maxRecDepth 100000 in
theorem impl_BoxAt.calls (s : S29) (cs : Array Value) (x : Int) (w : World) (hb : k29.K w s cs.toList) :
    Calls Try.prog 94 #[.agg cs, .int .i64 x] w fun e w' => e = .returned (.int .i64 (boxAt s.f2 x)) ∧ Below w.heap.size w w' := by
  obtain ⟨A2, c2, A3, c3, e, l2, g2, l3, g3⟩ := k29_open hb
  obtain rfl : cs = _ := Array.ext' e
  have G2 := Aside0.mk g2
  clear hb e g2 g3
  go_enter Try.func94, Try.ntmps94
  go_wp2_with fail
  refine (slices_IndexBoxAt.calls s.f2 A2 c2 _ x _ (Kd.C_alloc (Kd.C_alloc G2.out _) _) l2 (by simp)).mono ?_
  rintro e w1 ⟨rfl, hb⟩
  have HB := Aside0.mk (below_then (below_alloc (below_alloc (Below.refl w.heap.size w) _) _) (by simp; omega) hb)
  clear hb
  go_wp2
  go_ret
  exact ⟨rfl, HB.out⟩
set_option maxRecDepth 100000 in
theorem impl_BoxNamed1.calls (m : S47) (cs : Array Value) (gp : Nat) (x : ByteArray) (w : World) (hm : k47.K w m cs.toList) (hg : w.cell? ⟨gp, 0, none⟩ = some (.string x)) :
    Calls Try.prog 177 #[.agg cs, .pointer (some ⟨gp, 0, none⟩)] w fun e w' => e = .returned (.bool (m.f1.toList == x.toList)) ∧ Below w.heap.size w w' := by
  obtain ⟨A5, c5, A6, c6, e, _⟩ := k47_open hm
  obtain rfl : cs = _ := Array.ext' e
  have hg2 : ∀ o, (w.alloc o).cell? ⟨gp, 0, none⟩ = some (.string x) := fun o => pw_cell_below (below_alloc (Below.refl _ _) o) hg
  clear hm e
  go_enter Try.func177, Try.ntmps177
  go_wp2
  go_ret
  exact ⟨rfl, below_alloc (Below.refl _ _) _⟩
set_option maxRecDepth 100000 in
theorem slices_IndexBoxNamed.calls (l : List S47) (A : Option Addr) (c : Nat) (gp : Nat) (x : ByteArray) (w : World) (hl : Kd.C k47 w A l.length l) (hc : l.length ≤ c) (hg : w.cell? ⟨gp, 0, none⟩ = some (.string x)) :
    Calls Try.prog 174 #[.slice A l.length c, .func (.func 177) #[] #[.pointer (some ⟨gp, 0, none⟩)]] w fun e w' => e = .returned (.int .i64 (ixOf (fun m => m.f1.toList == x.toList) l)) ∧ Below w.heap.size w w' := by
  have HL := Aside0.mk hl
  have HG := Aside0.mk hg
  have hmx : l.length ≤ 9223372036854775807 := Kd.C_max hl
  clear hl hg
  go_enter Try.func174, Try.ntmps174
  go_wp2
  go_loopw [8] (fun v8 wr => ∃ i : Nat, i ≤ l.length ∧ v8 = .int .i64 i ∧ Aside0 (ixFrom (fun m : S47 => m.f1.toList == x.toList) (i : Int) (l.drop i) = ixOf (fun m => m.f1.toList == x.toList) l) ∧ Aside0 (Below w.heap.size w wr)) (fun v8 _ => l.length - (intOf v8).toNat)
  case atStart => exact ⟨0, Nat.zero_le _, rfl, ⟨rfl⟩, ⟨Below.refl _ _⟩⟩
  case round =>
    obtain ⟨i, hi, rfl, HI, HB⟩ := hrel
    by_cases hlt : i < l.length
    · have hs := Aside0.mk (ix_step HI.out hlt)
      obtain ⟨ad, A5, c5, A6, c6, rfl, e0, e1, e2, e3, e4, e5, e6, hK⟩ := box_at (Kd.C_below HL.out HB.out) i hlt
      have HK := Aside0.mk hK
      clear hK
      go_wp2_with fail
      refine (impl_BoxNamed1.calls l[i] _ gp x wr HK.out (pw_cell_below HB.out HG.out)).mono ?_
      rintro e w1 ⟨rfl, hb⟩
      have HB2 := Aside0.mk (below_then HB.out HB.out.size hb)
      clear hb
      by_cases hp : (l[i].f1.toList == x.toList) = true
      · have hi2 := hs.out
        rw [if_pos hp] at hi2
        have HE := Aside0.mk hi2
        clear hi2
        rw [hp]
        go_wp2
        go_ret
        exact ⟨by rw [HE.out]; rfl, HB2.out⟩
      · have hi2 := hs.out
        rw [if_neg hp] at hi2
        have HE := Aside0.mk hi2
        clear hi2
        rw [Bool.eq_false_iff.2 hp]
        go_wp2
        go_roundw
        case rel => exact ⟨i + 1, by omega, by go_num, HE, HB2⟩
        case measure => simp [intOf]; omega
    · have HE := Aside0.mk (ix_end HI.out (by omega))
      go_wp2
      go_ret
      exact ⟨by rw [HE.out]; rfl, HB.out⟩
/-- Where a box stands, by its name. -/
def boxNamed (l : List S47) (x : ByteArray) : Int := ixOf (fun m => m.f1.toList == x.toList) l
set_option maxRecDepth 100000 in
theorem impl_BoxNamed.calls (s : S29) (cs : Array Value) (x : ByteArray) (w : World) (hb : k29.K w s cs.toList) :
    Calls Try.prog 107 #[.agg cs, .string x] w fun e w' => e = .returned (.int .i64 (boxNamed s.f2 x)) ∧ Below w.heap.size w w' := by
  obtain ⟨A2, c2, A3, c3, e, l2, g2, l3, g3⟩ := k29_open hb
  obtain rfl : cs = _ := Array.ext' e
  have G2 := Aside0.mk g2
  clear hb e g2 g3
  go_enter Try.func107, Try.ntmps107
  go_wp2_with fail
  refine (slices_IndexBoxNamed.calls s.f2 A2 c2 _ x _ (Kd.C_alloc (Kd.C_alloc G2.out _) _) l2 (by simp)).mono ?_
  rintro e w1 ⟨rfl, hb⟩
  have HB := Aside0.mk (below_then (below_alloc (below_alloc (Below.refl w.heap.size w) _) _) (by simp; omega) hb)
  clear hb
  go_wp2
  go_ret
  exact ⟨rfl, HB.out⟩
end Go.Proofs.Ytjheiahfhknakaa.G
