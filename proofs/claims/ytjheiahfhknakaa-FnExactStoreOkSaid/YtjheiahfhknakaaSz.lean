/- How much a statement's argument holds (szStore and its kin): where it is not negative, all of it is small. Condition: the argument can be read. -/
import Derived.Test.YtjheiahfhknakaaStores
import Derived.Outline
namespace Go.Proofs.Ytjheiahfhknakaa.G
open Go.RowKit Go.Proofs.YtjheiahfhknakaaW.PrintWords Go.Proofs.YtjheiahfhknakaaW.PrintLast Go.Proofs.YtjheiahfhknakaaW.PrintMore
set_option linter.unusedVariables false
set_option linter.unusedSimpArgs false
theorem mail65_at {w : World} {A : Option Addr} {n : Nat} {xs : List S65} (h : Kd.C k65 w A n xs) (i : Nat) (hi : i < xs.length) : ∃ ad A2 c2, A = some ad ∧ w.cell? (ad.add (i * 4)) = some (.int .i64 xs[i].f0) ∧ w.cell? ⟨(ad.add (i * 4)).block, (ad.add (i * 4)).off + 1, none⟩ = some (.int .i64 xs[i].f1) ∧ w.cell? ⟨(ad.add (i * 4)).block, (ad.add (i * 4)).off + 2, none⟩ = some (.slice A2 xs[i].f2.length c2) ∧ w.cell? ⟨(ad.add (i * 4)).block, (ad.add (i * 4)).off + 3, none⟩ = some (.string xs[i].f3) ∧ k65.K w xs[i] [.int .i64 xs[i].f0, .int .i64 xs[i].f1, .slice A2 xs[i].f2.length c2, .string xs[i].f3] := by
  have hn := Kd.C_len h
  obtain ⟨ad, c, e, _, hK, hc0⟩ := Kd.C_get h z65 (i : Int) (by omega) (by omega)
  rw [Int.toNat_natCast] at hK hc0
  rw [List.getD_eq_getElem?_getD, List.getElem?_eq_getElem hi] at hK
  have hK' : k65.K w xs[i] c := hK
  have hc : ∀ j u, c[j]? = some u → w.cell? (ad.add (i * 4 + j)) = some u := hc0
  obtain ⟨A2, c2, rfl, _⟩ := k65_open hK'
  exact ⟨ad, A2, c2, e, hc 0 _ rfl, by rw [← add_field _ _ 1 (by omega)]; exact hc 1 _ rfl, by rw [← add_field _ _ 2 (by omega)]; exact hc 2 _ rfl, by rw [← add_field _ _ 3 (by omega)]; exact hc 3 _ rfl, hK'⟩
theorem box42_at {w : World} {A : Option Addr} {n : Nat} {xs : List S42} (h : Kd.C k42 w A n xs) (i : Nat) (hi : i < xs.length) : ∃ ad A5 A6 c5 c6, A = some ad ∧ w.cell? (ad.add (i * 7)) = some (.int .i64 xs[i].f0) ∧ w.cell? ⟨(ad.add (i * 7)).block, (ad.add (i * 7)).off + 1, none⟩ = some (.string xs[i].f1) ∧ w.cell? ⟨(ad.add (i * 7)).block, (ad.add (i * 7)).off + 2, none⟩ = some (.int .i64 xs[i].f2.f0) ∧ w.cell? ⟨(ad.add (i * 7)).block, (ad.add (i * 7)).off + 3, none⟩ = some (.int .i64 xs[i].f2.f1) ∧ w.cell? ⟨(ad.add (i * 7)).block, (ad.add (i * 7)).off + 4, none⟩ = some (.int .i64 xs[i].f3) ∧ w.cell? ⟨(ad.add (i * 7)).block, (ad.add (i * 7)).off + 5, none⟩ = some (.slice A5 xs[i].f4.length c5) ∧ w.cell? ⟨(ad.add (i * 7)).block, (ad.add (i * 7)).off + 6, none⟩ = some (.slice A6 xs[i].f5.length c6) ∧ k42.K w xs[i] [.int .i64 xs[i].f0, .string xs[i].f1, .int .i64 xs[i].f2.f0, .int .i64 xs[i].f2.f1, .int .i64 xs[i].f3, .slice A5 xs[i].f4.length c5, .slice A6 xs[i].f5.length c6] := by
  have hn := Kd.C_len h
  obtain ⟨ad, c, e, _, hK, hc0⟩ := Kd.C_get h z42 (i : Int) (by omega) (by omega)
  rw [Int.toNat_natCast] at hK hc0
  rw [List.getD_eq_getElem?_getD, List.getElem?_eq_getElem hi] at hK
  have hK' : k42.K w xs[i] c := hK
  have hc : ∀ j u, c[j]? = some u → w.cell? (ad.add (i * 7 + j)) = some u := hc0
  obtain ⟨A5, c5, A6, c6, rfl, _⟩ := k42_open hK'
  exact ⟨ad, A5, A6, c5, c6, e, hc 0 _ rfl, by rw [← add_field _ _ 1 (by omega)]; exact hc 1 _ rfl, by rw [← add_field _ _ 2 (by omega)]; exact hc 2 _ rfl, by rw [← add_field _ _ 3 (by omega)]; exact hc 3 _ rfl, by rw [← add_field _ _ 4 (by omega)]; exact hc 4 _ rfl, by rw [← add_field _ _ 5 (by omega)]; exact hc 5 _ rfl, by rw [← add_field _ _ 6 (by omega)]; exact hc 6 _ rfl, hK'⟩
def smM (m : S65) : Prop := m.f2.length ≤ 1048576 ∧ m.f3.size ≤ 1048576
def smB (b : S42) : Prop := b.f1.size ≤ 1048576 ∧ (b.f4.length ≤ 1048576 ∧ ∀ m ∈ b.f4, smM m) ∧ b.f5.length ≤ 1048576
def smS (s : S25) : Prop := (s.f2.length ≤ 1048576 ∧ ∀ b ∈ s.f2, smB b) ∧ s.f3.length ≤ 1048576
/-- It returns a number that is at most what was left, and where it is not negative, Q. -/
def SzPost (Q : Prop) (left : Int) (w : World) (e : Ending) (w' : World) : Prop := ∃ r : Int, e = .returned (.int .i64 r) ∧ r ≤ left ∧ (0 ≤ r → Q) ∧ Below w.heap.size w w'
theorem all_upTo_mem {α : Type} {q : α → Prop} {l : List α} (h : ∀ j (hj : j < l.length), j < l.length → q l[j]) : ∀ x ∈ l, q x := fun x hx => by
  obtain ⟨j, hj, rfl⟩ := List.mem_iff_getElem.1 hx
  exact h j hj hj
theorem pre_next {α : Type} {q : α → Prop} {l : List α} {i : Nat} (hi : i < l.length) (h : ∀ j (hj : j < l.length), j < i → q l[j]) (h1 : q l[i]) : ∀ j (hj : j < l.length), j < i + 1 → q l[j] := fun j hj hji => by
  rcases Nat.lt_or_ge j i with h2 | h2
  · exact h j hj h2
  · obtain rfl : j = i := by omega
    exact h1
theorem laws_szRegS.nice (A : Option Addr) (n c : Nat) (left : Int) (w : World) (h0 : 0 ≤ left) (h1 : left ≤ 1048576) (hn : n ≤ 9223372036854775807) :
    Calls Try.prog 128 #[.slice A n c, .int .i64 left] w (SzPost (n ≤ 1048576) left w) := by
  by_cases hl : (n : Int) ≤ left
  · have hp : (n : Int) ≤ left := hl
    go_enter Try.func128, Try.ntmps128
    go_wp2
    go_ret
    exact ⟨_, rfl, by omega, fun _ => by omega, Below.refl _ _⟩
  · have hp : left < (n : Int) := by omega
    clear hl
    go_enter Try.func128, Try.ntmps128
    go_wp2
    go_ret
    exact ⟨_, rfl, by omega, fun h => absurd h (by decide), Below.refl _ _⟩
theorem laws_szIntS.nice (A : Option Addr) (n c : Nat) (left : Int) (w : World) (h0 : 0 ≤ left) (h1 : left ≤ 1048576) (hn : n ≤ 9223372036854775807) :
    Calls Try.prog 86 #[.slice A n c, .int .i64 left] w (SzPost (n ≤ 1048576) left w) := by
  by_cases hl : (n : Int) ≤ left
  · have hp : (n : Int) ≤ left := hl
    go_enter Try.func86, Try.ntmps86
    go_wp2
    go_ret
    exact ⟨_, rfl, by omega, fun _ => by omega, Below.refl _ _⟩
  · have hp : left < (n : Int) := by omega
    clear hl
    go_enter Try.func86, Try.ntmps86
    go_wp2
    go_ret
    exact ⟨_, rfl, by omega, fun h => absurd h (by decide), Below.refl _ _⟩
theorem laws_szMail.nice (m : S65) (cs : Array Value) (left : Int) (w : World) (hm : k65.K w m cs.toList) (h0 : 0 ≤ left) (h1 : left ≤ 1048576) (ht : m.f3.size ≤ 9223372036854775807) :
    Calls Try.prog 40 #[.agg cs, .int .i64 left] w (SzPost (smM m) left w) := by
  obtain ⟨A2, c2, e, l2, g2⟩ := k65_open hm
  obtain rfl : cs = _ := Array.ext' e
  have hmx := Kd.C_max g2
  clear hm e g2
  go_enter Try.func40, Try.ntmps40
  go_wp2_with fail
  refine (laws_szRegS.nice A2 m.f2.length c2 left _ h0 h1 hmx).mono ?_
  rintro e w1 ⟨r, rfl, hr, hq, hb⟩
  have HB := Aside0.mk (below_then (below_alloc (Below.refl w.heap.size w) (.cells #[.int .i64 m.f0, .int .i64 m.f1, .slice A2 m.f2.length c2, .string m.f3] 65)) (by simp) hb)
  have q3 : w1.cell? ⟨w.heap.size, 3, none⟩ = some (.string m.f3) := (blk_cell (blk_below (heap_alloc_new w _) hb) 3).trans rfl
  have HQ := Aside0.mk hq
  clear hb hq
  by_cases hn : r < 0
  · clear q3
    go_wp2
    go_ret
    exact ⟨_, rfl, by omega, fun h => absurd h (by decide), HB.out⟩
  · have hn' : 0 ≤ r := by omega
    by_cases ho : (m.f3.size : Int) ≤ r
    · go_wp2
      go_ret
      exact ⟨_, rfl, by omega, fun h => ⟨HQ.out hn', by omega⟩, HB.out⟩
    · have ho' : r < (m.f3.size : Int) := by omega
      clear ho
      go_wp2
      go_ret
      exact ⟨_, rfl, by omega, fun h => absurd h (by decide), HB.out⟩
set_option maxRecDepth 100000 in
theorem laws_szMailS.nice (l : List S65) (A : Option Addr) (c : Nat) (left : Int) (w : World) (hl : Kd.C k65 w A l.length l) (hc : l.length ≤ c) (h0 : 0 ≤ left) (h1 : left ≤ 1048576) (hx : ∀ m ∈ l, m.f3.size ≤ 9223372036854775807) :
    Calls Try.prog 109 #[.slice A l.length c, .int .i64 left] w (SzPost (l.length ≤ 1048576 ∧ ∀ m ∈ l, smM m) left w) := by
  have HL := Aside0.mk hl
  have HX := Aside0.mk hx
  have hmx := Kd.C_max hl
  clear hl hx
  by_cases hle : (l.length : Int) ≤ left
  rotate_left
  · have hp : left < (l.length : Int) := by omega
    clear hle
    go_enter Try.func109, Try.ntmps109
    go_wp2
    go_ret
    exact ⟨_, rfl, by omega, fun h => absurd h (by decide), Below.refl _ _⟩
  go_enter Try.func109, Try.ntmps109
  go_wp2
  go_loopw [1, 5] (fun v1 v wr => ∃ (i : Nat) (lf : Int), i ≤ l.length ∧ v = .int .i64 i ∧ v1 = .int .i64 lf ∧ 0 ≤ lf ∧ lf ≤ left ∧ Aside0 (∀ j (hj : j < l.length), j < i → smM l[j]) ∧ Aside0 (Below w.heap.size w wr)) (fun _ v _ => l.length - (intOf v).toNat)
  case atStart => exact ⟨0, _, Nat.zero_le _, rfl, rfl, by omega, by omega, ⟨fun j hj h => absurd h (Nat.not_lt_zero _)⟩, ⟨Below.refl _ _⟩⟩
  case round =>
    obtain ⟨i, lf, hi, rfl, rfl, hf0, hf1, HI, HB⟩ := hrel
    by_cases hlt : i < l.length
    rotate_left
    · obtain rfl : i = l.length := by omega
      have HN := Aside0.mk (all_upTo_mem (q := smM) HI.out)
      clear HI
      go_wp2
      go_ret
      exact ⟨_, rfl, hf1, fun _ => ⟨by omega, HN.out⟩, HB.out⟩
    obtain ⟨ad, A2, c2, eA, e0, e1, e2, e3, hK⟩ := mail65_at (Kd.C_below HL.out HB.out) i hlt
    have HK := Aside0.mk hK
    have hcond := HX.out l[i] (List.getElem_mem hlt)
    clear hK
    subst eA
    go_wp2_with fail
    refine (laws_szMail.nice l[i] _ lf _ HK.out hf0 (by omega) hcond).mono ?_
    rintro e w1 ⟨r, rfl, hr, hq, hb⟩
    have HB2 := Aside0.mk (below_then HB.out HB.out.size hb)
    have HQ := Aside0.mk hq
    clear hb hq
    by_cases hn : r < 0
    · go_wp2
      go_ret
      exact ⟨_, rfl, by omega, fun h => absurd h (by decide), HB2.out⟩
    · have hn' : 0 ≤ r := by omega
      have HN := Aside0.mk (pre_next (q := smM) hlt HI.out (HQ.out hn'))
      clear hn
      go_wp2
      go_roundw
      case rel => exact ⟨i + 1, r, by omega, by go_num, rfl, hn', by omega, HN, HB2⟩
      case measure => simp [intOf]; omega
def bigB (b : S42) : Prop := b.f1.size ≤ 9223372036854775807 ∧ ∀ m ∈ b.f4, m.f3.size ≤ 9223372036854775807
set_option maxRecDepth 100000 in
theorem laws_szBox.nice (b : S42) (cs : Array Value) (left : Int) (w : World) (hb : k42.K w b cs.toList) (h0 : 0 ≤ left) (h1 : left ≤ 1048576) (ht : bigB b) :
    Calls Try.prog 26 #[.agg cs, .int .i64 left] w (SzPost (smB b) left w) := by
  obtain ⟨A5, c5, A6, c6, e, l5, g5, l6, g6⟩ := k42_open hb
  obtain rfl : cs = _ := Array.ext' e
  have G5 := Aside0.mk g5
  have HT := Aside0.mk ht.2
  have hn1 := ht.1
  have hm6 := Kd.C_max g6
  clear hb e g5 g6 ht
  by_cases hle : (b.f1.size : Int) ≤ left
  rotate_left
  · have hp : left < (b.f1.size : Int) := by omega
    clear hle
    go_enter Try.func26, Try.ntmps26
    go_wp2
    go_ret
    exact ⟨_, rfl, by omega, fun h => absurd h (by decide), below_alloc (Below.refl _ _) _⟩
  go_enter Try.func26, Try.ntmps26
  go_wp2_with fail
  refine (laws_szMailS.nice b.f4 A5 c5 _ _ (Kd.C_alloc G5.out _) l5 (by omega) (by omega) HT.out).mono ?_
  rintro e w1 ⟨r, rfl, hr, hq, hb⟩
  have HB := Aside0.mk (below_then (below_alloc (Below.refl w.heap.size w) (.cells #[.int .i64 b.f0, .string b.f1, .int .i64 b.f2.f0, .int .i64 b.f2.f1, .int .i64 b.f3, .slice A5 b.f4.length c5, .slice A6 b.f5.length c6] 42)) (by simp) hb)
  have q6 : w1.cell? ⟨w.heap.size, 6, none⟩ = some (.slice A6 b.f5.length c6) := (blk_cell (blk_below (heap_alloc_new w _) hb) 6).trans rfl
  have HQ := Aside0.mk hq
  clear hb hq
  by_cases hn : r < 0
  · clear q6
    go_wp2
    go_ret
    exact ⟨_, rfl, by omega, fun h => absurd h (by decide), HB.out⟩
  have hn' : 0 ≤ r := by omega
  clear hn
  go_wp2_with fail
  refine (laws_szIntS.nice A6 b.f5.length c6 r _ hn' (by omega) hm6).mono ?_
  rintro e w2 ⟨r2, rfl, hr2, hq2, hb2⟩
  have HB2 := Aside0.mk (below_then HB.out HB.out.size hb2)
  have HQ2 := Aside0.mk hq2
  clear hb2 hq2 q6
  by_cases hn2 : r2 < 0
  · go_wp2
    go_ret
    exact ⟨_, rfl, by omega, fun h => absurd h (by decide), HB2.out⟩
  · have hn2' : 0 ≤ r2 := by omega
    clear hn2
    go_wp2
    go_ret
    exact ⟨_, rfl, by omega, fun h => ⟨by omega, HQ.out hn', HQ2.out hn2'⟩, HB2.out⟩
set_option maxRecDepth 100000 in
theorem laws_szBoxS.nice (l : List S42) (A : Option Addr) (c : Nat) (left : Int) (w : World) (hl : Kd.C k42 w A l.length l) (hc : l.length ≤ c) (h0 : 0 ≤ left) (h1 : left ≤ 1048576) (hx : ∀ m ∈ l, bigB m) :
    Calls Try.prog 85 #[.slice A l.length c, .int .i64 left] w (SzPost (l.length ≤ 1048576 ∧ ∀ m ∈ l, smB m) left w) := by
  have HL := Aside0.mk hl
  have HX := Aside0.mk hx
  have hmx := Kd.C_max hl
  clear hl hx
  by_cases hle : (l.length : Int) ≤ left
  rotate_left
  · have hp : left < (l.length : Int) := by omega
    clear hle
    go_enter Try.func85, Try.ntmps85
    go_wp2
    go_ret
    exact ⟨_, rfl, by omega, fun h => absurd h (by decide), Below.refl _ _⟩
  go_enter Try.func85, Try.ntmps85
  go_wp2
  go_loopw [1, 5] (fun v1 v wr => ∃ (i : Nat) (lf : Int), i ≤ l.length ∧ v = .int .i64 i ∧ v1 = .int .i64 lf ∧ 0 ≤ lf ∧ lf ≤ left ∧ Aside0 (∀ j (hj : j < l.length), j < i → smB l[j]) ∧ Aside0 (Below w.heap.size w wr)) (fun _ v _ => l.length - (intOf v).toNat)
  case atStart => exact ⟨0, _, Nat.zero_le _, rfl, rfl, by omega, by omega, ⟨fun j hj h => absurd h (Nat.not_lt_zero _)⟩, ⟨Below.refl _ _⟩⟩
  case round =>
    obtain ⟨i, lf, hi, rfl, rfl, hf0, hf1, HI, HB⟩ := hrel
    by_cases hlt : i < l.length
    rotate_left
    · obtain rfl : i = l.length := by omega
      have HN := Aside0.mk (all_upTo_mem (q := smB) HI.out)
      clear HI
      go_wp2
      go_ret
      exact ⟨_, rfl, hf1, fun _ => ⟨by omega, HN.out⟩, HB.out⟩
    obtain ⟨ad, A5, A6, c5, c6, eA, e0, e1, e2, e3, e4, e5, e6, hK⟩ := box42_at (Kd.C_below HL.out HB.out) i hlt
    have HK := Aside0.mk hK
    have hcond := HX.out l[i] (List.getElem_mem hlt)
    clear hK
    subst eA
    go_wp2_with fail
    refine (laws_szBox.nice l[i] _ lf _ HK.out hf0 (by omega) hcond).mono ?_
    rintro e w1 ⟨r, rfl, hr, hq, hb⟩
    have HB2 := Aside0.mk (below_then HB.out HB.out.size hb)
    have HQ := Aside0.mk hq
    clear hb hq
    by_cases hn : r < 0
    · go_wp2
      go_ret
      exact ⟨_, rfl, by omega, fun h => absurd h (by decide), HB2.out⟩
    · have hn' : 0 ≤ r := by omega
      have HN := Aside0.mk (pre_next (q := smB) hlt HI.out (HQ.out hn'))
      clear hn
      go_wp2
      go_roundw
      case rel => exact ⟨i + 1, r, by omega, by go_num, rfl, hn', by omega, HN, HB2⟩
      case measure => simp [intOf]; omega
set_option maxRecDepth 100000 in
theorem laws_szStore.nice (s : S25) (cs : Array Value) (left : Int) (w : World) (hs : k25.K w s cs.toList) (h0 : 0 ≤ left) (h1 : left ≤ 1048576) (ht : ∀ b ∈ s.f2, bigB b) :
    Calls Try.prog 17 #[.agg cs, .int .i64 left] w (SzPost (smS s) left w) := by
  obtain ⟨A2, c2, A3, c3, e, l2, g2, l3, g3⟩ := k25_open hs
  obtain rfl : cs = _ := Array.ext' e
  have G2 := Aside0.mk g2
  have HT := Aside0.mk ht
  have hm3 := Kd.C_max g3
  clear hs e g2 g3 ht
  go_enter Try.func17, Try.ntmps17
  go_wp2_with fail
  refine (laws_szBoxS.nice s.f2 A2 c2 left _ (Kd.C_alloc G2.out _) l2 h0 h1 HT.out).mono ?_
  rintro e w1 ⟨r, rfl, hr, hq, hb⟩
  have HB := Aside0.mk (below_then (below_alloc (Below.refl w.heap.size w) (.cells #[.int .i64 s.f0, .int .i64 s.f1, .slice A2 s.f2.length c2, .slice A3 s.f3.length c3] 25)) (by simp) hb)
  have q3 : w1.cell? ⟨w.heap.size, 3, none⟩ = some (.slice A3 s.f3.length c3) := (blk_cell (blk_below (heap_alloc_new w _) hb) 3).trans rfl
  have HQ := Aside0.mk hq
  clear hb hq
  by_cases hn : r < 0
  · clear q3
    go_wp2
    go_ret
    exact ⟨_, rfl, by omega, fun h => absurd h (by decide), HB.out⟩
  have hn' : 0 ≤ r := by omega
  clear hn
  go_wp2_with fail
  refine (laws_szIntS.nice A3 s.f3.length c3 r _ hn' (by omega) hm3).mono ?_
  rintro e w2 ⟨r2, rfl, hr2, hq2, hb2⟩
  have HB2 := Aside0.mk (below_then HB.out HB.out.size hb2)
  have HQ2 := Aside0.mk hq2
  clear hb2 hq2 q3
  by_cases hn2 : r2 < 0
  · go_wp2
    go_ret
    exact ⟨_, rfl, by omega, fun h => absurd h (by decide), HB2.out⟩
  · have hn2' : 0 ≤ r2 := by omega
    clear hn2
    go_wp2
    go_ret
    exact ⟨_, rfl, by omega, fun h => ⟨HQ.out hn', HQ2.out hn2'⟩, HB2.out⟩
end Go.Proofs.Ytjheiahfhknakaa.G
