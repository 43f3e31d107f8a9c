/- The draws of the mail program's reference end: a cursor over bytes, a drawn byte, a drawn number below a bound, a drawn text. Condition: the bytes are fewer than 2^47. -/
import Derived.Test.YtjheiahfhknakaaFSpecL01Text
import Derived.Test.YtjheiahfhknakaaFSpecL01Below
import Derived.Test.YtjheiahfhknakaaFSpecL01New
import Derived.Laws.BitsAllLaws
namespace Go.Proofs.Ytjheiahfhknakaa.Draw
open Go.RowKit Go.Proofs.YtjheiahfhknakaaW.PrintWords Go.Proofs.Ytjheiahfhknakaa.G

theorem and255 (y : Int) : 0 ≤ Go.bits .and .i64 y 255 ∧ Go.bits .and .i64 y 255 ≤ 255 := by
  have h1 : (BitVec.ofInt 64 y &&& BitVec.ofInt 64 255).toNat ≤ 255 := by
    rw [BitVec.toNat_and]
    exact Nat.le_trans Nat.and_le_right (by decide)
  have h2 : Go.bits .and .i64 y 255 = IntKind.i64.wrap (((BitVec.ofInt 64 y &&& BitVec.ofInt 64 255).toNat : Nat) : Int) := rfl
  rw [h2, IntKind.wrap_i64]
  omega
theorem new_ev (l : List Int) (hl : l.length ≤ 140737488351232) : ∀ (d p : Nat) (h : Int), p + d = l.length → ∃ h', Ev (fun k => spec_l01New.l0 k l h (p : Int)) (l, 0, h')
  | 0, p, h, hd => ⟨h, Ev.step (f := fun _ => some (l, 0, h)) (fun k => by simp only [spec_l01New.l0]; rw [if_neg (by omega)]) (Ev.now _)⟩
  | d + 1, p, h, hd => by
    by_cases h4 : p < 4000
    · obtain ⟨h', hh⟩ := new_ev l hl d (p + 1) (Go.bits .and .i64 (wrap64 ((wrap64 ((wrap64 (h * 131)) + (wrap64 (rd l (p : Int))))) + 7)) 1073741823) (by omega)
      refine ⟨h', Ev.step (fun k => ?_) hh⟩
      have hw : wrap64 ((p : Int) + 1) = ((p + 1 : Nat) : Int) := by unfold wrap64; omega
      simp only [spec_l01New.l0]
      rw [if_pos (by omega), if_pos (by omega), if_pos (by omega), hw]
    · exact ⟨h, Ev.step (f := fun _ => some (l, 0, h)) (fun k => by simp only [spec_l01New.l0]; rw [if_pos (by omega), if_neg (by omega)]) (Ev.now _)⟩
theorem l01New (l : List Int) (hl : l.length ≤ 140737488351232) : ∃ h, Ev (fun k => spec_l01New.f k l) (l, 0, h) := new_ev l hl l.length 0 _ (by omega)

theorem l01Byte (l : List Int) (hl : l.length ≤ 140737488351232) (i h : Int) (hi : 0 ≤ i) : ∃ x i' h', spec_l01Byte.f l i h = some (x, i', h') ∧ 0 ≤ x ∧ x ≤ 255 ∧ 0 ≤ i' := by
  unfold spec_l01Byte.f
  by_cases h1 : i < (l.length : Int)
  · rw [if_pos h1, if_pos hi]
    exact ⟨_, _, _, rfl, (and255 _).1, (and255 _).2, by unfold wrap64; omega⟩
  · rw [if_neg h1]
    exact ⟨_, _, _, rfl, (and255 _).1, (and255 _).2, hi⟩
theorem tmod_pos {a n : Int} (ha : 0 ≤ a) (hn : 0 < n) : 0 ≤ Int.tmod a n ∧ Int.tmod a n < n := by
  rw [Int.tmod_eq_emod_of_nonneg ha]
  exact ⟨Int.emod_nonneg _ (by omega), Int.emod_lt_of_pos _ hn⟩
theorem l01Below (l : List Int) (hl : l.length ≤ 140737488351232) (i h n : Int) (hi : 0 ≤ i) : ∃ x i' h', spec_l01Below.f l i h n = some (x, i', h') ∧ 0 ≤ x ∧ (0 < n → x < n) ∧ 0 ≤ i' := by
  unfold spec_l01Below.f
  by_cases h1 : n ≤ 0
  · rw [if_pos h1]
    exact ⟨_, _, _, rfl, by omega, by omega, hi⟩
  · rw [if_neg h1]
    obtain ⟨x, i1, g1, e1, x0, x1, hi1⟩ := l01Byte l hl i h hi
    by_cases h2 : n ≤ 256
    · rw [if_pos h2, e1]
      simp only [Option.bind_some]
      rw [if_neg (by omega)]
      have := tmod_pos x0 (show 0 < n by omega)
      exact ⟨_, _, _, rfl, this.1, fun _ => this.2, hi1⟩
    · rw [if_neg h2, e1]
      simp only [Option.bind_some]
      obtain ⟨y, i2, g2, e2, y0, y1, hi2⟩ := l01Byte l hl i1 g1 hi1
      rw [e2]
      simp only [Option.bind_some]
      obtain ⟨z, i3, g3, e3, z0, z1, hi3⟩ := l01Byte l hl i2 g2 hi2
      rw [e3]
      simp only [Option.bind_some]
      obtain ⟨u, i4, g4, e4, u0, u1, hi4⟩ := l01Byte l hl i3 g3 hi3
      rw [e4]
      simp only [Option.bind_some]
      rw [if_neg (by omega)]
      have hs : 0 ≤ wrap64 ((wrap64 ((wrap64 ((wrap64 (x * 16777216)) + (wrap64 (y * 65536)))) + (wrap64 (z * 256)))) + u) := by unfold wrap64; omega
      have := tmod_pos hs (show 0 < n by omega)
      exact ⟨_, _, _, rfl, this.1, fun _ => this.2, hi4⟩
theorem text_end (l : List Int) (n p : Nat) (xs : List Int) (i h : Int) (hp : p = n) (k : Nat) : spec_l01Text.l0 (k + 1) (n : Int) xs (p : Int) l i h = some (strOfNums xs, i, h) := by
  simp only [spec_l01Text.l0]
  rw [if_neg (by omega)]
theorem text_one (l : List Int) (n p : Nat) (xs : List Int) (i h x i1 g1 : Int) (hn : n ≤ 5000) (hx : xs.length = p) (hp : p < n) (e1 : spec_l01Byte.f l i h = some (x, i1, g1)) (k : Nat) :
    spec_l01Text.l0 (k + 1) (n : Int) xs (p : Int) l i h = spec_l01Text.l0 k (n : Int) (xs ++ [x % 256]) ((p + 1 : Nat) : Int) l i1 g1 := by
  have hw : wrap64 ((p : Int) + 1) = ((p + 1 : Nat) : Int) := by unfold wrap64; omega
  simp only [spec_l01Text.l0]
  rw [if_pos (by omega), e1]
  simp only [Option.bind_some]
  rw [if_pos (by omega), hw]
theorem text_ev (l : List Int) (hl : l.length ≤ 140737488351232) (n : Nat) (hn : n ≤ 5000) (d : Nat) : ∀ (p : Nat) (xs : List Int) (i h : Int), 0 ≤ i → xs.length = p → p + d = n →
    ∃ s i' h', Ev (fun k => spec_l01Text.l0 k (n : Int) xs (p : Int) l i h) (s, i', h') ∧ s.size = n ∧ 0 ≤ i' := by
  induction d with
  | zero =>
    intro p xs i h hi hx hd
    exact ⟨strOfNums xs, i, h, Ev.step (f := fun _ => some (strOfNums xs, i, h)) (text_end l n p xs i h (by omega)) (Ev.now _), by rw [strOfNums_size]; omega, hi⟩
  | succ d ih =>
    intro p xs i h hi hx hd
    obtain ⟨x, i1, g1, e1, x0, x1, hi1⟩ := l01Byte l hl i h hi
    obtain ⟨s, i', h', hE, hs, hi'⟩ := ih (p + 1) (xs ++ [x % 256]) i1 g1 hi1 (by rw [List.length_append, List.length_singleton, hx]) (by omega)
    exact ⟨s, i', h', Ev.step (text_one l n p xs i h x i1 g1 hn hx (by omega) e1) hE, hs, hi'⟩
/-- A drawn text has the length that was asked (of 0 to 5000). -/
theorem l01Text (l : List Int) (hl : l.length ≤ 140737488351232) (n i h : Int) (hi : 0 ≤ i) (hn : 0 ≤ n) (hn2 : n ≤ 5000) : ∃ s i' h', Ev (fun k => spec_l01Text.f k l i h n) (s, i', h') ∧ (s.size : Int) = n ∧ 0 ≤ i' := by
  obtain ⟨m, rfl⟩ := Int.eq_ofNat_of_zero_le hn
  obtain ⟨s, i', h', hE, hs, hi'⟩ := text_ev l hl m (by omega) m 0 [] i h hi rfl (by omega)
  refine ⟨s, i', h', ?_, by omega, hi'⟩
  refine Ev.congr (f := fun k => spec_l01Text.j0 k (m : Int) l i h) (fun k => ?_) (Ev.step (fun k => ?_) hE)
  · unfold spec_l01Text.f
    rw [if_neg (by omega)]
  · simp only [spec_l01Text.j0]
    rfl
end Go.Proofs.Ytjheiahfhknakaa.Draw
