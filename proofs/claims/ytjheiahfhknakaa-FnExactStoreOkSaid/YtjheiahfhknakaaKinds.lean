/- Kinds that are apart down to the bottom: a slice no two of whose elements lead to one block (aslice), two parts that lead to no block in common (apair). What reads by them reads by the plain kinds, and the other way round. No condition. -/
import Derived.Test.YtjheiahfhknakaaStores
import Derived.Test.YtjheiahfhknakaaVars
namespace Go.Proofs.Ytjheiahfhknakaa.G
open Go.RowKit Go.Proofs.YtjheiahfhknakaaW.PrintWords Go.Proofs.YtjheiahfhknakaaW.PrintLast Go.Proofs.YtjheiahfhknakaaW.PrintMore
set_option linter.unusedVariables false
/-- A slice, no two of whose elements lead to one block. -/
def aslice {α : Type} (e : Nat) (d : Kd α) : Kd (List α) where
  sz := 1
  E := e :: d.E
  K := fun w xs cs => ∃ A c, cs = [.slice A xs.length c] ∧ xs.length ≤ c ∧ d.C w A xs.length xs
  M := fun w base ok xs cs => ∃ v, cs = [v] ∧ Kd.S d e w base ok v xs
  K_len := by
    rintro w x cs ⟨A, c, rfl, _⟩
    rfl
  K_one := by
    rintro w x cs ⟨A, c, rfl, _⟩ u hu
    rw [List.mem_singleton.1 hu]
    rfl
  K_below := by
    rintro w w1 x cs hb ⟨A, c, rfl, hl, hr⟩
    exact ⟨A, c, rfl, hl, Kd.C_below hr hb⟩
  K_of_M := by
    rintro w base ok x cs ⟨v, rfl, h⟩
    obtain ⟨A, c, rfl, hl, hr⟩ := Kd.S_reads h
    exact ⟨A, c, rfl, hl, hr⟩
  M_mono := by
    rintro w base ok ok' x cs hok ⟨v, rfl, h⟩
    exact ⟨v, rfl, Kd.S_mono h hok⟩
  M_bound := by
    rintro w base ok x cs ⟨v, rfl, h⟩
    exact ⟨v, rfl, Kd.S_bound h⟩
  M_move := by
    rintro w w1 base ok x cs hm ⟨v, rfl, h⟩
    exact ⟨v, rfl, Kd.S_move h hm⟩
  M_lower := by
    rintro w base base' ok x cs hb ⟨v, rfl, h⟩
    exact ⟨v, rfl, Kd.S_lower h hb⟩
/-- Two parts that lead to no block in common. -/
def apair {α β : Type} (a : Kd α) (b : Kd β) : Kd (α × β) where
  sz := a.sz + b.sz
  E := a.E ++ b.E
  K := fun w x cs => ∃ c0 c1, cs = c0 ++ c1 ∧ a.K w x.1 c0 ∧ b.K w x.2 c1
  M := fun w base ok x cs => ∃ (p : Nat → Prop) (c0 c1 : List Value), cs = c0 ++ c1 ∧ a.M w base (fun k => ok k ∧ p k) x.1 c0 ∧ b.M w base (fun k => ok k ∧ ¬ p k) x.2 c1
  K_len := by
    rintro w x cs ⟨c0, c1, rfl, h0, h1⟩
    rw [List.length_append, a.K_len h0, b.K_len h1]
  K_one := by
    rintro w x cs ⟨c0, c1, rfl, h0, h1⟩ u hu
    rcases List.mem_append.1 hu with hu | hu
    · exact a.K_one h0 u hu
    · exact b.K_one h1 u hu
  K_below := by
    rintro w w1 x cs hb ⟨c0, c1, rfl, h0, h1⟩
    exact ⟨c0, c1, rfl, a.K_below hb h0, b.K_below hb h1⟩
  K_of_M := by
    rintro w base ok x cs ⟨p, c0, c1, rfl, h0, h1⟩
    exact ⟨c0, c1, rfl, a.K_of_M h0, b.K_of_M h1⟩
  M_mono := by
    rintro w base ok ok' x cs hok ⟨p, c0, c1, rfl, h0, h1⟩
    exact ⟨p, c0, c1, rfl, a.M_mono (fun k hk => ⟨hok k hk.1, hk.2⟩) h0, b.M_mono (fun k hk => ⟨hok k hk.1, hk.2⟩) h1⟩
  M_bound := by
    rintro w base ok x cs ⟨p, c0, c1, rfl, h0, h1⟩
    exact ⟨p, c0, c1, rfl,
      a.M_mono (fun k hk => ⟨⟨hk.1.1, hk.2.1, hk.2.2.1, by obtain ⟨q, hq, hc⟩ := hk.2.2.2; exact ⟨q, List.mem_append_left _ hq, hc⟩⟩, hk.1.2⟩) (a.M_bound h0),
      b.M_mono (fun k hk => ⟨⟨hk.1.1, hk.2.1, hk.2.2.1, by obtain ⟨q, hq, hc⟩ := hk.2.2.2; exact ⟨q, List.mem_append_right _ hq, hc⟩⟩, hk.1.2⟩) (b.M_bound h1)⟩
  M_move := by
    rintro w w1 base ok x cs hm ⟨p, c0, c1, rfl, h0, h1⟩
    exact ⟨p, c0, c1, rfl, a.M_move (fun k hk => hm k hk.1) h0, b.M_move (fun k hk => hm k hk.1) h1⟩
  M_lower := by
    rintro w base base' ok x cs hb ⟨p, c0, c1, rfl, h0, h1⟩
    exact ⟨p, c0, c1, rfl, a.M_lower hb h0, b.M_lower hb h1⟩
section
variable {α : Type} {d d' : Kd α} {e base g : Nat} {ok ok' : Nat → Prop} {w w1 : World} {v : Value} {x : α} {xs : List α} {cs : List Value}
/-- A row whose elements lead to nothing is apart. -/
theorem S_of_R (hE : d.E = []) (h : d.R e w base ok v xs) : Kd.S d e w base ok v xs := by
  obtain ⟨h0, inner, ho, hr⟩ := h
  refine ⟨fun _ => 0, h0, inner, by rw [List.length_zipIdx]; exact ho, by rw [List.length_zipIdx]; exact hr.1, fun j p hj => ?_⟩
  obtain ⟨y, i⟩ := p
  rw [List.getElem?_zipIdx] at hj
  cases hy : xs[j]? with
  | none => rw [hy] at hj; simp at hj
  | some z =>
    rw [hy] at hj
    simp only [Option.map_some, Option.some.injEq, Prod.mk.injEq] at hj
    obtain ⟨rfl, rfl⟩ := hj
    refine d.M_mono (fun k hk => ?_) (d.M_bound (hr.2 j z hy))
    obtain ⟨_, _, _, q, hq, _⟩ := hk
    rw [hE] at hq
    cases hq
/-- A row by one kind is one by another, where the elements' readings agree. -/
theorem S_imp (hs : d.sz = d'.sz) (h : ∀ w base ok x cs, d.M w base ok x cs → d'.M w base ok x cs) (hR : Kd.S d e w base ok v xs) : Kd.S d' e w base ok v xs := by
  obtain ⟨f, h0, inner, ho, hr⟩ := hR
  have hs' : (Kd.tag f d).sz = (Kd.tag f d').sz := hs
  refine ⟨f, h0, inner, by rw [← hs']; exact ho, by rw [← hs']; exact hr.1, fun j p hj => ?_⟩
  rw [← hs']
  exact h _ _ _ _ _ (hr.2 j p hj)
end
/-- An element is written anew, with what it leads to made since. -/
theorem S_put {α : Type} {d : Kd α} {e g n cap base : Nat} {W W1 : World} {xs : List α} {x' : α} {cs : List Value} (h : Kd.S d e W base (fun _ => True) (.slice (some ⟨g, 0, none⟩) n cap) xs) (hb : Below W.heap.size W W1)
    (hM : d.M W1 W.heap.size (fun _ => True) x' cs) (z : α) (i : Nat) (hi : i < n) (hbase : base ≤ W.heap.size) :
    Kd.S d e (W1.setCells g (i * d.sz) cs) base (fun _ => True) (.slice (some ⟨g, 0, none⟩) n cap) (xs.set i x') ∧ W1.grownBy (W1.setCells g (i * d.sz) cs) (some g) := by
  have hg : g < W.heap.size := Kd.S_lt h g (by simp [Value.ownBlock])
  have h2 : Kd.S d e W1 base (fun k => True ∧ ¬ W.heap.size ≤ k) (.slice (some ⟨g, 0, none⟩) n cap) xs := Kd.S_mono (Kd.S_old h hb) (fun k hk => ⟨trivial, by omega⟩)
  obtain ⟨oki, c, hcl, _, _, _, hH⟩ := Kd.S_lend h2 z (i : Int) (by omega) (by omega)
  have hl : cs.length = d.sz := d.K_len (d.K_of_M hM)
  have hM2 : d.M W1 base (fun k => W.heap.size ≤ k) x' (c.take 0 ++ cs ++ c.drop (0 + cs.length)) := by
    rw [List.take_zero, List.nil_append, Nat.zero_add, List.drop_eq_nil_of_le (by omega), List.append_nil]
    exact d.M_mono (fun k hk => hk.2.1) (d.M_lower hbase (d.M_bound hM) |> fun h => h)
  have h3 := Kd.S_seg hH (by omega) (by omega) (seg := cs) (j := 0) (by omega) hM2 (fun k hk => .inr hk) (fun k hk => ⟨trivial, by omega⟩)
  rw [Int.toNat_natCast, Nat.add_zero] at h3
  exact h3
/-! #### mails, boxes, stores that are apart to the bottom -/
def k69a : Kd S69 := Kd.iso (Kd.pair (Kd.int .i64) (Kd.pair (Kd.int .i64) (Kd.pair (aslice 146 k146) Kd.string))) (fun x : S69 => (x.f0, x.f1, x.f2, x.f3))
theorem k69a_K {w : World} {x : S69} {cs : List Value} (h : k69a.K w x cs) : k69.K w x cs := h
theorem k69a_openM {w : World} {base : Nat} {ok : Nat → Prop} {x : S69} {cs : List Value} (h : k69a.M w base ok x cs) : ∃ v2, cs = [.int .i64 x.f0, .int .i64 x.f1, v2, .string x.f3] ∧ Kd.S k146 146 w base ok v2 x.f2 := by
  obtain ⟨_, _, rfl, rfl, ⟨_, _, rfl, rfl, ⟨_, _, rfl, ⟨v2, rfl, g2⟩, rfl⟩⟩⟩ := h
  exact ⟨v2, rfl, g2⟩
theorem k69a_mkM {w : World} {base : Nat} {ok : Nat → Prop} (x : S69) {v2 : Value} (g2 : Kd.S k146 146 w base ok v2 x.f2) : k69a.M w base ok x [.int .i64 x.f0, .int .i64 x.f1, v2, .string x.f3] :=
  ⟨[.int .i64 x.f0], [.int .i64 x.f1, v2, .string x.f3], rfl, rfl, ⟨[.int .i64 x.f1], [v2, .string x.f3], rfl, rfl, ⟨[v2], [.string x.f3], rfl, ⟨v2, rfl, g2⟩, rfl⟩⟩⟩
def k47a : Kd S47 := Kd.iso (Kd.pair (Kd.int .i64) (Kd.pair Kd.string (Kd.pair k44 (Kd.pair (Kd.int .i64) (apair (aslice 69 k69a) (aslice 3 (Kd.int .i64))))))) (fun x : S47 => (x.f0, x.f1, x.f2, x.f3, x.f4, x.f5))
theorem k47a_K {w : World} {x : S47} {cs : List Value} (h : k47a.K w x cs) : k47.K w x cs := h
theorem k47a_openM {w : World} {base : Nat} {ok : Nat → Prop} {x : S47} {cs : List Value} (h : k47a.M w base ok x cs) : ∃ (p : Nat → Prop) (v5 v6 : Value), cs = [.int .i64 x.f0, .string x.f1, .int .i64 x.f2.f0, .int .i64 x.f2.f1, .int .i64 x.f3, v5, v6] ∧
    Kd.S k69a 69 w base (fun k => ok k ∧ p k) v5 x.f4 ∧ Kd.S (Kd.int .i64) 3 w base (fun k => ok k ∧ ¬ p k) v6 x.f5 := by
  obtain ⟨_, _, rfl, rfl, ⟨_, _, rfl, rfl, ⟨_, _, rfl, s2, ⟨_, _, rfl, rfl, ⟨p, _, _, rfl, ⟨v5, rfl, g5⟩, ⟨v6, rfl, g6⟩⟩⟩⟩⟩⟩ := h
  obtain rfl := k44_openM s2
  exact ⟨p, v5, v6, rfl, g5, g6⟩
theorem k47a_mkM {w : World} {base : Nat} {ok : Nat → Prop} (x : S47) (p : Nat → Prop) {v5 v6 : Value} (g5 : Kd.S k69a 69 w base (fun k => ok k ∧ p k) v5 x.f4) (g6 : Kd.S (Kd.int .i64) 3 w base (fun k => ok k ∧ ¬ p k) v6 x.f5) :
    k47a.M w base ok x [.int .i64 x.f0, .string x.f1, .int .i64 x.f2.f0, .int .i64 x.f2.f1, .int .i64 x.f3, v5, v6] :=
  ⟨[.int .i64 x.f0], [.string x.f1, .int .i64 x.f2.f0, .int .i64 x.f2.f1, .int .i64 x.f3, v5, v6], rfl, rfl, ⟨[.string x.f1], [.int .i64 x.f2.f0, .int .i64 x.f2.f1, .int .i64 x.f3, v5, v6], rfl, rfl, ⟨[.int .i64 x.f2.f0, .int .i64 x.f2.f1], [.int .i64 x.f3, v5, v6], rfl, k44_mkM w base ok x.f2, ⟨[.int .i64 x.f3], [v5, v6], rfl, rfl, ⟨p, [v5], [v6], rfl, ⟨v5, rfl, g5⟩, ⟨v6, rfl, g6⟩⟩⟩⟩⟩⟩
def k29a : Kd S29 := Kd.iso (Kd.pair (Kd.int .i64) (Kd.pair (Kd.int .i64) (apair (aslice 47 k47a) (aslice 3 (Kd.int .i64))))) (fun x : S29 => (x.f0, x.f1, x.f2, x.f3))
theorem k29a_K {w : World} {x : S29} {cs : List Value} (h : k29a.K w x cs) : k29.K w x cs := h
theorem k29a_openM {w : World} {base : Nat} {ok : Nat → Prop} {x : S29} {cs : List Value} (h : k29a.M w base ok x cs) : ∃ (p : Nat → Prop) (v2 v3 : Value), cs = [.int .i64 x.f0, .int .i64 x.f1, v2, v3] ∧
    Kd.S k47a 47 w base (fun k => ok k ∧ p k) v2 x.f2 ∧ Kd.S (Kd.int .i64) 3 w base (fun k => ok k ∧ ¬ p k) v3 x.f3 := by
  obtain ⟨_, _, rfl, rfl, ⟨_, _, rfl, rfl, ⟨p, _, _, rfl, ⟨v2, rfl, g2⟩, ⟨v3, rfl, g3⟩⟩⟩⟩ := h
  exact ⟨p, v2, v3, rfl, g2, g3⟩
theorem k29a_mkM {w : World} {base : Nat} {ok : Nat → Prop} (x : S29) (p : Nat → Prop) {v2 v3 : Value} (g2 : Kd.S k47a 47 w base (fun k => ok k ∧ p k) v2 x.f2) (g3 : Kd.S (Kd.int .i64) 3 w base (fun k => ok k ∧ ¬ p k) v3 x.f3) :
    k29a.M w base ok x [.int .i64 x.f0, .int .i64 x.f1, v2, v3] :=
  ⟨[.int .i64 x.f0], [.int .i64 x.f1, v2, v3], rfl, rfl, ⟨[.int .i64 x.f1], [v2, v3], rfl, rfl, ⟨p, [v2], [v3], rfl, ⟨v2, rfl, g2⟩, ⟨v3, rfl, g3⟩⟩⟩⟩
/-- It returns a struct of its own making that reads as x, and nothing that was there has turned. -/
def Makes {α : Type} (d : Kd α) (x : α) (w : World) (e : Ending) (w' : World) : Prop := ∃ cs : Array Value, e = .returned (.agg cs) ∧ d.M w' w.heap.size (fun _ => True) x cs.toList ∧ Below w.heap.size w w'
/-- It returns a row of its own making that reads as xs, and nothing that was there has turned. -/
def MakesS {α : Type} (d : Kd α) (t : Nat) (xs : List α) (w : World) (e : Ending) (w' : World) : Prop := ∃ v : Value, e = .returned v ∧ Kd.S d t w' w.heap.size (fun _ => True) v xs ∧ Below w.heap.size w w'
end Go.Proofs.Ytjheiahfhknakaa.G
