/- The walk of FnTurned: it returns true and changes nothing that was there. Condition: the argument's bytes are fewer than 2^47. -/
import Derived.Test.YtjheiahfhknakaaPureTurned
import Derived.Test.YtjheiahfhknakaaFLawsBig
import Derived.RegionTactic
import Derived.ChangeAlike
namespace Go.Proofs.Ytjheiahfhknakaa.Turned
open Go.RowKit Go.Proofs.YtjheiahfhknakaaW.PrintWords Go.Proofs.YtjheiahfhknakaaW.PrintLast Go.Proofs.YtjheiahfhknakaaW.PrintMore Go.Proofs.Ytjheiahfhknakaa.G Go.Proofs.Ytjheiahfhknakaa.Crc Go.Proofs.Ytjheiahfhknakaa.Draw

theorem rd_in (ys : List Int) (h : ∀ x ∈ ys, 0 ≤ x ∧ x < 10000) (i : Int) (hi : i.toNat < ys.length) : 0 ≤ rd ys i ∧ rd ys i < 10000 := by
  unfold rd
  rw [List.getD_eq_getElem?_getD, List.getElem?_eq_getElem hi]
  exact h _ (List.getElem_mem hi)
theorem turned_byte (x : UInt8) (q : Int) (h1 : 1 ≤ q) (h2 : q ≤ 255) : ∃ y : UInt8, Go.bits .xor .u8 (x.toNat : Int) q = (y.toNat : Int) ∧ y ≠ x := by
  obtain ⟨n, rfl⟩ := Int.eq_ofNat_of_zero_le (show 0 ≤ q by omega)
  have hx := x.toNat_lt
  refine ⟨x ^^^ UInt8.ofNat n, ?_, fun h => ?_⟩
  · rw [u8_xor_nat x.toNat n (by omega) (by omega), UInt8.toNat_xor, UInt8.toNat_ofNat', Nat.mod_eq_of_lt (by omega)]
  · have h3 := congrArg UInt8.toNat h
    rw [UInt8.toNat_xor, UInt8.toNat_ofNat', Nat.mod_eq_of_lt (by omega)] at h3
    have h4 := congrArg (x.toNat ^^^ ·) h3
    simp only [← Nat.xor_assoc, Nat.xor_self, Nat.zero_xor] at h4
    omega
theorem cells_turned (s : ByteArray) (W : World) (g i : Nat) (y : UInt8) (hc : ∀ j, j < (shut s).size → W.cell? ⟨g, j, none⟩ = some (.int .u8 ((shut s).data.toList.getD j 0).toNat)) (hi : i < (shut s).size) :
    ∀ j (hj : j < ((shut s).data.toList.set i y).length), (W.setCell ⟨g, i, none⟩ (.int .u8 (y.toNat : Int))).drew.cell? ((⟨g, 0, none⟩ : Addr).add j) = some (.int .u8 ((((shut s).data.toList.set i y)[j]).toNat : Int)) := by
  intro j hj
  have hj2 : j < (shut s).data.toList.length := by rwa [List.length_set] at hj
  have hj3 : j < (shut s).size := by rwa [len] at hj2
  have hcj := hc j hj3
  have hci := hc i hi
  rw [add_plain, List.getElem_set]
  by_cases hij : i = j
  · subst hij
    rw [if_pos rfl]
    exact World.cell?_setCell_same _ _ _ hci
  · rw [if_neg hij]
    have he : (shut s).data.toList[j] = (shut s).data.toList.getD j 0 := by rw [List.getD_eq_getElem?_getD, List.getElem?_eq_getElem hj2]; rfl
    rw [he, ← hcj]
    exact World.cell?_setCell_other _ _ _ _ (fun h => by injection h with _ h2; exact hij h2)
/-- The world behind '[]byte(s)': all that was there is there. -/
theorem bytes_below {W : World} (e : TypeId) (s : ByteArray) : Below W.heap.size W (Lib.bytesWorld W e s) := by
  refine ⟨rfl, ?_, ?_, by rw [Lib.bytesWorld_size]; omega, fun j hj => Lib.bytesWorld_at_old W e s j hj⟩
  all_goals rfl
theorem bytes_free (W : World) (e : TypeId) (s : ByteArray) (j : Nat) (hj : j < s.size) : (Lib.bytesWorld W e s).frozen? ⟨W.heap.size, j, none⟩ = false := by
  have h2 : s.size ≤ (Lib.bytesCells W e s).size := by
    rw [Lib.bytesCells, Array.size_append, Array.size_map]
    exact Nat.le_add_right _ _
  unfold World.frozen?
  rw [Lib.bytesWorld_at_new]
  simp
  omega

theorem walk_big (A0 : Option Addr) (c0 : Nat) (l : List Int) (w : World) (hr : Kd.C (Kd.int .u8) w A0 l.length l) (hc : l.length ≤ c0) (hb : 1048576 < l.length) :
    Calls Try.prog 6 #[.slice A0 l.length c0] w fun e w' => e = .returned (.bool true) ∧ Below w.heap.size w w' := by
  have hbig : laws_big.f l = some true := by
    unfold laws_big.f
    rw [decide_eq_true (by omega)]
  go_enter Try.func6, Try.ntmps6
  go_wp2_with ((go_at_call 33); refine (laws_big.calls _ _ l true _ hr hc hbig).mono ?_; rintro e w' ⟨rfl, hd⟩)
  go_ret
  exact ⟨rfl, hd.below⟩
set_option maxRecDepth 100000 in
set_option maxHeartbeats 1000000 in
theorem walk_small (A0 : Option Addr) (c0 : Nat) (l : List Int) (w : World) (hr : Kd.C (Kd.int .u8) w A0 l.length l) (hc : l.length ≤ c0) (hb : ¬ 1048576 < l.length) :
    Calls Try.prog 6 #[.slice A0 l.length c0] w fun e w' => e = .returned (.bool true) ∧ Below w.heap.size w w' := by
  have hbig : laws_big.f l = some false := by
    unfold laws_big.f
    rw [decide_eq_false (by omega)]
  obtain ⟨s, hs, hs40⟩ := drawSumOf l (by omega)
  obtain ⟨ks, hs⟩ := hs.rounds
  obtain ⟨ys, hy, hy12, hyb⟩ := drawPlaces l (by omega)
  obtain ⟨ky, hy⟩ := hy.rounds
  obtain ⟨kt, ht⟩ := (sealed_ev s (by omega)).rounds
  obtain ⟨ku, hu⟩ := (unsealed_shut s (by omega)).rounds
  have HR := Aside0.mk hr
  have HC := Aside0.mk hc
  have H1 := Aside0.mk hbig
  have H2 := Aside0.mk hs
  have H3 := Aside0.mk hy
  have H4 := Aside0.mk ht
  have H5 := Aside0.mk hu
  have HY := Aside0.mk hy12
  have HZ := Aside0.mk hyb
  have HS := Aside0.mk hs40
  clear hr hc hbig hs hy ht hu hy12 hyb hs40 hb
  have HB0 := Aside0.mk (Below.refl w.heap.size w)
  have e1 : (s.toList != s.toList) = false := bne_self_eq_false _
  have e1b : (s.toList == s.toList) = true := beq_self_eq_true _
  have e2 : (((shut s).size : Int) != (s.size : Int) + 4) = false := by rw [shut_size]; simp
  have e3 : IntKind.i64.wrap ((s.size : Int) + 4) = (s.size : Int) + 4 := by have := HS.out; rw [IntKind.wrap_i64]; omega
  have hconv := fun W => Lib.run_convert_string_bytes (P := Try.prog) W 9 54 5 (shut s) Try.underlying9 Try.underlying54 Try.underlying5
  go_enter Try.func6, Try.ntmps6
  go_wp2_with fail
  refine (laws_big.calls _ _ l false _ HR.out HC.out H1.out).mono ?_
  rintro e w1 ⟨rfl, hd⟩
  have HB1 := Aside0.mk hd.below
  clear hd
  go_wp2_with fail
  refine (spec_DrawSumOf.calls ks _ _ l s _ (Kd.C_below HR.out HB1.out) HC.out H2.out).mono ?_
  rintro e w2 ⟨rfl, hb⟩
  have HB2 := Aside0.mk (below_then HB1.out HB1.out.size hb)
  clear hb
  go_wp2_with fail
  refine (spec_DrawPlaces.calls ky _ _ l ys _ (Kd.C_below HR.out HB2.out) HC.out H3.out).mono ?_
  rintro e w3 ⟨v, rfl, hv, hb⟩
  have HB3 := Aside0.mk (below_then HB2.out HB2.out.size hb)
  have HV := Aside0.mk (Kd.R_lower hv HB2.out.size)
  clear hb hv
  go_wp2_with fail
  refine (impl_Sealed.calls kt s _ _ _ H4.out).mono ?_
  rintro e w4 ⟨rfl, hb⟩
  have HV4 := Aside0.mk (Kd.R_below HV.out hb)
  have HB4 := Aside0.mk (below_then HB3.out HB3.out.size hb)
  clear hb HV
  go_wp2_with fail
  refine (impl_Unsealed.calls ku (shut s) _ _ _ H5.out).mono ?_
  rintro e w5 ⟨rfl, hb⟩
  have HV5 := Aside0.mk (Kd.R_below HV4.out hb.below)
  have HB5 := Aside0.mk (below_then HB4.out HB4.out.size hb.below)
  clear hb HV4
  go_upto_region 10 with (fail)
  clear hconv e1 e1b e2 e3
  have hB6 : Below w5.heap.size w5 (Lib.bytesWorld w5 5 (shut s)) := bytes_below 5 (shut s)
  have hcell6 := fun j hj => Lib.bytesWorld_cell w5 5 (shut s) j hj
  have hfree6 := fun j hj => bytes_free w5 5 (shut s) j hj
  have hsz : (shut s).size = s.size + 4 := shut_size s
  generalize Lib.bytesWorld w5 5 (shut s) = W6 at hB6 hcell6 hfree6 ⊢
  generalize grownCap w5 (shut s).size 0 5 = cap
  have HB6 := Aside0.mk (below_then HB5.out HB5.out.size hB6)
  have HV6 := Aside0.mk (Kd.R_below HV5.out hB6)
  have hge := HB5.out.size
  generalize hg : w5.heap.size = g at hcell6 hfree6 hge ⊢
  clear hB6 HV5 HB5 HB1 HB2 HB3 HB4 HB0 H1 H2 H3 H4 H5 hs hy hg
  obtain ⟨A, c, rfl, hAl, hC⟩ := Kd.R_reads HV6.out
  have hy0 : 0 ≤ rd ys 0 ∧ rd ys 0 < 10000 := rd_in ys HZ.out 0 (by rw [HY.out]; decide)
  have hy1 : 0 ≤ rd ys 1 ∧ rd ys 1 < 10000 := rd_in ys HZ.out 1 (by rw [HY.out]; decide)
  obtain ⟨ad, eA, hp0⟩ := Kd.at_int hC 0 (by omega) (by rw [HY.out]; decide)
  obtain ⟨ad', eA', hp1⟩ := Kd.at_int hC 1 (by omega) (by rw [HY.out]; decide)
  subst eA
  injection eA' with eA'
  subst eA'
  have HYL := Aside0.mk (HY.out ▸ rfl : ys.length = ys.length)
  obtain ⟨gp, rfl⟩ := Kd.R_head HV6.out
  rw [add_plain] at hp0 hp1
  replace hp0 : W6.cell? ⟨gp, 0, none⟩ = some (.int .i64 (rd ys 0)) := hp0
  replace hp1 : W6.cell? ⟨gp, 1, none⟩ = some (.int .i64 (rd ys 1)) := hp1
  generalize hn : ys.length = n at *
  have hn12 : (1 : Nat) < n := by have := HY.out; omega
  generalize rd ys 0 = p0 at hp0 hy0
  generalize rd ys 1 = p1 at hp1 hy1
  obtain ⟨h00, h01⟩ := hy0
  obtain ⟨h10, h11⟩ := hy1
  have hpos : 0 < (shut s).size := by omega
  have HSZ := Aside0.mk hsz
  clear hsz
  obtain ⟨i, hi⟩ : ∃ i : Nat, (i : Int) = p0 % ((shut s).size : Int) := ⟨(p0 % ((shut s).size : Int)).toNat, Int.toNat_of_nonneg (Int.emod_nonneg _ (by omega))⟩
  have hil : i < (shut s).size := by
    have := Int.emod_lt_of_pos p0 (show (0 : Int) < ((shut s).size : Int) by omega)
    omega
  have hm1 : p0 % ((shut s).size : Int) = (i : Int) := hi.symm
  have hm2 : p0.tmod ((shut s).size : Int) = (i : Int) := by rw [Int.tmod_eq_emod_of_nonneg h00]; exact hm1
  have hcx := hcell6 i hil
  have hfx := hfree6 i hil
  have HT := Aside0.mk hcell6
  have HF := Aside0.mk hfree6
  clear hcell6 hfree6 hi
  clear hm2
  go_upto_region 11 with (fail)
  rw [hm1]
  clear hm1 hp0
  have hq : (1 + p1 % 255) % 256 = 1 + p1 % 255 := by omega
  have hq0 : 0 ≤ p1 % 255 := by omega
  have hq1 : p1 % 255 < 255 := by omega
  have hxr : (0 : Int) ≤ ((shut s).data.toList.getD i 0).toNat := by omega
  go_region
  clear hq hxr hcx hp1 hC
  obtain ⟨y, hY, hne⟩ := turned_byte (shut s).data[i] (1 + p1 % 255) (by omega) (by omega)
  rw [hY]
  clear hY
  have hL : ((shut s).data.toList.set i y).length = (shut s).size := by rw [List.length_set, len]
  have hiL : i < (shut s).data.toList.length := by rw [len]; exact hil
  have hne' : y ≠ (shut s).data.toList[i] := hne
  obtain ⟨kz, hz⟩ := (unsealed_turned s (by have := HS.out; omega) i y hiL hne').rounds
  have hsl := HS.out
  obtain ⟨ka, ha⟩ := (sum_ev s (by omega)).rounds
  obtain ⟨kb, hb⟩ := (more_ev ⟨#[120]⟩ (by decide) (sum s) (sum_lt s)).rounds
  rw [sum_x] at hb
  obtain ⟨kd, hd⟩ := (sum_ev (s ++ ⟨#[120]⟩) (by rw [ByteArray.size_append]; exact Nat.le_trans (Nat.add_le_add (Nat.le_of_lt hsl) (show (⟨#[120]⟩ : ByteArray).size ≤ 1 by decide)) (by decide))).rounds
  have hback := run_convert_bytes_back (P := Try.prog) (W6.setCell ⟨g, i, none⟩ (.int .u8 (y.toNat : Int))).drew 54 9 5 ⟨g, 0, none⟩ cap ((shut s).data.toList.set i y) Try.underlying54 Try.underlying5 Try.underlying9 (cells_turned s W6 g i y HT.out hil)
  rw [hL] at hback
  have hB7 : Below w.heap.size w (W6.setCell ⟨g, i, none⟩ (.int .u8 (y.toNat : Int))).drew := below_drew (below_set HB6.out hge)
  generalize (W6.setCell ⟨g, i, none⟩ (.int .u8 (y.toNat : Int))).drew = W7 at hback hB7 ⊢
  have HB7 := Aside0.mk hB7
  have Hz := Aside0.mk hz
  have Ha := Aside0.mk ha
  have Hb := Aside0.mk hb
  have Hd := Aside0.mk hd
  have HL := Aside0.mk hL
  clear hz ha hb hd hL hne hne' hB7 HT HF HY
  have hsx : s.size + (⟨#[120]⟩ : ByteArray).size ≤ 9223372036854775807 := Nat.le_trans (Nat.add_le_add (Nat.le_of_lt hsl) (show (⟨#[120]⟩ : ByteArray).size ≤ 1 by decide)) (by decide)
  have hsame : (((sum (s ++ ⟨#[120]⟩) : Nat) : Int) == ((sum (s ++ ⟨#[120]⟩) : Nat) : Int)) = true := beq_self_eq_true _
  go_wp2_with fail
  refine (impl_Unsealed.calls kz _ _ _ _ Hz.out).mono ?_
  rintro e w8 ⟨rfl, hb⟩
  have HB8 := Aside0.mk (below_then HB7.out HB7.out.size hb.below)
  clear hb
  go_wp2_with fail
  refine (impl_SumOf.calls ka s _ _ Ha.out).mono ?_
  rintro e w9 ⟨rfl, hb⟩
  have HB9 := Aside0.mk (below_then HB8.out HB8.out.size hb.below)
  clear hb
  go_wp2_with fail
  refine (impl_SumMore.calls kb _ _ _ _ Hb.out).mono ?_
  rintro e w10 ⟨rfl, hb⟩
  have HB10 := Aside0.mk (below_then HB9.out HB9.out.size hb.below)
  clear hb
  go_wp2_with fail
  refine (impl_SumOf.calls kd _ _ _ Hd.out).mono ?_
  rintro e w11 ⟨rfl, hb⟩
  have HB11 := Aside0.mk (below_then HB10.out HB10.out.size hb.below)
  clear hb
  go_wp2_with fail
  go_ret
  exact ⟨rfl, HB11.out⟩
/-- FnTurned returns true, whatever bytes it is given. -/
theorem walk (A0 : Option Addr) (c0 : Nat) (l : List Int) (w : World) (hr : Kd.C (Kd.int .u8) w A0 l.length l) (hc : l.length ≤ c0) :
    Calls Try.prog 6 #[.slice A0 l.length c0] w fun e w' => e = .returned (.bool true) ∧ Below w.heap.size w w' := by
  by_cases hb : 1048576 < l.length
  · exact walk_big A0 c0 l w hr hc hb
  · exact walk_small A0 c0 l w hr hc hb
end Go.Proofs.Ytjheiahfhknakaa.Turned
