/- Parts of a proof about aliases: F7, F8, G1, G2, G3, G4, G5, G6, G7, G8. -/
import Derived.Test.YtbfgpkogginmjaaGreatDoorZ20
import Derived.Test.YtbfgpkogginmjaaGreatDoorZ38
section
namespace Go.Proofs.YtbfgpkogginmjaaGreatDoor
open Go.RowKit Go.Lib Go.Proofs.YtbfgpkogginmjaaGreatDoorW.PrintWords Go.Proofs.YtbfgpkogginmjaaGreatDoor.PSwitchboardGreat
set_option linter.unusedSectionVars false
variable [LawBase]
set_option linter.unusedVariables false
set_option linter.unusedSimpArgs false
set_option maxRecDepth 1000000
set_option maxHeartbeats 1600000
theorem left_x {l : List UInt8} {n : Int} (hn : ((l.length : Nat) : Int) = n) (W : World) (g : Nat) (hI : IN W g (toB l) 0) : Calls Tryz.prog 68 #[.pointer (some ⟨g, 0, none⟩)] W (IPost W g (.int .i64 n) (toB l) 0) := by
  have h := left_in hI
  rw [toB_size, hn] at h
  exact h
def hsS : ByteArray := ⟨#[35]⟩
theorem hs_asc : Asc hsS := by
  intro x hx
  have h : x ∈ ([35] : List UInt8) := hx
  simp only [List.mem_cons, List.not_mem_nil, or_false] at h
  rcases h with rfl; decide
def suB : ByteArray := toB (be2 (1 % 65536) ++ (0 :: (dat hsS ++ [0])))
def BegX (w : World) (e : Ending) (w' : World) : Prop := ∃ g, e = .returned (.tuple #[.pointer (some ⟨g, 0, none⟩), .int .u32 1, .slice none 0 0]) ∧ w.heap.size ≤ g ∧ IN w' g (toB (dat hsS ++ [0])) 0 ∧ Below w.heap.size w w'
theorem begin_x {w : World} : Calls Tryz.prog 183 #[.string suB, .int .i64 8] w (BegX w) := by
  have HTW := Lib.hid (two_x 1 (by decide) (0 :: (dat hsS ++ [0])))
  rw [show ((1 : Nat) : Int) = 1 from rfl] at HTW
  have HPT := Lib.hid (nil_x 8 (dat hsS ++ [0]))
  have HLF := Lib.hid (left_x (l := dat hsS ++ [0]) (n := 4) rfl)
  unfold BegX suB
  generalize toB (be2 (1 % 65536) ++ (0 :: (dat hsS ++ [0]))) = s at HTW ⊢
  generalize toB (0 :: (dat hsS ++ [0])) = s1 at HTW HPT
  generalize toB (dat hsS ++ [0]) = s2 at HPT HLF ⊢
  go_enter Tryz.func183, Tryz.ntmps183
  go_upto_region 3 with (first
    | (go_at_call 64; refine (over_in s).mono ?_; rintro e w1 ⟨g, rfl, hi, hg, hb⟩; have HG := Lib.hid hg; have HW1 := Lib.hid hb; have HI1 := Lib.hid hi; clear hi hg hb)
    | (go_at_call 127; (with_reducible refine (HTW.out _ _ HI1.out).mono ?_); rintro e w2 ⟨rfl, hi, hc⟩; have HW2 := Lib.hid (HW1.out.trans (hc.to_below HW1.out.size (fun k hk => hk ▸ HG.out))); have HI2 := Lib.hid hi; clear hi hc HI1))
  go_upto_region 5 with (first
      | (go_at_call 66; refine (err_same HI2.out).mono ?_; rintro e w29 ⟨rfl, rfl⟩))
  go_upto_region 6 with (first
        | (go_at_call 128; (with_reducible refine (HPT.out _ _ HI2.out).mono ?_); rintro e w4 ⟨rfl, hi, hc⟩; have HI4 := Lib.hid hi; have HW4 := Lib.hid (HW2.out.trans (hc.to_below HW2.out.size (fun k hk => hk ▸ HG.out))); clear hi hc))
  go_wp2_with (first
          | (go_at_call 66; refine (err_same HI4.out).mono ?_; rintro e w49 ⟨rfl, rfl⟩)
          | (go_at_call 68; (with_reducible refine (HLF.out _ _ HI4.out).mono ?_); rintro e w5 ⟨rfl, hi, hc⟩; have HI5 := Lib.hid hi; have HW5 := Lib.hid (HW4.out.trans (hc.to_below HW4.out.size (fun k hk => hk ▸ HG.out))); clear hi hc))
  exact bodyPost_ret (v := .tuple #[.pointer (some ⟨g, 0, none⟩), .int .u32 1, .slice none 0 0]) (by simp [results, Tryz.results183, go_sem]) rfl ⟨g, rfl, HG.out, HI5.out, HW5.out⟩
theorem so_one {w : World} {B : Nat} {ok : Nat → Prop} {A : Option Addr} {n c : Nat} {x : SB} (h : k155.R 83 w B ok (.slice A n c) ([] ++ [x])) : n = 1 := by
  obtain ⟨A4, c4, hv4, _, _⟩ := ro_form h
  injection hv4 with e1 e2 e3
def SuX (w : World) (e : Ending) (w' : World) : Prop := ∃ ad c, e = .returned (.tuple #[.agg #[.int .u32 1, .slice none 0 0, .slice (some ad) 1 c], .int .i64 0]) ∧ Below w.heap.size w w' ∧ SubC w' ad
theorem subparse_x {w : World} : Calls Tryz.prog 133 #[.string suB] w (SuX w) := by
  have HBG := Lib.hid (fun W => begin_x (w := W))
  unfold BegX at HBG
  have HTK := Lib.hid (tk_dat (B2 := toB [0]) (l := [0]) hsS hs_asc (by decide) rfl)
  have HLF := Lib.hid (left_x (l := dat hsS ++ [0]) (n := 4) rfl)
  have HL0 := Lib.hid (left_x (l := []) (n := 0) rfl)
  have HBY := Lib.hid (by_x 0 [])
  rw [show ((0 : UInt8).toNat : Int) = 0 from rfl] at HBY
  rw [show toB [] = ⟨#[]⟩ from rfl] at HBY HL0
  generalize toB (dat hsS ++ [0]) = s2 at HBG HTK HLF
  generalize toB [0] = s3 at HTK HBY
  unfold hsS at HTK
  generalize suB = s at HBG ⊢
  have z3 : Go.bits .and .u8 0 3 = 0 := by decide
  have z4 : Go.bits .and .u8 0 4 = 0 := by decide
  have z8 : Go.bits .and .u8 0 8 = 0 := by decide
  have HX0 := Lib.hid (heap_alloc_new w (.cells #[.int .u32 0, .slice none 0 0, .slice none 0 0] 86))
  have HW0 := Lib.hid (show Below w.heap.size w (w.alloc (.cells #[.int .u32 0, .slice none 0 0, .slice none 0 0] 86)) from (Below.refl _ _).alloc (Nat.le_refl _) _)
  go_enter Tryz.func133, Tryz.ntmps133
  go_upto_region 1 with (fail)
  generalize (w.alloc (.cells #[.int .u32 0, .slice none 0 0, .slice none 0 0] 86)) = W0 at HX0 HW0 ⊢
  go_upto_region 3 with (first
      | (go_at_call 183; (with_reducible refine (HBG.out _).mono ?_); rintro e w1 ⟨g, rfl, hg, hi, hb⟩; have HG := Lib.hid (show w.heap.size ≤ g by have := HW0.out.size; omega); have HNX := Lib.hid (show w.heap.size ≠ g by have := blk_lt HX0.out; omega); have HX1 := Lib.hid (blk_below HX0.out hb); have HW1 := Lib.hid (HW0.out.trans (hb.mono HW0.out.size)); have HI1 := Lib.hid hi; clear hg hi hb))
  have HNB := Lib.hid (show w1.heap.size ≠ g by have := HI1.out.lt; omega)
  have HXB := Lib.hid (show w.heap.size ≠ w1.heap.size by have := blk_lt HX1.out; omega)
  have HLB := Lib.hid (show w.heap.size ≤ w1.heap.size from HW1.out.size)
  have hba := (Below.refl w1.heap.size w1).alloc (Nat.le_refl _) (.cells #[.int .u32 1, .slice none 0 0, .slice none 0 0] 86)
  have HI2 := Lib.hid (HI1.out.below hba)
  have HX2 := Lib.hid (blk_below HX1.out hba)
  have HW2 := Lib.hid (HW1.out.trans (hba.mono HW1.out.size))
  have HB2 := Lib.hid (heap_alloc_new w1 (.cells #[.int .u32 1, .slice none 0 0, .slice none 0 0] 86))
  clear hba HI1 HX1 HW1 HX0 HW0
  generalize (w1.alloc (.cells #[.int .u32 1, .slice none 0 0, .slice none 0 0] 86)) = W2 at HI2 HX2 HW2 HB2 ⊢
  refine wp_loop_rounds 2 ?_
  rw [rounds_succ]
  go_upto_region 6 with (first
          | (go_at_call 68; (with_reducible refine (HLF.out _ _ HI2.out).mono ?_); rintro e w3 ⟨rfl, hi, hc⟩; have HI3 := Lib.hid hi; have HX3 := Lib.hid (hc.blk HX2.out HNX.out); have HB3 := Lib.hid (hc.blk HB2.out HNB.out); have HW3 := Lib.hid (HW2.out.trans (hc.to_below HW2.out.size (fun k hk => hk ▸ HG.out))); clear hi hc)
          | (go_at_call 66; refine (err_same HI3.out).mono ?_; rintro e w4 ⟨rfl, rfl⟩)
          | (go_at_call 126; (with_reducible refine (HTK.out _ _ HI3.out).mono ?_); rintro e w5 ⟨rfl, hi, hc⟩; have HI5 := Lib.hid hi; have HX5 := Lib.hid (hc.blk HX3.out HNX.out); have HB5 := Lib.hid (hc.blk HB3.out HNB.out); have HW5 := Lib.hid (HW3.out.trans (hc.to_below HW3.out.size (fun k hk => hk ▸ HG.out))); have hba := (Below.refl w5.heap.size w5).alloc (Nat.le_refl _) (.cells #[.string ⟨#[35]⟩, .int .u8 0, .bool false, .bool false, .int .u8 0] 83); have HI6 := Lib.hid (HI5.out.below hba); have HX6 := Lib.hid (blk_below HX5.out hba); have HB6 := Lib.hid (blk_below HB5.out hba); have HW6 := Lib.hid (HW5.out.trans (hba.mono HW5.out.size)); have HP6 := Lib.hid (heap_alloc_new w5 (.cells #[.string ⟨#[35]⟩, .int .u8 0, .bool false, .bool false, .int .u8 0] 83)); have HNW := Lib.hid hc.size; have HLP := Lib.hid (show w.heap.size ≤ w5.heap.size from HW5.out.size); have HNP := Lib.hid (show w5.heap.size ≠ g ∧ w5.heap.size ≠ w.heap.size ∧ w5.heap.size ≠ w1.heap.size by have h1 := HI5.out.lt; have h2 := blk_lt HX5.out; have h3 := blk_lt HB5.out; omega); clear hba hc hi)
          | (go_at_call 92; (with_reducible refine (HBY.out _ _ HI6.out).mono ?_); rintro e w7 ⟨rfl, hi, hc⟩; have HI7 := Lib.hid hi; have HX7 := Lib.hid (hc.blk HX6.out HNX.out); have HB7 := Lib.hid (hc.blk HB6.out HNB.out); have HP7 := Lib.hid (hc.blk HP6.out HNP.out.1); have HW7 := Lib.hid (HW6.out.trans (hc.to_below HW6.out.size (fun k hk => hk ▸ HG.out))); clear hi hc))
  obtain ⟨p0, p1, p2, p3, p4⟩ := rcell HP7.out
  have z1 := blk_frozen HP7.out 1
  have z2 := blk_frozen HP7.out 2
  have z3' := blk_frozen HP7.out 3
  have z4' := blk_frozen HP7.out 4
  clear HI2 HX2 HW2 HB2 HI3 HX3 HB3 HW3 HI5 HX5 HB5 HW5 HI6 HX6 HB6 HW6 HP6
  go_upto_block 2 with (fail)
  clear p0 p1 p2 p3 p4 z1 z2 z3' z4'
  have HP8 := Lib.hid (blk_put (blk_put (blk_put (blk_put HP7.out 1 (.int .u8 0) rfl) 2 (.bool false) rfl) 3 (.bool false) rfl) 4 (.int .u8 0) rfl)
  have HX8 := Lib.hid (blk_sfar (blk_sfar (blk_sfar (blk_sfar HX7.out 1 (.int .u8 0) HNP.out.2.1.symm) 2 (.bool false) HNP.out.2.1.symm) 3 (.bool false) HNP.out.2.1.symm) 4 (.int .u8 0) HNP.out.2.1.symm)
  have HB8 := Lib.hid (blk_sfar (blk_sfar (blk_sfar (blk_sfar HB7.out 1 (.int .u8 0) HNP.out.2.2.symm) 2 (.bool false) HNP.out.2.2.symm) 3 (.bool false) HNP.out.2.2.symm) 4 (.int .u8 0) HNP.out.2.2.symm)
  have HI8 := Lib.hid (IN.setc (IN.setc (IN.setc (IN.setc HI7.out w5.heap.size 1 (.int .u8 0) (fun e => HNP.out.1 e.symm)) w5.heap.size 2 (.bool false) (fun e => HNP.out.1 e.symm)) w5.heap.size 3 (.bool false) (fun e => HNP.out.1 e.symm)) w5.heap.size 4 (.int .u8 0) (fun e => HNP.out.1 e.symm))
  have HW8 := Lib.hid (bset (bset (bset (bset HW7.out w5.heap.size 1 (.int .u8 0) HLP.out) w5.heap.size 2 (.bool false) HLP.out) w5.heap.size 3 (.bool false) HLP.out) w5.heap.size 4 (.int .u8 0) HLP.out)
  clear HP7 HX7 HB7 HI7 HW7
  generalize ((((w7.setCell ⟨w5.heap.size, 1, none⟩ (.int .u8 0)).setCell ⟨w5.heap.size, 2, none⟩ (.bool false)).setCell ⟨w5.heap.size, 3, none⟩ (.bool false)).setCell ⟨w5.heap.size, 4, none⟩ (.int .u8 0)) = W8 at HP8 HX8 HB8 HI8 HW8 ⊢
  obtain ⟨p0, p1, p2, p3, p4⟩ := rcell HP8.out
  obtain ⟨b0, b1, b2⟩ := frcell HB8.out
  have HS8 := Lib.hid (show SO W8 w.heap.size (.slice none 0 0) [] from Kd.R_nil _ _ _ _ _)
  have HWS := Lib.hid HW8.out.size
  go_wp2_with ((with_reducible refine gate_builtin (b := .append) (xs := #[.tmp 65, .tmp 67]) rfl ?_); at_builtin; refine Kd.R_append k155 (w0 := _) w.heap.size rfl (.tmp 65) (.tmp 67) 84 83 (.agg #[.string ⟨#[]⟩, .int .u8 0, .bool false, .bool false, .int .u8 0]) 24 rfl Tryz.underlying84 info155 rfl (by decide) (by decide) _ [] ⟨⟨#[35]⟩, 0, false, false, 0⟩ [.string ⟨#[35]⟩, .int .u8 0, .bool false, .bool false, .int .u8 0] (fun _ => True) (fun _ => False) rfl rfl (k155_mkM _ _ _ ⟨⟨#[35]⟩, 0, false, false, 0⟩) (fun _ h => h.elim) (fun _ _ => trivial) HS8.out (Below.refl _ _) HWS.out (by decide) ?_; intro v1 w9 hr hb hg hat; obtain ⟨A3, n3, c3, rfl⟩ := ro_sl hr; have HR9 := Lib.hid hr; have HB9 := Lib.hid (ro_grown k155_E HS8.out hg HB8.out (by decide)); have HX9 := Lib.hid (ro_grown k155_E HS8.out hg HX8.out (by decide)); have HI9 := Lib.hid (show IN w9 g ⟨#[]⟩ 0 from ro_grown k155_E HS8.out hg HI8.out (by decide)); have HW9 := Lib.hid (HW8.out.trans hb); have fz9 := blk_frozen HB9.out 2; obtain ⟨d0, d1, d2⟩ := frcell HB9.out; clear hr hb hg hat)
  have HRA := Lib.hid (ro_to k155_E HR9.out (chg_setc w1.heap.size 2 (.slice A3 n3 c3)) (fun k hk => .inr ⟨_, _, hk ▸ HB9.out, by decide⟩))
  have HIA := Lib.hid (IN.setc HI9.out w1.heap.size 2 (.slice A3 n3 c3) (fun e => HNB.out e.symm))
  have HXA := Lib.hid (blk_sfar HX9.out 2 (.slice A3 n3 c3) HXB.out)
  have HBA := Lib.hid (blk_put HB9.out 2 (.slice A3 n3 c3) rfl)
  have HWA := Lib.hid (bset HW9.out w1.heap.size 2 (.slice A3 n3 c3) HLB.out)
  clear HS8 HP8 HX8 HB8 HI8 HW8 HR9 HB9 HX9 HI9 HW9 fz9 d0 d1 d2 p0 p1 p2 p3 p4 b0 b1 b2 HWS
  have e2 := so_one HRA.out
  subst e2
  generalize (w9.setCell ⟨w1.heap.size, 2, none⟩ (.slice A3 1 c3)) = WA at HRA HIA HXA HBA HWA ⊢
  rw [rounds_succ]
  go_wp2_with (first
    | (go_at_call 68; (with_reducible refine (HL0.out _ _ HIA.out).mono ?_); rintro e w10 ⟨rfl, hi, hc⟩; have HIB := Lib.hid hi; have HXB1 := Lib.hid (hc.blk HXA.out HNX.out); have HBB := Lib.hid (hc.blk HBA.out HNB.out); have HWB := Lib.hid (HWA.out.trans (hc.to_below HWA.out.size (fun k hk => hk ▸ HG.out))); have HRB := Lib.hid (ro_to k155_E HRA.out hc (fun k hk => .inr ⟨_, _, hk ▸ HIA.out, by decide⟩)); clear hi hc)
    | (go_at_call 130; (with_reducible refine (end_x _ _ HIB.out).mono ?_); rintro e w11 ⟨rfl, hi, hc⟩; have HXC := Lib.hid (hc.blk HXB1.out HNX.out); have HBC := Lib.hid (hc.blk HBB.out HNB.out); have HWC := Lib.hid (HWB.out.trans (hc.to_below HWB.out.size (fun k hk => hk ▸ HG.out))); have HRC := Lib.hid (ro_to k155_E HRB.out hc (fun k hk => .inr ⟨_, _, hk ▸ HIB.out, by decide⟩)); obtain ⟨k0, k1, k2⟩ := frcell HBC.out; obtain ⟨r0, r1, r2⟩ := frcell HXC.out; have f0 := blk_frozen HXC.out 0; have f1 := blk_frozen HXC.out 1; have f2 := blk_frozen HXC.out 2; clear hi hc))
  have HF := Lib.hid (blk_put (blk_put (blk_put HXC.out 0 (.int .u32 1) rfl) 1 (.slice none 0 0) rfl) 2 (.slice A3 1 c3) rfl)
  have HBF := Lib.hid (bset (bset (bset HWC.out w.heap.size 0 (.int .u32 1) (Nat.le_refl _)) w.heap.size 1 (.slice none 0 0) (Nat.le_refl _)) w.heap.size 2 (.slice A3 1 c3) (Nat.le_refl _))
  have HRF := Lib.hid (ro_setc k155_E (ro_setc k155_E (ro_setc k155_E HRC.out w.heap.size 0 (.int .u32 1) HXC.out (by decide)) w.heap.size 1 (.slice none 0 0) (blk_put HXC.out 0 (.int .u32 1) rfl) (by decide)) w.heap.size 2 (.slice A3 1 c3) (blk_put (blk_put HXC.out 0 (.int .u32 1) rfl) 1 (.slice none 0 0) rfl) (by decide))
  generalize (((w11.setCell ⟨w.heap.size, 0, none⟩ (.int .u32 1)).setCell ⟨w.heap.size, 1, none⟩ (.slice none 0 0)).setCell ⟨w.heap.size, 2, none⟩ (.slice A3 1 c3)) = WF at HF HBF HRF ⊢
  obtain ⟨o0, o1, o2⟩ := frcell HF.out
  have hsl := so_sl (l := [⟨⟨#[35]⟩, 0, false, false, 0⟩]) HRF.out
  obtain ⟨ad, hA, h0, h1, h2, h3, h4⟩ := hsl.at 0 (by decide)
  have hadd : ad.add (0 * 5) = ad := by
    obtain ⟨ab, ao, af⟩ := ad
    simp [Addr.add]
  rw [hadd] at h0 h1 h2 h3 h4
  subst hA
  exact bodyPost_ret (v := .tuple #[.agg #[.int .u32 1, .slice none 0 0, .slice (some ad) 1 c3], .int .i64 0]) (by simp [results, Tryz.results133, go_sem, o0, o1, o2]) rfl ⟨ad, c3, rfl, HBF.out, h0, h1, h2, h3, h4⟩
def SuPX (w : World) (e : Ending) (w' : World) : Prop := ∃ ad c, e = .returned (.tuple #[.iface 88 (.agg #[.int .u32 1, .slice none 0 0, .slice (some ad) 1 c]), .int .i64 0]) ∧ Below w.heap.size w w' ∧ SubC w' ad
theorem ask_x {w : World} (f : Nat) : Calls Tryz.prog 87 #[.agg #[.int .i64 8, .int .i64 (f : Nat), .string suB]] w (SuPX w) := by
  have HS := Lib.hid (fun W => subparse_x (w := W))
  unfold SuX at HS
  generalize suB = s at HS ⊢
  have HB0 := Lib.hid ((Below.refl w.heap.size w).alloc (Nat.le_refl _) (.cells #[.int .i64 8, .int .i64 (f : Nat), .string s] 128))
  go_enter Tryz.func87, Tryz.ntmps87
  go_wp2_with (first | (go_at_call 133; (with_reducible refine (HS.out _).mono ?_); rintro e w1 ⟨ad, c, rfl, hb, hs⟩; have HB1 := Lib.hid (HB0.out.trans (hb.mono HB0.out.size)); have HSC := Lib.hid hs; clear hb hs))
  go_ret2
  exact ⟨ad, c, rfl, HB1.out.alloc HB1.out.size _, HSC.out.below (bel1 _ _)⟩
theorem parse_su {w : World} : Calls Tryz.prog 50 #[fr 8 2 suB] w (SuPX w) := by
  have HCK := Lib.hid (fun W => chk_calls 8 2 (by decide) (by decide) W)
  rw [show chk 8 2 = 0 from rfl, show ((8 : Nat) : Int) = 8 from rfl, show ((2 : Nat) : Int) = 2 from rfl] at HCK
  unfold fr
  rw [show ((8 : Nat) : Int) = 8 from rfl, show ((2 : Nat) : Int) = 2 from rfl]
  have HPP := Lib.hid (fun W => ask_x (w := W) 2)
  rw [show ((2 : Nat) : Int) = 2 from rfl] at HPP
  unfold SuPX at HPP
  generalize suB = s at HPP ⊢
  have HX := Lib.hid (heap_alloc_new w (.cells #[.int .i64 8, .int .i64 2, .string s] 128))
  have HB := Lib.hid (show Below w.heap.size w (w.alloc (.cells #[.int .i64 8, .int .i64 2, .string s] 128)) from (Below.refl _ _).alloc (Nat.le_refl _) _)
  go_enter Tryz.func50, Tryz.ntmps50
  go_wp2_with (first
    | (go_at_call 62; refine (HCK.out _).mono ?_; rintro e w1 ⟨rfl, hb⟩; have HX1 := Lib.hid (hb.block _ (blk_lt HX.out) |>.trans HX.out); have HB1 := Lib.hid (HB.out.trans (hb.mono HB.out.size)); obtain ⟨x0, x1, x2⟩ := frcell HX1.out; clear hb)
    | (go_at_call 87; (with_reducible refine (HPP.out _).mono ?_); rintro e w2 ⟨ad, c, rfl, hb, hs⟩; have HB3 := Lib.hid (HB1.out.trans (hb.mono HB1.out.size)); have HSC := Lib.hid hs; clear hb hs))
  go_ret2
  exact ⟨ad, c, rfl, HB3.out, HSC.out⟩
def hsB : SB := ⟨⟨#[35]⟩, 0, false, false, 0⟩
theorem hs_ok : ∀ x ∈ [hsB], x.Ok := fun x hx => by
  obtain rfl := List.mem_singleton.1 hx
  exact ⟨by decide, by decide, by decide⟩
theorem su_body : toB ((([] ++ be2 (1 % 65536)) ++ putB []) ++ subsB [hsB]) = suB := by
  unfold suB subsB subB
  rw [putB_nil]
  rfl
theorem suB_size : suB.size = 7 := rfl
theorem su_sl {w : World} {B : Nat} (h : Row1 w B 83 #[.string ⟨#[35]⟩, .int .u8 0, .bool false, .bool false, .int .u8 0]) : SL w (some ⟨B, 0, none⟩) [hsB] := by
  refine ⟨rfl, by decide, fun _ => ⟨⟨B, 0, none⟩, rfl, fun j p hp => ?_⟩⟩
  have hcell : ∀ i u, (#[Value.string ⟨#[35]⟩, .int .u8 0, .bool false, .bool false, .int .u8 0] : Array Value)[i]? = some u → w.cell? ⟨B, i, none⟩ = some u := fun i u hu => h.cell i u hu
  have hj : j = 0 := by
    have := (List.getElem?_eq_some_iff.1 hp).1
    have h3 : [hsB].length = 1 := rfl
    omega
  subst hj
  obtain rfl : hsB = p := Option.some.inj hp
  exact ⟨_, rfl, k155_mk w _, fun i u hu => by
      have := (List.getElem?_eq_some_iff.1 hu).1
      have h4 : i < 5 := this
      rcases (show i = 0 ∨ i = 1 ∨ i = 2 ∨ i = 3 ∨ i = 4 by omega) with rfl | rfl | rfl | rfl | rfl <;> exact hcell _ _ hu⟩
theorem su_text {w : World} {B c : Nat} (h : SL w (some ⟨B, 0, none⟩) [hsB]) : Calls Tryz.prog 22 #[.iface 88 (.agg #[.int .u32 1, .slice none 0 0, .slice (some ⟨B, 0, none⟩) 1 c])] w (RB (.string (toB (frB 8 2 suB))) w) := by
  refine text_128 _ 8 2 _ (by decide) (by decide) (by rw [suB_size]; decide) (fun W1 hb => suframe (Lib.hid (fun W2 hb2 => ?_)))
  have h := sutext_calls (w := W2) (id := 1) (c := 0) (c2 := c) (A := none) (A2 := some ⟨B, 0, none⟩) (L := []) (fs := [hsB]) (by decide) lok_nil (Nat.le_refl _) (pl_nil W2) ((h.to hb).to hb2) hs_ok (by decide) (by decide)
  rw [su_body] at h
  exact h
def bB (hb : Nat) (lo : Nat → Nat) (mN mL mS mO mT : Obj) (n : Int) (X : List (Nat × Obj)) : List (Nat × Obj) :=
  (hb, brO lo) :: (lo 1, mN) :: (lo 1 + 1, netO (lo 1)) :: (lo 2, mL) :: (lo 3, mS) :: (lo 4, mO) :: (lo 5, mT) :: (lo 5 + 1, mp0) :: (lo 5 + 2, nodeO (lo 5) (lo 5 + 1)) :: (lo 5 + 3, trieO (lo 5 + 2) n) :: (lo 5 + 4, mp0) :: (lo 5 + 5, mp0) :: (lo 5 + 6, nodeO (lo 5 + 4) (lo 5 + 5)) :: (lo 5 + 7, trieO (lo 5 + 6) 0) :: (lo 5 + 10, tblO (lo 5 + 3) (lo 5 + 7) (lo 5 + 9)) :: (lo 8, mp0) :: (lo 8 + 1, stO (lo 8)) :: (lo 9, mp0) :: (lo 9 + 1, mp0) :: (lo 9 + 2, tmO (lo 9 + 1)) :: (lo 9 + 3, wlO (lo 9) (lo 9 + 2)) :: (lo 10, mp0) :: (lo 10 + 1, tmO (lo 10)) :: X
def lnB (c : Int) (ci rd am tb l came : Nat) (wait said client : ByteArray) (AL : List (Nat × ByteArray)) (on : Bool) (X : List (Nat × Obj)) : List (Nat × Obj) := (ci, connO wait came said) :: (rd, rdO ⟨#[]⟩) :: (am, amO AL) :: (tb, tabO am) :: (l, linO c rd tb client on) :: X
def seB (id : ByteArray) (inn win pool que s : Nat) (Q : Value) (X : List (Nat × Obj)) : List (Nat × Obj) := (win, winO pool) :: (que, queO Q) :: (s, sesO id inn win que) :: X
def houO (hb rm : Nat) : Obj := .cells #[.pointer (some ⟨hb, 0, none⟩), .map (some rm)] 27
def houV (hb rm : Nat) : Value := .agg #[.pointer (some ⟨hb, 0, none⟩), .map (some rm)]
theorem app_mid {A X N : List (Nat × Obj)} {w : World} (h : Held w ((A ++ X) ++ N)) : Held w (A ++ (N ++ X)) := h.perm (by
  rw [List.append_assoc]
  exact List.Perm.append_left A List.perm_append_comm)
structure SH (w : World) (lo : Nat → Nat) (T : List (Nat × Obj)) (J : List Nat) : Prop where
  held : Held w T
  rg : ∀ p ∈ T, ∃ j, j ∈ J ∧ lo j ≤ p.1 ∧ p.1 < lo j + (bL j (lo j)).length
theorem SH.add {w : World} {lo : Nat → Nat} {T : List (Nat × Obj)} {J : List Nat} (hS : ∀ i, i < 11 → Seg w (lo i) (bL i (lo i))) (ha : ∀ i j, i < 11 → j < 11 → i ≠ j → lo i + (bL i (lo i)).length ≤ lo j ∨ lo j + (bL j (lo j)).length ≤ lo i) (h : SH w lo T J) (i : Nat) (ks : List Nat) (hJ : ∀ j ∈ J, j < 11 ∧ i ≠ j) (hi : i < 11) (hks : ks.Nodup) (hk : ∀ k ∈ ks, k < (bL i (lo i)).length) : SH w lo (ks.map (fun k => (lo i + k, ((bL i (lo i))[k]?).getD mp0)) ++ T) (i :: J) := by
  refine ⟨⟨fun p hp => ?_, ?_, h.held.fr⟩, fun p hp => ?_⟩
  · rcases List.mem_append.1 hp with hp | hp
    · obtain ⟨k, hkk, rfl⟩ := List.mem_map.1 hp
      refine hS i hi k _ ?_
      rw [List.getElem?_eq_getElem (hk k hkk)]
      rfl
    · exact h.held.at_ p hp
  · rw [List.map_append, List.nodup_append]
    refine ⟨?_, h.held.nd, fun x hx y hy e => ?_⟩
    · rw [List.map_map]
      refine List.Pairwise.map _ (fun a b (hab : a ≠ b) => ?_) hks
      show lo i + a ≠ lo i + b
      omega
    · obtain ⟨p, hp, rfl⟩ := List.mem_map.1 hx
      obtain ⟨k, hkk, rfl⟩ := List.mem_map.1 hp
      obtain ⟨q, hq, rfl⟩ := List.mem_map.1 hy
      obtain ⟨j, hj, h1, h2⟩ := h.rg q hq
      have h3 := hk k hkk
      have h4 := ha i j hi (hJ j hj).1 (hJ j hj).2
      have e : lo i + k = q.1 := e
      omega
  · rcases List.mem_append.1 hp with hp | hp
    · obtain ⟨k, hkk, rfl⟩ := List.mem_map.1 hp
      exact ⟨i, List.mem_cons_self, Nat.le_add_right _ _, Nat.add_lt_add_left (hk k hkk) _⟩
    · obtain ⟨j, hj, hr⟩ := h.rg p hp
      exact ⟨j, List.mem_cons_of_mem _ hj, hr⟩
theorem new_held {w w' : World} {lo : Nat → Nat} {hb : Nat} (hfr : Fr w') (hX : w'.heap[hb]? = some (cl (bC lo) 111)) (hs : ∀ i, i < 11 → w.heap.size ≤ lo i ∧ lo i + (bL i (lo i)).length ≤ hb ∧ Seg w' (lo i) (bL i (lo i))) (ha : ∀ i j, i < 11 → j < 11 → i ≠ j → lo i + (bL i (lo i)).length ≤ lo j ∨ lo j + (bL j (lo j)).length ≤ lo i) : Held w' (bB hb lo mp0 mp0 mp0 mp0 mp0 0 []) := by
  have hS : ∀ i, i < 11 → Seg w' (lo i) (bL i (lo i)) := fun i hi => (hs i hi).2.2
  have h0 : SH w' lo [] [] := ⟨Held.nil hfr, fun p hp => by cases hp⟩
  have h1 := h0.add hS ha 10 [0, 1] (fun j hj => by cases hj) (by decide) (by decide) ((by decide : ∀ k ∈ ([0, 1] : List Nat), k < 2))
  have h2 := h1.add hS ha 9 [0, 1, 2, 3] (by decide) (by decide) (by decide) ((by decide : ∀ k ∈ ([0, 1, 2, 3] : List Nat), k < 4))
  have h3 := h2.add hS ha 8 [0, 1] (by decide) (by decide) (by decide) ((by decide : ∀ k ∈ ([0, 1] : List Nat), k < 2))
  have h4 := h3.add hS ha 5 [0, 1, 2, 3, 4, 5, 6, 7, 10] (by decide) (by decide) (by decide) ((by decide : ∀ k ∈ ([0, 1, 2, 3, 4, 5, 6, 7, 10] : List Nat), k < 11))
  have h5 := h4.add hS ha 4 [0] (by decide) (by decide) (by decide) ((by decide : ∀ k ∈ ([0] : List Nat), k < 1))
  have h6 := h5.add hS ha 3 [0] (by decide) (by decide) (by decide) ((by decide : ∀ k ∈ ([0] : List Nat), k < 1))
  have h7 := h6.add hS ha 2 [0] (by decide) (by decide) (by decide) ((by decide : ∀ k ∈ ([0] : List Nat), k < 1))
  have h8 := h7.add hS ha 1 [0, 1] (by decide) (by decide) (by decide) ((by decide : ∀ k ∈ ([0, 1] : List Nat), k < 2))
  refine ⟨fun p hp => ?_, ?_, hfr⟩
  · rcases List.mem_cons.1 hp with rfl | hp
    · exact hX
    · exact h8.held.at_ p hp
  · refine List.nodup_cons.2 ⟨fun hm => ?_, h8.held.nd⟩
    obtain ⟨p, hp, e⟩ := List.mem_map.1 hm
    obtain ⟨j, hj, h1, h2⟩ := h8.rg p hp
    have hj11 : j < 11 := (by decide : ∀ j ∈ ([1, 2, 3, 4, 5, 8, 9, 10] : List Nat), j < 11) j hj
    have h3 := (hs j hj11).2.1
    have e : p.1 = hb := e
    omega
theorem new_ge {w : World} {lo : Nat → Nat} {hb : Nat} (hs : ∀ i, i < 11 → w.heap.size ≤ lo i ∧ lo i + (bL i (lo i)).length ≤ hb) : ∀ p ∈ bB hb lo mp0 mp0 mp0 mp0 mp0 0 [], w.heap.size ≤ p.1 := by
  have s1 := (hs 1 (by decide)).1
  have s2 := (hs 2 (by decide)).1
  have s3 := (hs 3 (by decide)).1
  have s4 := (hs 4 (by decide)).1
  have s5 := (hs 5 (by decide)).1
  have s8 := (hs 8 (by decide)).1
  have s9 := (hs 9 (by decide)).1
  have s10 := (hs 10 (by decide)).1
  have s0 : w.heap.size ≤ hb := by have := (hs 1 (by decide)).2; omega
  intro p hp
  unfold bB at hp
  simp only [List.mem_cons, List.not_mem_nil, or_false] at hp
  rcases hp with rfl | rfl | rfl | rfl | rfl | rfl | rfl | rfl | rfl | rfl | rfl | rfl | rfl | rfl | rfl | rfl | rfl | rfl | rfl | rfl | rfl | rfl | rfl <;> (show w.heap.size ≤ _; omega)
theorem Held.join {w w' : World} {A X : List (Nat × Obj)} (hA : Held w' A) (hX : Held w X) (hb : Below w.heap.size w w') (hg : ∀ p ∈ A, w.heap.size ≤ p.1) : Held w' (A ++ X) := by
  refine ⟨fun p hp => ?_, ?_, hA.fr⟩
  · rcases List.mem_append.1 hp with hp | hp
    · exact hA.at_ p hp
    · exact (hX.below hb).at_ p hp
  · rw [List.map_append, List.nodup_append]
    refine ⟨hA.nd, hX.nd, fun x hx y hy e => ?_⟩
    obtain ⟨p, hp, rfl⟩ := List.mem_map.1 hx
    obtain ⟨q, hq, rfl⟩ := List.mem_map.1 hy
    have h1 := hg p hp
    have h2 := hX.lt q hq
    omega
def OpnP (X : List (Nat × Obj)) (e : Ending) (w' : World) : Prop := ∃ hb lo rm, e = .returned (.tuple #[houV hb rm, .bool true]) ∧ Held w' (bB hb lo mp0 mp0 mp0 mp0 mp0 0 ((rm, .map #[] 0) :: X))
theorem opn_calls {w : World} {X : List (Nat × Obj)} (H : Held w X) : Calls Tryz.prog 4 #[.int .i64 40] w (OpnP X) := by
  have hmm := @run_makeMap Tryz.prog
  have HX := Lib.hid (heap_alloc_new w (Obj.cells #[.pointer none, .map none] 27))
  have HB0 := Lib.hid (bel1 w (Obj.cells #[.pointer none, .map none] 27))
  have HH := Lib.hid (show Held (w.alloc (Obj.cells #[.pointer none, .map none] 27)) ((w.heap.size, (Obj.cells #[.pointer none, .map none] 27)) :: X) from (H.alloc (Obj.cells #[.pointer none, .map none] 27) rfl).perm (List.perm_append_comm (l₁ := X) (l₂ := [(w.heap.size, (Obj.cells #[.pointer none, .map none] 27))])))
  unfold OpnP houV
  clear H
  go_enter Tryz.func4, Tryz.ntmps4
  go_upto_region 1 with (fail)
  generalize w.alloc (Obj.cells #[.pointer none, .map none] 27) = W0 at HX HB0 HH ⊢
  have HN := Lib.hid (bnew_calls (w := W0))
  unfold BNewP at HN
  go_upto_region 2 with (first
    | (go_at_call 13; (with_reducible refine (HN.out).mono ?_); rintro e w1 ⟨lo, hb, rfl, hbel, hX, hs, ha⟩; have HNW := Lib.hid (new_held (HH.out.fr.below hbel) hX hs ha); have HGE := Lib.hid (new_ge (w := W0) (fun i hi => ⟨(hs i hi).1, (hs i hi).2.1⟩)); have HB1 := Lib.hid hbel; clear hX hs ha hbel))
  have HX1 := Lib.hid (blk_below HX.out HB1.out)
  have HW1 := Lib.hid (HB0.out.trans (HB1.out.mono HB0.out.size))
  have HJ := Lib.hid (HNW.out.join HH.out HB1.out HGE.out)
  have HJ2 := Lib.hid (HJ.out.alloc (Obj.map #[] 0) rfl)
  have HX2 := Lib.hid (blk_alloc HX1.out (Obj.map #[] 0))
  obtain ⟨x0, x1⟩ := twocell HX2.out
  have f0 := blk_frozen HX2.out 0
  have f1 := blk_frozen HX2.out 1
  go_wp2
  have HF := Lib.hid (blk_put (blk_put HX2.out 0 (.pointer (some ⟨hb, 0, none⟩)) rfl) 1 (.map (some w1.heap.size)) rfl)
  have HHF := Lib.hid (HJ2.out.set (o' := houO hb w1.heap.size) 23 rfl ((chg_setc' w.heap.size 0 _).trans (chg_setc' w.heap.size 1 _)) HF.out)
  generalize (((w1.alloc (Obj.map #[] 0)).setCell ⟨w.heap.size, 0, none⟩ (.pointer (some ⟨hb, 0, none⟩))).setCell ⟨w.heap.size, 1, none⟩ (.map (some w1.heap.size))) = WZ at HF HHF ⊢
  obtain ⟨o0, o1⟩ := twocell HF.out
  refine bodyPost_ret (v := .tuple #[.agg #[.pointer (some ⟨hb, 0, none⟩), .map (some w1.heap.size)], .bool true]) (by simp [results, Tryz.results4, go_sem, o0, o1]) rfl ⟨hb, lo, w1.heap.size, rfl, ?_⟩
  have h : Held WZ ((bB hb lo mp0 mp0 mp0 mp0 mp0 0 [] ++ ((w.heap.size, houO hb w1.heap.size) :: X)) ++ [(w1.heap.size, (Obj.map #[] 0))]) := HHF.out
  have h2 := app_mid h
  exact h2.sub (show (bB hb lo mp0 mp0 mp0 mp0 mp0 0 [] ++ ((w1.heap.size, (Obj.map #[] 0)) :: X)).Sublist (bB hb lo mp0 mp0 mp0 mp0 mp0 0 [] ++ ((w1.heap.size, (Obj.map #[] 0)) :: (w.heap.size, houO hb w1.heap.size) :: X)) from List.Sublist.append_left (List.Sublist.cons_cons _ (List.sublist_cons_self _ _)) _)
theorem say1_calls {w : World} {L L1 : List (Nat × Obj)} {hb rm pb cc ip : Nat} {c : Int} {V : Value} {txt : ByteArray} (H : Held w L) (hp : L[ip]? = some (pb, .cells #[V] 81)) (hT : ∀ W, Below w.heap.size w W → Calls Tryz.prog 22 #[V] W (RB (.string txt) W)) (hW : ∀ W x, Held W (L ++ [x]) → Calls Tryz.prog 21 #[.pointer (some ⟨hb, 0, none⟩), .int .i64 c, .string txt] W (HeldP (.int .i64 0) (L1 ++ [x]))) (P3 : World → Prop) (hC : ∀ W, Held W L1 → Calls Tryz.prog 23 #[.pointer (some ⟨hb, 0, none⟩), .int .i64 c, .int .i64 1048576] W (RetP (.int .i64 0) P3)) :
    Calls Tryz.prog 9 #[houV hb rm, .int .i64 c, .slice (some ⟨pb, 0, none⟩) 1 cc] w (RetP (.tuple #[]) P3) := by
  unfold houV
  have HH := Lib.hid (show Held (w.alloc (Obj.cells #[.pointer (some ⟨hb, 0, none⟩), .map (some rm)] 27)) (L ++ [(w.heap.size, (Obj.cells #[.pointer (some ⟨hb, 0, none⟩), .map (some rm)] 27))]) from H.alloc (Obj.cells #[.pointer (some ⟨hb, 0, none⟩), .map (some rm)] 27) rfl)
  have HB0 := Lib.hid (bel1 w (Obj.cells #[.pointer (some ⟨hb, 0, none⟩), .map (some rm)] 27))
  have HT := Lib.hid hT
  have HW := Lib.hid hW
  have HC := Lib.hid hC
  have HP := Lib.hid hp
  unfold RB at HT
  unfold HeldP at HW
  unfold RetP at HC
  clear H hp hT hW hC
  go_enter Tryz.func9, Tryz.ntmps9
  go_upto_region 1 with (fail)
  generalize w.alloc (Obj.cells #[.pointer (some ⟨hb, 0, none⟩), .map (some rm)] 27) = X at HH HB0 ⊢
  generalize w.heap.size = b at HH ⊢
  obtain ⟨x0, x1⟩ := twocell (HH.out.get L.length (app_new 0 rfl rfl))
  have p0 : X.cell? ⟨pb, 0, none⟩ = some V := cell1 (HH.out.get ip (app_get HP.out))
  go_upto_region 2 with (fail)
  refine wp_loop_rounds 2 ?_
  rw [rounds_succ]
  go_upto_region 4 with (fail)
  have HD := Lib.hid (HH.out.below (Below.refl X.heap.size X).drew)
  have HBD := Lib.hid (Below.into HB0.out (Below.refl X.heap.size X).drew)
  clear p0 x1
  go_region_held3 (fun w' => w'.cell? ⟨b, 0, none⟩ = some (.pointer (some ⟨hb, 0, none⟩))) (first | exact x0 | exact y0 | exact z0 | go_keep) (first
    | (go_at_call 22; (with_reducible refine (HT.out _ HBD.out).mono ?_); rintro e w2 ⟨rfl, hq⟩; have HH2 := Lib.hid (HD.out.below hq); have y0 := (twocell (HH2.out.get L.length (app_new 0 rfl rfl))).1; clear hq)
    | (go_at_call 21; (with_reducible refine (HW.out _ _ HH2.out).mono ?_); rintro e w3 ⟨rfl, hq⟩; have HH3 := Lib.hid hq; have z0 := (twocell (HH3.out.get L1.length (app_new 0 rfl rfl))).1; clear hq))
  clear x0 y0 HH HD HH2 HT HW
  go_wp2
  rw [rounds_succ]
  obtain ⟨x0, x1⟩ := twocell (HH3.out.get L1.length (app_new 0 rfl rfl))
  go_wp2_with (first
    | (go_at_call 23; (with_reducible refine (HC.out _ HH3.out.init).mono ?_); rintro e w4 ⟨rfl, hq⟩; have HP3 := Lib.hid hq; clear hq))
  go_end0
  exact ⟨rfl, HP3.out⟩
def HearP (L : List (Nat × Obj)) (R : World → Value → Prop) (e : Ending) (w' : World) : Prop := ∃ v, e = .returned v ∧ R w' v ∧ Held w' L
theorem hear_calls {w : World} {L : List (Nat × Obj)} {hb rm k k2 m ir : Nat} {c : Int} {said : ByteArray} {es es2 : Array MapEntry} (R : World → Value → Prop) (H : Held w L) (hr : L[ir]? = some (rm, .map es k)) (hS : ∀ W x, Held W (L ++ [x]) → Calls Tryz.prog 24 #[.pointer (some ⟨hb, 0, none⟩), .int .i64 c] W (Is (.string said) W))
    (hlk : ∀ W, W.heap[rm]? = some (.map es k) → (Instr.lookup 25 (.map (some rm)) (.int .i64 c) false).run Tryz.prog W = .ok (.int .i64 (m : Nat)) W)
    (hput : ∀ W, W.heap[rm]? = some (.map es k) → (Instr.mapUpdate 25 (.map (some rm)) (.int .i64 c) (.int .i64 (said.size : Nat))).run Tryz.prog W = .ok () (ChangeMaps.setBlock W rm (.map es2 k2)))
    (hA : ∀ W, Calls Tryz.prog 25 #[.string (said.extract m said.size), .int .i64 1048576] W (fun e w' => ∃ v er, e = .returned (.tuple #[v, .int .i64 er]) ∧ Below W.heap.size W w' ∧ R w' v))
    (aR : ∀ W W' v, R W v → W.heap[rm]? = some (.map es k) → Chg (fun k => k = rm) W W' → R W' v) (hm : m ≤ said.size) (hz : said.size ≤ 1000000000) :
    Calls Tryz.prog 11 #[houV hb rm, .int .i64 c] w (HearP (L.set ir (rm, .map es2 k2)) R) := by
  unfold houV HearP
  have HH := Lib.hid (show Held (w.alloc (Obj.cells #[.pointer (some ⟨hb, 0, none⟩), .map (some rm)] 27)) (L ++ [(w.heap.size, (Obj.cells #[.pointer (some ⟨hb, 0, none⟩), .map (some rm)] 27))]) from H.alloc (Obj.cells #[.pointer (some ⟨hb, 0, none⟩), .map (some rm)] 27) rfl)
  have HR := Lib.hid hr
  have HS := Lib.hid hS
  have HA := Lib.hid hA
  have HAR := Lib.hid aR
  have HLK := Lib.hid hlk
  have HPT := Lib.hid hput
  have m1 : (0 : Int) ≤ (m : Int) := by omega
  have m2 : (m : Int) ≤ (said.size : Int) := by omega
  clear H hr hS hA aR hlk hput
  go_enter Tryz.func11, Tryz.ntmps11
  go_upto_region 1 with (fail)
  generalize w.alloc (Obj.cells #[.pointer (some ⟨hb, 0, none⟩), .map (some rm)] 27) = X at HH ⊢
  generalize w.heap.size = b at HH ⊢
  obtain ⟨x0, x1⟩ := twocell (HH.out.get L.length (app_new 0 rfl rfl))
  have HS1 := Lib.hid (HS.out _ _ HH.out)
  have hl1 := HLK.out X (HH.out.get ir (app_get HR.out))
  go_upto_region 3 with (first
    | (go_at_call 24; (with_reducible refine (HS1.out).mono ?_); rintro e w2 ⟨rfl, hq⟩; have hq := hq.symm; subst hq)
    | (go_at_call 25; (with_reducible refine (HA.out _).mono ?_); rintro e w3 ⟨v, er, rfl, hq, hrv⟩; have HH3 := Lib.hid (HH.out.below hq); have HV := Lib.hid hrv; clear hq hrv))
  clear x0 x1 hl1 HS1
  obtain ⟨x0, x1⟩ := twocell (HH3.out.get L.length (app_new 0 rfl rfl))
  have hp1 := HPT.out w3 (HH3.out.get ir (app_get HR.out))
  have HLI := Lib.hid (List.getElem?_eq_some_iff.1 HR.out).1
  have HF := Lib.hid (show Held (ChangeMaps.setBlock w3 rm (.map es2 k2)) (L.set ir (rm, .map es2 k2) ++ [(b, (Obj.cells #[.pointer (some ⟨hb, 0, none⟩), .map (some rm)] 27))]) from by have h := HH3.out.set ir (app_get HR.out) (setB_chg w3 rm (.map es2 k2)) (setB_at _ (HH3.out.get ir (app_get HR.out))); rw [set_app HLI.out] at h; exact h)
  have HRF := Lib.hid (HAR.out _ _ _ HV.out (HH3.out.get ir (app_get HR.out)) (setB_chg w3 rm (.map es2 k2)))
  go_wp2
  go_ret
  exact ⟨v, rfl, HRF.out, HF.out.init⟩
def hB (hb : Nat) (lo : Nat → Nat) (mN mL mS mO mT : Obj) (n : Int) (rm : Nat) (mR : Obj) (mv : MO) (tM : TypeId) (Z : List (Nat × Obj)) : List (Nat × Obj) := bB hb lo mN mL mS mO mT n ((rm, mR) :: (0, mv.1) :: Z)
theorem held_M {w : World} {L : List (Nat × Obj)} {i : Nat} {mv : MO} (H : Held w L) (h : L[i]? = some (0, mv.1)) : HasM w := mv.2 w (H.get i h)
theorem held_rd {w w' : World} {L : List (Nat × Obj)} {i rd : Nat} (H : Held w L) (h : L[i]? = some (rd, rdO ⟨#[]⟩)) (hc : Chg (fun k => k = rd) w w') (hr : RD w' rd 2000 ⟨#[]⟩ 0) : Held w' L := by
  have h2 := H.set i h hc (show w'.heap[rd]? = some (rdO ⟨#[]⟩) from hr)
  rw [set_same h] at h2
  exact h2
def ConS (hb : Nat) (lo : Nat → Nat) (esN esL es2 es3 : Array MapEntry) (kN kL k2 k3 : Nat) (mT : Obj) (n : Int) (rm : Nat) (mR : Obj) (mv : MO) (tM : TypeId) (c : Int) (ci rd am tb l came : Nat) (id : ByteArray) (AL : List (Nat × ByteArray)) (Z : List (Nat × Obj)) (inn win pool que s : Nat) : List (Nat × Obj) := (hB hb lo (.map esN kN) (.map esL kL) (.map (es2.push ⟨.string id, .pointer (some ⟨s, 0, none⟩), k2⟩) (k2 + 1)) (.map (es3.push ⟨.string id, .pointer (some ⟨l, 0, none⟩), k3⟩) (k3 + 1)) mT n rm mR mv tM (lnB c ci rd am tb l came ⟨#[]⟩ (toB (frB 2 0 ckB)) id AL true (seB id inn win pool que s (.slice none 0 0) Z)))
theorem chunk_con {w : World} {hb rm kN kL k2 k3 ci rd am tb l : Nat} {lo : Nat → Nat} {esN esL es2 es3 : Array MapEntry} {mT mR : Obj} {n c : Int} {mv : MO} {tM : TypeId} {id : ByteArray} {Z : List (Nat × Obj)}
    (H : Held w (hB hb lo (.map esN kN) (.map esL kL) (.map es2 k2) (.map es3 k3) mT n rm mR mv tM (lnB c ci rd am tb l 0 (toB (frB 1 0 (conB id))) ⟨#[]⟩ ⟨#[]⟩ [] false Z)))
    (hL : FInt esL c (.pointer (some ⟨l, 0, none⟩))) (hN : FInt esN c (.pointer (some ⟨ci, 0, none⟩))) (hf2 : Instr.findNow .string (.string id) es2.toList 0 = some none) (hp2 : ∀ v, FStr (es2.push ⟨.string id, v, k2⟩) id v) (hf3 : Instr.findNow .string (.string id) es3.toList 0 = some none) (hid : Asc id) (h0 : 0 < id.size) (hsz : id.size ≤ 100)
    (hPump : ∀ W inn win pool que s, Held W (ConS hb lo esN esL es2 es3 kN kL k2 k3 mT n rm mR mv tM c ci rd am tb l (0 + (frB 1 0 (conB id)).length) id [] Z inn win pool que s) → Calls Tryz.prog 46 #[.pointer (some ⟨hb, 0, none⟩)] W (HeldP (.tuple #[]) (ConS hb lo esN esL es2 es3 kN kL k2 k3 mT n rm mR mv tM c ci rd am tb l (0 + (frB 1 0 (conB id)).length) id [] Z inn win pool que s))) :
    Calls Tryz.prog 23 #[.pointer (some ⟨hb, 0, none⟩), .int .i64 c, .int .i64 1048576] w (RetP (.int .i64 0) (fun W => ∃ inn win pool que s, Held W (ConS hb lo esN esL es2 es3 kN kL k2 k3 mT n rm mR mv tM c ci rd am tb l (0 + (frB 1 0 (conB id)).length) id [] Z inn win pool que s))) := by
  refine chunk_ex H (i0 := 0) (i2 := 3) (il := 29) (ir := 26) (i4 := 2) (i5 := 1) (i6 := 25) (k := 1) (f := 0) (B := conB id) rfl rfl hL rfl rfl rfl rfl hN rfl (by decide) (by decide) rfl (by rw [conB_size]; omega) (by decide) (fun W => ∃ inn win pool que s, Held W (ConS hb lo esN esL es2 es3 kN kL k2 k3 mT n rm mR mv tM c ci rd am tb l (0 + (frB 1 0 (conB id)).length) id [] Z inn win pool que s)) (fun W => ∃ inn win pool que s, Held W (ConS hb lo esN esL es2 es3 kN kL k2 k3 mT n rm mR mv tM c ci rd am tb l (0 + (frB 1 0 (conB id)).length) id [] Z inn win pool que s)) _ ?_ ?_ ?_ ?_ ?_
  · intro W HW
    refine frame_74 HW (held_M HW (i := 24) rfl) (il := 29) rfl _ (fun W2 _ => parse_con hid hsz) (fun W2 HW2 _ => ?_) (fun W2 h2 => ?_)
    · refine (connect_calls HW2 (i0 := 0) (il := 29) (i2 := 4) (i3 := 5) (it := 22) (jt := 21) (iw := 20) (jw := 17) (iu := 19) (ju := 18) (i4 := 2) (i5 := 1) (i6 := 25) rfl rfl rfl hf2 hp2 rfl hf3 rfl rfl rfl rfl rfl rfl rfl rfl hN rfl (isE id h0) hsz (by decide) (by decide) (by decide) (by decide) (by decide) (by decide) (by decide) (by decide) (by decide) (by decide)).mono ?_
      rintro e w' ⟨inn, win, pool, que, s, rfl, hh⟩
      refine ⟨rfl, inn, win, pool, que, s, ?_⟩
      rw [empty_app] at hh
      exact app_mid (A := hB hb lo (.map esN kN) (.map esL kL) (.map (es2.push ⟨.string id, .pointer (some ⟨s, 0, none⟩), k2⟩) (k2 + 1)) (.map (es3.push ⟨.string id, .pointer (some ⟨l, 0, none⟩), k3⟩) (k3 + 1)) mT n rm mR mv tM (lnB c ci rd am tb l (0 + (frB 1 0 (conB id)).length) ⟨#[]⟩ (toB (frB 2 0 ckB)) id [] true [])) (X := Z) (N := [(win, winO pool), (que, queO (.slice none 0 0)), (s, sesO id inn win que)]) hh
    · obtain ⟨inn, win, pool, que, s, HX⟩ := h2
      exact ⟨id, HX.get 29 rfl⟩
  · rintro W ⟨inn, win, pool, que, s, HW⟩
    refine (hPump W inn win pool que s HW).mono ?_
    rintro e w' ⟨rfl, hh⟩
    exact ⟨rfl, inn, win, pool, que, s, hh⟩
  · rintro W ⟨inn, win, pool, que, s, HW⟩
    refine (hPump W inn win pool que s HW).mono ?_
    rintro e w' ⟨rfl, hh⟩
    exact ⟨rfl, inn, win, pool, que, s, hh⟩
  · rintro W ⟨inn, win, pool, que, s, HW⟩
    exact ⟨HW.get 0 rfl, HW.get 3 rfl, (sixcell (HW.get 29 rfl)).2.1, HW.get 26 rfl⟩
  · rintro W W' ⟨inn, win, pool, que, s, HW⟩ hc hr
    exact ⟨inn, win, pool, que, s, held_rd HW (i := 26) rfl hc hr⟩
theorem ta78_78 (u : Value) (w : World) : (Instr.typeAssert (.iface 78 u) 81 78 true).run Tryz.prog w = .ok (.tuple #[u, .bool true]) w := by kernel_rfl
def One (P : Value → Prop) (W : World) (v : Value) : Prop := ∃ B V A c, v = .slice A 1 c ∧ RV W B v [V] ∧ P V
theorem RV.map {w w1 : World} {B : Nat} {v : Value} {ps : List Value} {rm k : Nat} {es : Array MapEntry} (h : RV w B v ps) (hm : w.heap[rm]? = some (.map es k)) (hc : Chg (fun k => k = rm) w w1) : RV w1 B v ps := own_to h (fun k hk => hc.block k (own_lt h k hk) (fun e => by
  obtain ⟨cells, hcl⟩ := own_typed h k hk
  have e : k = rm := e
  subst e
  rw [hm] at hcl
  cases hcl))
theorem One.map {P : Value → Prop} {w w1 : World} {v : Value} {rm k : Nat} {es : Array MapEntry} (h : One P w v) (hm : w.heap[rm]? = some (.map es k)) (hc : Chg (fun k => k = rm) w w1) : One P w1 v := by
  obtain ⟨B, V, A, c, hv, hr, hp⟩ := h
  exact ⟨B, V, A, c, hv, hr.map hm hc, hp⟩
def ckIs (V : Value) : Prop := ∃ A n c, V = .iface 78 (.agg #[.bool false, .int .u8 0, .slice A n c])
def ckS : ByteArray := toB (frB 2 0 ckB)
theorem ckS_size : ckS.size = 16 := by
  unfold ckS
  rw [toB_size, ck_len]
theorem ext_all (s : ByteArray) : s.extract 0 s.size = s := by
  rw [Lib.extract_eq, Lib.size_eq, List.drop_zero, Nat.sub_zero, List.take_length]
theorem all_ck (W : World) : Calls Tryz.prog 25 #[.string (ckS.extract 0 ckS.size), .int .i64 1048576] W (fun e w' => ∃ v er, e = .returned (.tuple #[v, .int .i64 er]) ∧ Below W.heap.size W w' ∧ One ckIs w' v) := by
  rw [ext_all, show ckS = toB (frsB [(2, 0, ckB)]) from by unfold ckS frsB; show _ = toB (frB 2 0 ckB ++ []); rw [List.append_nil]]
  refine (all_ex (fun _ V => ckIs V) [(2, 0, ckB)] 1048576 (fun x hx => ?_) ?_).mono ?_
  · obtain rfl := List.mem_singleton.1 hx
    refine ⟨⟨by decide, by decide, by decide, by show ckB.size ≤ _; rw [ckB_size]; decide, ?_⟩, fun W2 => ?_⟩
    · show ¬ (1048576 : Int) < (((frB 2 0 ckB).length : Nat) : Int)
      rw [ck_len]; decide
    · refine (parse_ck (w := W2)).mono ?_
      rintro e w' ⟨u, rfl, ⟨A, n, c, rfl⟩, hb⟩
      exact ⟨78, _, ⟨A, n, c, rfl⟩, rfl, hb⟩
  · show (frB 2 0 ckB ++ []).length ≤ _
    rw [List.append_nil, ck_len]; decide
  · rintro e w' ⟨Vs, A, c, rfl, hb, hrv, h2⟩
    cases Vs with
    | nil => exact absurd h2.len (by intro h; cases h)
    | cons V Vs =>
      cases Vs with
      | nil => exact ⟨_, 0, rfl, hb, _, V, A, c, rfl, hrv, h2.1⟩
      | cons V2 Vs => exact absurd h2.len (by intro h; cases h)
def JoinP (hb : Nat) (lo : Nat → Nat) (esN esL es2 es3 esR : Array MapEntry) (kN kL k2 k3 kR : Nat) (mT : Obj) (n : Int) (rm : Nat) (mv : MO) (tM : TypeId) (c : Int) (id : ByteArray) (Z : List (Nat × Obj)) (e : Ending) (w' : World) : Prop := ∃ ci rd am tb l inn win pool que s, e = .returned (.bool true) ∧ Held w' (ConS hb lo (esN.push ⟨.int .i64 c, .pointer (some ⟨ci, 0, none⟩), kN⟩) (esL.push ⟨.int .i64 c, .pointer (some ⟨l, 0, none⟩), kL⟩) es2 es3 (kN + 1) (kL + 1) k2 k3 mT n rm (.map (esR.push ⟨.int .i64 c, .int .i64 (ckS.size : Nat), kR⟩) (kR + 1)) mv tM c ci rd am tb l (0 + (frB 1 0 (conB id)).length) id [] Z inn win pool que s)
theorem join_calls {w : World} {hb rm kN kL k2 k3 kR : Nat} {lo : Nat → Nat} {esN esL es2 es3 esR : Array MapEntry} {mT : Obj} {n c : Int} {mv : MO} {tM : TypeId} {id : ByteArray} {Z : List (Nat × Obj)}
    (H : Held w (hB hb lo (.map esN kN) (.map esL kL) (.map es2 k2) (.map es3 k3) mT n rm (.map esR kR) mv tM Z))
    (fN : Instr.findNow (.int .i64) (.int .i64 c) esN.toList 0 = some none) (pN : ∀ v, FInt (esN.push ⟨.int .i64 c, v, kN⟩) c v) (fL : Instr.findNow (.int .i64) (.int .i64 c) esL.toList 0 = some none) (pL : ∀ v, FInt (esL.push ⟨.int .i64 c, v, kL⟩) c v) (fR : Instr.findNow (.int .i64) (.int .i64 c) esR.toList 0 = some none)
    (hf2 : Instr.findNow .string (.string id) es2.toList 0 = some none) (hp2 : ∀ v, FStr (es2.push ⟨.string id, v, k2⟩) id v) (hf3 : Instr.findNow .string (.string id) es3.toList 0 = some none) (hid : Asc id) (h0 : 0 < id.size) (hsz : id.size ≤ 100)
    (hPump : ∀ W x y mR ci rd am tb l inn win pool que s, Held W (ConS hb lo (esN.push ⟨.int .i64 c, .pointer (some ⟨ci, 0, none⟩), kN⟩) (esL.push ⟨.int .i64 c, .pointer (some ⟨l, 0, none⟩), kL⟩) es2 es3 (kN + 1) (kL + 1) k2 k3 mT n rm mR mv tM c ci rd am tb l (0 + (frB 1 0 (conB id)).length) id [] (x :: y :: Z) inn win pool que s) → Calls Tryz.prog 46 #[.pointer (some ⟨hb, 0, none⟩)] W (HeldP (.tuple #[]) (ConS hb lo (esN.push ⟨.int .i64 c, .pointer (some ⟨ci, 0, none⟩), kN⟩) (esL.push ⟨.int .i64 c, .pointer (some ⟨l, 0, none⟩), kL⟩) es2 es3 (kN + 1) (kL + 1) k2 k3 mT n rm mR mv tM c ci rd am tb l (0 + (frB 1 0 (conB id)).length) id [] (x :: y :: Z) inn win pool que s))) :
    Calls Tryz.prog 6 #[houV hb rm, .int .i64 c, .string id, .slice none 0 0] w (JoinP hb lo esN esL es2 es3 esR kN kL k2 k3 kR mT n rm mv tM c id Z) := by
  unfold houV
  have HH := Lib.hid (show Held (w.alloc (Obj.cells #[.pointer (some ⟨hb, 0, none⟩), .map (some rm)] 27)) (hB hb lo (.map esN kN) (.map esL kL) (.map es2 k2) (.map es3 k3) mT n rm (.map esR kR) mv tM ((w.heap.size, houO hb rm) :: Z)) from app_mid (A := hB hb lo (.map esN kN) (.map esL kL) (.map es2 k2) (.map es3 k3) mT n rm (.map esR kR) mv tM []) (X := Z) (N := [(w.heap.size, houO hb rm)]) (H.alloc (Obj.cells #[.pointer (some ⟨hb, 0, none⟩), .map (some rm)] 27) rfl))
  have HFN := Lib.hid fN
  have HPN := Lib.hid pN
  have HFL := Lib.hid fL
  have HPL := Lib.hid pL
  have HFR := Lib.hid fR
  have HF2 := Lib.hid hf2
  have HP2 := Lib.hid hp2
  have HF3 := Lib.hid hf3
  have HPU := Lib.hid hPump
  clear H fN pN fL pL fR hf2 hp2 hf3 hPump
  go_enter Tryz.func6, Tryz.ntmps6
  go_upto_region 1 with (fail)
  generalize w.alloc (Obj.cells #[.pointer (some ⟨hb, 0, none⟩), .map (some rm)] 27) = X at HH ⊢
  generalize w.heap.size = b at HH ⊢
  obtain ⟨x0, x1⟩ := twocell (HH.out.get 25 rfl)
  have HOP := Lib.hid (open_calls HH.out (i0 := 0) (i2 := 3) (i4 := 2) (i5 := 1) rfl rfl HFL.out rfl rfl HFN.out (by decide))
  unfold OpenP at HOP
  go_upto_region 3 with (first
    | (go_at_call 20; (with_reducible refine (HOP.out).mono ?_); rintro e w1 ⟨ci, rd, am, tb, l, rfl, hq⟩; have HH1 := Lib.hid (show Held w1 (hB hb lo (.map (esN.push ⟨.int .i64 c, .pointer (some ⟨ci, 0, none⟩), kN⟩) (kN + 1)) (.map (esL.push ⟨.int .i64 c, .pointer (some ⟨l, 0, none⟩), kL⟩) (kL + 1)) (.map es2 k2) (.map es3 k3) mT n rm (.map esR kR) mv tM (lnB c ci rd am tb l 0 ⟨#[]⟩ ⟨#[]⟩ ⟨#[]⟩ [] false ((b, houO hb rm) :: Z))) from app_mid (A := hB hb lo (.map (esN.push ⟨.int .i64 c, .pointer (some ⟨ci, 0, none⟩), kN⟩) (kN + 1)) (.map (esL.push ⟨.int .i64 c, .pointer (some ⟨l, 0, none⟩), kL⟩) (kL + 1)) (.map es2 k2) (.map es3 k3) mT n rm (.map esR kR) mv tM []) (X := (b, houO hb rm) :: Z) (N := [(ci, connO ⟨#[]⟩ 0 ⟨#[]⟩), (rd, rdO ⟨#[]⟩), (am, amO []), (tb, tabO am), (l, linO c rd tb ⟨#[]⟩ false)]) hq); clear hq))
  clear x0 x1 HH HOP
  obtain ⟨x0, x1⟩ := twocell (HH1.out.get 30 rfl)
  obtain ⟨pb, HPB⟩ : ∃ pb, Hid (pb = w1.heap.size) := ⟨_, Lib.hid rfl⟩
  have HH2 := Lib.hid (show Held (w1.alloc (Obj.cells #[.iface 74 (conV id)] 81)) (hB hb lo (.map (esN.push ⟨.int .i64 c, .pointer (some ⟨ci, 0, none⟩), kN⟩) (kN + 1)) (.map (esL.push ⟨.int .i64 c, .pointer (some ⟨l, 0, none⟩), kL⟩) (kL + 1)) (.map es2 k2) (.map es3 k3) mT n rm (.map esR kR) mv tM (lnB c ci rd am tb l 0 ⟨#[]⟩ ⟨#[]⟩ ⟨#[]⟩ [] false ((pb, (Obj.cells #[.iface 74 (conV id)] 81)) :: (b, houO hb rm) :: Z))) from by have h := app_mid (A := hB hb lo (.map (esN.push ⟨.int .i64 c, .pointer (some ⟨ci, 0, none⟩), kN⟩) (kN + 1)) (.map (esL.push ⟨.int .i64 c, .pointer (some ⟨l, 0, none⟩), kL⟩) (kL + 1)) (.map es2 k2) (.map es3 k3) mT n rm (.map esR kR) mv tM (lnB c ci rd am tb l 0 ⟨#[]⟩ ⟨#[]⟩ ⟨#[]⟩ [] false [])) (X := (b, houO hb rm) :: Z) (N := [(w1.heap.size, (Obj.cells #[.iface 74 (conV id)] 81))]) (HH1.out.alloc (Obj.cells #[.iface 74 (conV id)] 81) rfl); rw [HPB.out]; exact h)
  have HBW := Lib.hid (fun W x (hW : Held W ((hB hb lo (.map (esN.push ⟨.int .i64 c, .pointer (some ⟨ci, 0, none⟩), kN⟩) (kN + 1)) (.map (esL.push ⟨.int .i64 c, .pointer (some ⟨l, 0, none⟩), kL⟩) (kL + 1)) (.map es2 k2) (.map es3 k3) mT n rm (.map esR kR) mv tM (lnB c ci rd am tb l 0 ⟨#[]⟩ ⟨#[]⟩ ⟨#[]⟩ [] false ((pb, (Obj.cells #[.iface 74 (conV id)] 81)) :: (b, houO hb rm) :: Z))) ++ [x])) => show Calls Tryz.prog 21 #[.pointer (some ⟨hb, 0, none⟩), .int .i64 c, .string (toB (frB 1 0 (conB id)))] W (HeldP (.int .i64 0) ((hB hb lo (.map (esN.push ⟨.int .i64 c, .pointer (some ⟨ci, 0, none⟩), kN⟩) (kN + 1)) (.map (esL.push ⟨.int .i64 c, .pointer (some ⟨l, 0, none⟩), kL⟩) (kL + 1)) (.map es2 k2) (.map es3 k3) mT n rm (.map esR kR) mv tM (lnB c ci rd am tb l 0 (toB (frB 1 0 (conB id))) ⟨#[]⟩ ⟨#[]⟩ [] false ((pb, (Obj.cells #[.iface 74 (conV id)] 81)) :: (b, houO hb rm) :: Z))) ++ [x])) from by
    have h := bwrite_calls (s := toB (frB 1 0 (conB id))) hW (i0 := 0) (i4 := 2) (i5 := 1) (i6 := 25) rfl rfl rfl (HPN.out _) rfl (by rw [toB_size, frB_size, conB_size]; have := varU_len5 (id.size + 13) (by omega); show 0 + _ ≤ _; omega)
    rw [empty_app] at h
    exact h)
  have HSY := Lib.hid (say1_calls (V := .iface 74 (conV id)) (c := c) (rm := rm) (cc := 1) HH2.out (ip := 30) rfl (fun W _ => con_text hsz) HBW.out (fun W => ∃ inn win pool que s, Held W (ConS hb lo (esN.push ⟨.int .i64 c, .pointer (some ⟨ci, 0, none⟩), kN⟩) (esL.push ⟨.int .i64 c, .pointer (some ⟨l, 0, none⟩), kL⟩) es2 es3 (kN + 1) (kL + 1) k2 k3 mT n rm (.map esR kR) mv tM c ci rd am tb l (0 + (frB 1 0 (conB id)).length) id [] ((pb, (Obj.cells #[.iface 74 (conV id)] 81)) :: (b, houO hb rm) :: Z) inn win pool que s)) (fun W hW => chunk_con hW (HPL.out _) (HPN.out _) HF2.out HP2.out HF3.out hid h0 hsz (fun W inn win pool que s hw => HPU.out W (pb, (Obj.cells #[.iface 74 (conV id)] 81)) (b, houO hb rm) (.map esR kR) ci rd am tb l inn win pool que s hw)))
  unfold RetP houV conV at HSY
  go_upto_region 4 with (first
    | (go_at_call 9; rw [← HPB.out]; (with_reducible refine (HSY.out).mono ?_); rintro e w2 ⟨rfl, inn, win, pool, que, s, hq⟩; have HH3 := Lib.hid hq; clear hq))
  clear x0 x1 HH1 HH2 HBW HSY
  have HHE := Lib.hid (hear_calls (One ckIs) HH3.out (hb := hb) (ir := 23) (c := c) (said := ckS) (m := 0) (k2 := kR + 1) (es2 := (esR.push ⟨.int .i64 c, .int .i64 (ckS.size : Nat), kR⟩)) rfl (fun W x hW => bsaid_calls hW (i0 := 0) (i4 := 2) (i5 := 1) (i6 := 25) rfl rfl rfl (HPN.out _) rfl) (fun W hm => look_m0 Tryz.underlying25 Tryz.underlying3 (by simp [MapKept.IsKey]) (Tryz.zeroValue3 W) hm HFR.out) (fun W hm => put_new Tryz.underlying25 Tryz.underlying3 (by simp [MapKept.IsKey]) hm HFR.out) all_ck (fun W W' v h hm hc => h.map hm hc) (Nat.zero_le _) (by rw [ckS_size]; decide))
  unfold HearP houV at HHE
  obtain ⟨x0, x1⟩ := twocell (HH3.out.get 34 rfl)
  go_upto_region 5 with (first
    | (go_at_call 11; (with_reducible refine (HHE.out).mono ?_); rintro e w3 ⟨v, rfl, hone, hq⟩; have HH4 := Lib.hid (show Held w3 (ConS hb lo (esN.push ⟨.int .i64 c, .pointer (some ⟨ci, 0, none⟩), kN⟩) (esL.push ⟨.int .i64 c, .pointer (some ⟨l, 0, none⟩), kL⟩) es2 es3 (kN + 1) (kL + 1) k2 k3 mT n rm (.map (esR.push ⟨.int .i64 c, .int .i64 (ckS.size : Nat), kR⟩) (kR + 1)) mv tM c ci rd am tb l (0 + (frB 1 0 (conB id)).length) id [] ((pb, (Obj.cells #[.iface 74 (conV id)] 81)) :: (b, houO hb rm) :: Z) inn win pool que s) from hq); have HON := Lib.hid hone; clear hq hone))
  obtain ⟨B, V, A, cc, rfl, hrv, A2, n2, c2, rfl⟩ := HON.out
  obtain ⟨g, rfl, hcell⟩ := own_cell0 (show w3.ownsRow B 81 1 (.slice A 1 cc) 1 [_] from hrv)
  clear x0 x1 HH3 HHE HON hrv
  have hta := ta78_78 (.agg #[.bool false, .int .u8 0, .slice A2 n2 c2]) w3
  obtain ⟨y0, y1, y2⟩ := frcell (heap_alloc_new w3 (Obj.cells #[.bool false, .int .u8 0, .slice A2 n2 c2] 78))
  have HFI := Lib.hid (show Held (w3.alloc (Obj.cells #[.bool false, .int .u8 0, .slice A2 n2 c2] 78)) (ConS hb lo (esN.push ⟨.int .i64 c, .pointer (some ⟨ci, 0, none⟩), kN⟩) (esL.push ⟨.int .i64 c, .pointer (some ⟨l, 0, none⟩), kL⟩) es2 es3 (kN + 1) (kL + 1) k2 k3 mT n rm (.map (esR.push ⟨.int .i64 c, .int .i64 (ckS.size : Nat), kR⟩) (kR + 1)) mv tM c ci rd am tb l (0 + (frB 1 0 (conB id)).length) id [] Z inn win pool que s) from (HH4.out.sub (show (ConS hb lo (esN.push ⟨.int .i64 c, .pointer (some ⟨ci, 0, none⟩), kN⟩) (esL.push ⟨.int .i64 c, .pointer (some ⟨l, 0, none⟩), kL⟩) es2 es3 (kN + 1) (kL + 1) k2 k3 mT n rm (.map (esR.push ⟨.int .i64 c, .int .i64 (ckS.size : Nat), kR⟩) (kR + 1)) mv tM c ci rd am tb l (0 + (frB 1 0 (conB id)).length) id [] [] inn win pool que s ++ Z).Sublist (ConS hb lo (esN.push ⟨.int .i64 c, .pointer (some ⟨ci, 0, none⟩), kN⟩) (esL.push ⟨.int .i64 c, .pointer (some ⟨l, 0, none⟩), kL⟩) es2 es3 (kN + 1) (kL + 1) k2 k3 mT n rm (.map (esR.push ⟨.int .i64 c, .int .i64 (ckS.size : Nat), kR⟩) (kR + 1)) mv tM c ci rd am tb l (0 + (frB 1 0 (conB id)).length) id [] [] inn win pool que s ++ ((pb, (Obj.cells #[.iface 74 (conV id)] 81)) :: (b, houO hb rm) :: Z)) from List.Sublist.append_left ((List.sublist_cons_self _ _).trans (List.sublist_cons_self _ _)) _)).below (bel1 w3 (Obj.cells #[.bool false, .int .u8 0, .slice A2 n2 c2] 78)))
  go_wp2
  go_ret
  exact ⟨ci, rd, am, tb, l, inn, win, pool, que, s, rfl, HFI.out⟩
theorem suakT_size : (toB (frB 9 0 suakB)).size = 6 := by
  rw [toB_size]
  unfold frB
  rw [suakB_size, varU_lt (by decide), List.length_cons, List.length_append, ← Lib.size_eq, suakB_size]
  rfl
theorem suF_len : (frB 8 2 suB).length = 9 := by
  unfold frB
  rw [suB_size, varU_lt (by decide), List.length_cons, List.length_append, ← Lib.size_eq, suB_size]
  rfl
def SubS (hb : Nat) (lo : Nat → Nat) (esN esL es : Array MapEntry) (kN kL k : Nat) (mO : Obj) (rm : Nat) (mR : Obj) (mv : MO) (tM : TypeId) (ci rd am tb l came : Nat) (said : ByteArray) (AL : List (Nat × ByteArray)) (inn win pool que s : Nat) (Q : Value) (Z : List (Nat × Obj)) (a : Nat) : List (Nat × Obj) := hB hb lo (.map esN kN) (.map esL kL) (.map es k) mO (hashO a) 1 rm mR mv tM (lnB 1 ci rd am tb l came ⟨#[]⟩ said subS AL true (seB subS inn win pool que s Q ((a, .map #[] 0) :: (a + 1, .map #[⟨.string subS, keptV, 0⟩] 1) :: (a + 2, nodeO a (a + 1)) :: Z)))
theorem chunk_su {w : World} {hb rm kN kL k ci rd am tb l inn win pool que s came : Nat} {lo : Nat → Nat} {esN esL es : Array MapEntry} {mO mR : Obj} {mv : MO} {tM : TypeId} {said : ByteArray} {AL : List (Nat × ByteArray)} {Q : Value} {Z : List (Nat × Obj)}
    (H : Held w (hB hb lo (.map esN kN) (.map esL kL) (.map es k) mO mp0 0 rm mR mv tM (lnB 1 ci rd am tb l came (toB (frB 8 2 suB)) said subS AL true (seB subS inn win pool que s Q Z))))
    (hL : FInt esL 1 (.pointer (some ⟨l, 0, none⟩))) (hN : FInt esN 1 (.pointer (some ⟨ci, 0, none⟩))) (hes : FStr es subS (.pointer (some ⟨s, 0, none⟩))) (hz : said.size ≤ 100000) (hcm : came ≤ 100000)
    (hPump : ∀ W a, Held W (SubS hb lo esN esL es kN kL k mO rm mR mv tM ci rd am tb l (came + (frB 8 2 suB).length) (said ++ toB (frB 9 0 suakB)) AL inn win pool que s Q Z a) → Calls Tryz.prog 46 #[.pointer (some ⟨hb, 0, none⟩)] W (HeldP (.tuple #[]) (SubS hb lo esN esL es kN kL k mO rm mR mv tM ci rd am tb l (came + (frB 8 2 suB).length) (said ++ toB (frB 9 0 suakB)) AL inn win pool que s Q Z a))) :
    Calls Tryz.prog 23 #[.pointer (some ⟨hb, 0, none⟩), .int .i64 1, .int .i64 1048576] w (RetP (.int .i64 0) (fun W => ∃ a, Held W (SubS hb lo esN esL es kN kL k mO rm mR mv tM ci rd am tb l (came + (frB 8 2 suB).length) (said ++ toB (frB 9 0 suakB)) AL inn win pool que s Q Z a))) := by
  refine chunk_ex H (i0 := 0) (i2 := 3) (il := 29) (ir := 26) (i4 := 2) (i5 := 1) (i6 := 25) (k := 8) (f := 2) (B := suB) rfl rfl hL rfl rfl rfl rfl hN rfl (by decide) (by decide) rfl (by rw [suB_size]; decide) (by omega) (fun W => ∃ a, Held W (SubS hb lo esN esL es kN kL k mO rm mR mv tM ci rd am tb l (came + (frB 8 2 suB).length) (said ++ toB (frB 9 0 suakB)) AL inn win pool que s Q Z a)) (fun W => ∃ a, Held W (SubS hb lo esN esL es kN kL k mO rm mR mv tM ci rd am tb l (came + (frB 8 2 suB).length) (said ++ toB (frB 9 0 suakB)) AL inn win pool que s Q Z a)) _ ?_ ?_ ?_ ?_ ?_
  · intro W HW
    refine frame_88 HW (held_M HW (i := 24) rfl) (il := 29) rfl (fun W u => ∃ ad c, u = suV ad c ∧ SubC W ad) _ (fun W2 _ => ?_) (fun W2 W3 u h hb2 => ?_) (fun W2 u HW2 hM2 hq => ?_) (fun W2 h2 => ?_) (fun W2 W3 h2 hb2 => ?_)
    · refine (parse_su (w := W2)).mono ?_
      rintro e w' ⟨ad, c, rfl, hbw, hs⟩
      exact ⟨_, rfl, ⟨ad, c, rfl, hs⟩, hbw⟩
    · obtain ⟨ad, c, rfl, hs⟩ := h
      exact ⟨ad, c, rfl, hs.below hb2⟩
    · obtain ⟨ad, c, rfl, hs⟩ := hq
      refine receive_sub HW2 _ (i0 := 0) (il := 29) (i2 := 4) rfl rfl rfl hes (fun W3 hb3 => ?_)
      refine (subscribe_calls (HW2.below hb3) (hM2.to hb3) (hs.below hb3) (i0 := 0) (il := 29) (i2 := 4) (is := 32) (i4 := 2) (i5 := 1) (i6 := 25) (it := 14) (j0 := 9) (j1 := 8) (j2 := 6) (j3 := 16) (j4 := 15) (iM := 24) rfl rfl rfl rfl rfl rfl (fun o => rfl) (fun o => rfl) (fun o => rfl) hes (fun o => rfl) (fun o => rfl) (fun o => rfl) hN (fun o => rfl) (by omega) (fun o => rfl) (fun o => rfl) (fun o => rfl)).mono ?_
      rintro e w' ⟨a, rfl, hh⟩
      exact ⟨rfl, a, app_mid (A := hB hb lo (.map esN kN) (.map esL kL) (.map es k) mO (hashO a) 1 rm mR mv tM (lnB 1 ci rd am tb l (came + (frB 8 2 suB).length) ⟨#[]⟩ (said ++ toB (frB 9 0 suakB)) subS AL true (seB subS inn win pool que s Q []))) (X := Z) (N := subNW a) hh⟩
    · obtain ⟨a, HX⟩ := h2
      exact HX.get 29 rfl
    · obtain ⟨a, HX⟩ := h2
      exact ⟨a, HX.below hb2⟩
  · rintro W ⟨a, HW⟩
    refine (hPump W a HW).mono ?_
    rintro e w' ⟨rfl, hh⟩
    exact ⟨rfl, a, hh⟩
  · rintro W ⟨a, HW⟩
    refine (hPump W a HW).mono ?_
    rintro e w' ⟨rfl, hh⟩
    exact ⟨rfl, a, hh⟩
  · rintro W ⟨a, HW⟩
    exact ⟨HW.get 0 rfl, HW.get 3 rfl, (sixcell (HW.get 29 rfl)).2.1, HW.get 26 rfl⟩
  · rintro W W' ⟨a, HW⟩ hc hr
    exact ⟨a, held_rd HW (i := 26) rfl hc hr⟩
end Go.Proofs.YtbfgpkogginmjaaGreatDoor
end
