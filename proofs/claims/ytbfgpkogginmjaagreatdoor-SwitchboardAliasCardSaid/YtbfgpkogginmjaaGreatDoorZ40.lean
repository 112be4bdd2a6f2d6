/- Parts of a proof about aliases: F9. -/
import Derived.Test.YtbfgpkogginmjaaGreatDoorZ25
import Derived.Test.YtbfgpkogginmjaaGreatDoorZ39
section
namespace Go.Proofs.YtbfgpkogginmjaaGreatDoor
open Go.RowKit Go.Lib Go.Proofs.YtbfgpkogginmjaaGreatDoorW.PrintWords Go.Proofs.YtbfgpkogginmjaaGreatDoor.PSwitchboardGreat
set_option linter.unusedSectionVars false
variable [LawBase]
set_option linter.unusedVariables false
set_option linter.unusedSimpArgs false
set_option maxRecDepth 1000000
set_option maxHeartbeats 1600000
def skS : ByteArray := ⟨#[0]⟩
theorem skS_b : toB [0] = skS := rfl
theorem sk_eq : suakB = toB (be2 (1 % 65536) ++ (0 :: [0])) := by
  unfold suakB
  rw [putB_nil]
  rfl
theorem rest_sk (W : World) (g : Nat) (hI : IN W g skS 0) : Calls Tryz.prog 70 #[.pointer (some ⟨g, 0, none⟩)] W (IPost W g (.string skS) ⟨#[]⟩ 0) := by
  have h := rest_in hI
  rw [show rawR skS 0 skS.size = (skS, ⟨#[]⟩, 0) from rfl] at h
  exact h
theorem may9 : ∃ r, reason_codes.f 20 9 = some r ∧ decide ((0 : Int) ≤ Lib.indexByte r.data.toList ((0 : Int).toNat.toUInt8)) = true := by
  have h : (match reason_codes.f 20 9 with | some r => decide ((0 : Int) ≤ Lib.indexByte r.data.toList ((0 : Int).toNat.toUInt8)) | none => false) = true := by decide +kernel
  cases hr : reason_codes.f 20 9 with
  | none => rw [hr] at h; cases h
  | some r => rw [hr] at h; exact ⟨r, rfl, h⟩
theorem may_sk (w : World) : Calls Tryz.prog 131 #[.int .i64 9, .int .u8 0] w (RB (.bool true) w) := by
  obtain ⟨r, hr, hd⟩ := may9
  have HR := Lib.hid hr
  have HI := Lib.hid (fun W => Tryz.strings_IndexByte r 0 W)
  generalize Lib.indexByte r.data.toList ((0 : Int).toNat.toUInt8) = ix at hd HI
  clear hr
  go_enter Tryz.func131, Tryz.ntmps131
  go_wp2_with (first
    | (go_at_call 182; refine (reason_codes.calls 20 9 r _ HR.out).mono ?_; rintro e w1 ⟨rfl, hd⟩; have HB := Lib.hid hd.below; clear hd)
    | (go_at_call 181; refine (HI.out _).mono ?_; rintro e w2 ⟨rfl, rfl⟩))
  go_ret
  exact ⟨rfl, HB.out⟩
def BegSk (w : World) (e : Ending) (w' : World) : Prop := ∃ g, e = .returned (.tuple #[.pointer (some ⟨g, 0, none⟩), .int .u32 1, .slice none 0 0]) ∧ w.heap.size ≤ g ∧ IN w' g skS 0 ∧ Below w.heap.size w w'
theorem begin_sk {w : World} : Calls Tryz.prog 183 #[.string suakB, .int .i64 9] w (BegSk w) := by
  have HTW := Lib.hid (two_x 1 (by decide) (0 :: [0]))
  rw [show ((1 : Nat) : Int) = 1 from rfl] at HTW
  have HPT := Lib.hid (nil_x 9 [0])
  have HLF := Lib.hid (left_x (l := [0]) (n := 1) rfl)
  rw [sk_eq]
  unfold BegSk
  rw [← skS_b]
  generalize toB (be2 (1 % 65536) ++ (0 :: [0])) = s at HTW ⊢
  generalize toB (0 :: [0]) = s1 at HTW HPT
  generalize toB [0] = s2 at HPT HLF ⊢
  go_enter Tryz.func183, Tryz.ntmps183
  go_upto_region 3 with (first
    | (go_at_call 64; refine (over_in s).mono ?_; rintro e w1 ⟨g, rfl, hi, hg, hb⟩; have HG := Lib.hid hg; have HW1 := Lib.hid hb; have HI1 := Lib.hid hi; clear hi hg hb)
    | (go_at_call 127; (with_reducible refine (HTW.out _ _ HI1.out).mono ?_); rintro e w2 ⟨rfl, hi, hc⟩; have HW2 := Lib.hid (HW1.out.trans (hc.to_below HW1.out.size (fun k hk => hk ▸ HG.out))); have HI2 := Lib.hid hi; clear hi hc HI1))
  go_upto_region 5 with (first
      | (go_at_call 66; refine (err_same HI2.out).mono ?_; rintro e w29 ⟨rfl, rfl⟩))
  go_upto_region 6 with (first
        | (go_at_call 128; (with_reducible refine (HPT.out _ _ HI2.out).mono ?_); rintro e w4 ⟨rfl, hi, hc⟩; have HI4 := Lib.hid hi; have HW4 := Lib.hid (HW2.out.trans (hc.to_below HW2.out.size (fun k hk => hk ▸ HG.out))); clear hi hc))
  go_wp2_with (first
          | (go_at_call 66; refine (err_same HI4.out).mono ?_; rintro e w49 ⟨rfl, rfl⟩)
          | (go_at_call 68; (with_reducible refine (HLF.out _ _ HI4.out).mono ?_); rintro e w5 ⟨rfl, hi, hc⟩; have HI5 := Lib.hid hi; have HW5 := Lib.hid (HW4.out.trans (hc.to_below HW4.out.size (fun k hk => hk ▸ HG.out))); clear hi hc))
  exact bodyPost_ret (v := .tuple #[.pointer (some ⟨g, 0, none⟩), .int .u32 1, .slice none 0 0]) (by simp [results, Tryz.results183, go_sem]) rfl ⟨g, rfl, HG.out, HI5.out, HW5.out⟩
def SkX (w : World) (e : Ending) (w' : World) : Prop := e = .returned (.tuple #[.agg #[.int .i64 9, .int .u32 1, .slice none 0 0, .string skS], .int .i64 0]) ∧ Below w.heap.size w w'
theorem sackparse_x {w : World} : Calls Tryz.prog 135 #[.int .i64 9, .string suakB] w (SkX w) := by
  have HBG := Lib.hid (fun W => begin_sk (w := W))
  unfold BegSk at HBG
  have HRS := Lib.hid rest_sk
  have HMAY := Lib.hid may_sk
  unfold RB at HMAY
  have HSZ := Lib.hid (show skS.size = 1 from rfl)
  have HS0 := Lib.hid (show (skS.data.toList.getD 0 0).toNat = 0 from rfl)
  unfold SkX
  generalize skS = b at HBG HRS HSZ HS0 ⊢
  generalize suakB = s at HBG ⊢
  have HX0 := Lib.hid (heap_alloc_new w (.cells #[.int .i64 0, .int .u32 0, .slice none 0 0, .string ⟨#[]⟩] 266))
  have HW0 := Lib.hid (show Below w.heap.size w (w.alloc (.cells #[.int .i64 0, .int .u32 0, .slice none 0 0, .string ⟨#[]⟩] 266)) from (Below.refl _ _).alloc (Nat.le_refl _) _)
  have kb := fun b W => print_bytes (P := Tryz.prog) 9 35 5 Tryz.underlying9 Tryz.underlying35 Tryz.underlying5 b W
  go_enter Tryz.func135, Tryz.ntmps135
  go_upto_region 1 with (fail)
  generalize (w.alloc (.cells #[.int .i64 0, .int .u32 0, .slice none 0 0, .string ⟨#[]⟩] 266)) = W0 at HX0 HW0 ⊢
  go_upto_region 5 with (first
      | (go_at_call 183; (with_reducible refine (HBG.out _).mono ?_); rintro e w1 ⟨g, rfl, hg, hi, hb⟩; have HG := Lib.hid (show w.heap.size ≤ g by have := HW0.out.size; omega); have HNX := Lib.hid (show w.heap.size ≠ g by have := blk_lt HX0.out; omega); have HX1 := Lib.hid (blk_below HX0.out hb); have HW1 := Lib.hid (HW0.out.trans (hb.mono HW0.out.size)); have HI1 := Lib.hid hi; clear hg hi hb)
      | (go_at_call 70; (with_reducible refine (HRS.out _ _ HI1.out).mono ?_); rintro e w2 ⟨rfl, hi, hc⟩; have HX2 := Lib.hid (hc.blk HX1.out HNX.out); have HW2 := Lib.hid (HW1.out.trans (hc.to_below HW1.out.size (fun k hk => hk ▸ HG.out))); have HI2 := Lib.hid hi; clear hi hc))
  clear HX0 HW0 HX1 HW1 HI1
  have HNB := Lib.hid (show w2.heap.size ≠ g by have := HI2.out.lt; omega)
  have hba := (Below.refl w2.heap.size w2).alloc (Nat.le_refl _) (.cells #[.int .i64 9, .int .u32 1, .slice none 0 0, .string b] 266)
  have HI3 := Lib.hid (HI2.out.below hba)
  have HX3 := Lib.hid (blk_below HX2.out hba)
  have HW3 := Lib.hid (HW2.out.trans (hba.mono HW2.out.size))
  have HB3 := Lib.hid (heap_alloc_new w2 (.cells #[.int .i64 9, .int .u32 1, .slice none 0 0, .string b] 266))
  clear hba HI2 HX2 HW2
  generalize (w2.alloc (.cells #[.int .i64 9, .int .u32 1, .slice none 0 0, .string b] 266)) = W3 at HI3 HX3 HW3 HB3 ⊢
  obtain ⟨c0, c1, c2, c3⟩ := qcell HB3.out
  go_upto_region 6 with (fail)
  have hbw := bytes_below (Below.refl W3.heap.size W3) (Nat.le_refl _) 5 b
  have HC4 := Lib.hid (fun j hj => Lib.bytesWorld_cell W3 5 b j hj)
  have HI4 := Lib.hid (HI3.out.below hbw)
  have HX4 := Lib.hid (blk_below HX3.out hbw)
  have HB4 := Lib.hid (blk_below HB3.out hbw)
  have HW4 := Lib.hid (HW3.out.trans (hbw.mono HW3.out.size))
  clear hbw HI3 HX3 HB3 HW3 kb c0 c1 c2 c3
  generalize Lib.bytesWorld W3 5 b = W4 at HC4 HI4 HX4 HB4 HW4 ⊢
  generalize grownCap W3 b.size 0 5 = cap
  generalize W3.heap.size = b0 at HC4 ⊢
  have hcell := HC4.out 0 (by rw [HSZ.out]; decide)
  rw [HS0.out] at hcell
  rw [HSZ.out]
  refine wp_loop_rounds 2 ?_
  rw [rounds_succ]
  go_wp2_with (first | (go_at_call 131; (with_reducible refine (HMAY.out _).mono ?_); rintro e w5 ⟨rfl, hb⟩; have HI6 := Lib.hid (HI4.out.below hb); have HX6 := Lib.hid (blk_below HX4.out hb); have HB6 := Lib.hid (blk_below HB4.out hb); have HW6 := Lib.hid (HW4.out.trans (hb.mono HW4.out.size)); clear hb))
  clear HI4 HX4 HB4 HW4 hcell
  rw [rounds_succ]
  go_wp2_with (first | (go_at_call 130; (with_reducible refine (end_x _ _ HI6.out).mono ?_); rintro e w9 ⟨rfl, hi, hc⟩; have HB9 := Lib.hid (hc.blk HB6.out HNB.out); have HX9 := Lib.hid (hc.blk HX6.out HNX.out); have HW9 := Lib.hid (HW6.out.trans (hc.to_below HW6.out.size (fun k hk => hk ▸ HG.out))); obtain ⟨c0, c1, c2, c3⟩ := qcell HB9.out; obtain ⟨r0, r1, r2, r3⟩ := qcell HX9.out; have f0 := blk_frozen HX9.out 0; have f1 := blk_frozen HX9.out 1; have f2 := blk_frozen HX9.out 2; have f3 := blk_frozen HX9.out 3; clear hi hc))
  have HF := Lib.hid (blk_put (blk_put (blk_put (blk_put HX9.out 0 (.int .i64 9) rfl) 1 (.int .u32 1) rfl) 2 (.slice none 0 0) rfl) 3 (.string b) rfl)
  have HBF := Lib.hid (bset (bset (bset (bset HW9.out w.heap.size 0 (.int .i64 9) (Nat.le_refl _)) w.heap.size 1 (.int .u32 1) (Nat.le_refl _)) w.heap.size 2 (.slice none 0 0) (Nat.le_refl _)) w.heap.size 3 (.string b) (Nat.le_refl _))
  generalize ((((w9.setCell ⟨w.heap.size, 0, none⟩ (.int .i64 9)).setCell ⟨w.heap.size, 1, none⟩ (.int .u32 1)).setCell ⟨w.heap.size, 2, none⟩ (.slice none 0 0)).setCell ⟨w.heap.size, 3, none⟩ (.string b)) = WF at HF HBF ⊢
  obtain ⟨o0, o1, o2, o3⟩ := qcell HF.out
  exact bodyPost_ret (v := .tuple #[.agg #[.int .i64 9, .int .u32 1, .slice none 0 0, .string b], .int .i64 0]) (by simp [results, Tryz.results135, go_sem, o0, o1, o2, o3]) rfl ⟨rfl, HBF.out⟩
def SkPX (w : World) (e : Ending) (w' : World) : Prop := e = .returned (.tuple #[.iface 270 (.agg #[.int .i64 9, .int .u32 1, .slice none 0 0, .string skS]), .int .i64 0]) ∧ Below w.heap.size w w'
theorem ask_sk {w : World} (f : Nat) : Calls Tryz.prog 87 #[.agg #[.int .i64 9, .int .i64 (f : Nat), .string suakB]] w (SkPX w) := by
  have HS := Lib.hid (fun W => sackparse_x (w := W))
  unfold SkX at HS
  unfold SkPX
  generalize suakB = s at HS ⊢
  generalize skS = b at HS ⊢
  have HB0 := Lib.hid ((Below.refl w.heap.size w).alloc (Nat.le_refl _) (.cells #[.int .i64 9, .int .i64 (f : Nat), .string s] 128))
  go_enter Tryz.func87, Tryz.ntmps87
  go_wp2_with (first | (go_at_call 135; (with_reducible refine (HS.out _).mono ?_); rintro e w1 ⟨rfl, hb⟩; have HB1 := Lib.hid (HB0.out.trans (hb.mono HB0.out.size)); clear hb))
  go_ret2
  exact ⟨rfl, HB1.out.alloc HB1.out.size _⟩
theorem parse_sk {w : World} : Calls Tryz.prog 50 #[fr 9 0 suakB] w (SkPX w) := by
  have HCK := Lib.hid (fun W => chk_calls 9 0 (by decide) (by decide) W)
  rw [show chk 9 0 = 0 from rfl, show ((9 : Nat) : Int) = 9 from rfl, show ((0 : Nat) : Int) = 0 from rfl] at HCK
  unfold fr
  rw [show ((9 : Nat) : Int) = 9 from rfl, show ((0 : Nat) : Int) = 0 from rfl]
  have HPP := Lib.hid (fun W => ask_sk (w := W) 0)
  rw [show ((0 : Nat) : Int) = 0 from rfl] at HPP
  unfold SkPX at HPP ⊢
  generalize suakB = s at HPP ⊢
  generalize skS = b at HPP ⊢
  have HX := Lib.hid (heap_alloc_new w (.cells #[.int .i64 9, .int .i64 0, .string s] 128))
  have HB := Lib.hid (show Below w.heap.size w (w.alloc (.cells #[.int .i64 9, .int .i64 0, .string s] 128)) from (Below.refl _ _).alloc (Nat.le_refl _) _)
  go_enter Tryz.func50, Tryz.ntmps50
  go_wp2_with (first
    | (go_at_call 62; refine (HCK.out _).mono ?_; rintro e w1 ⟨rfl, hb⟩; have HX1 := Lib.hid (hb.block _ (blk_lt HX.out) |>.trans HX.out); have HB1 := Lib.hid (HB.out.trans (hb.mono HB.out.size)); obtain ⟨x0, x1, x2⟩ := frcell HX1.out; clear hb)
    | (go_at_call 87; (with_reducible refine (HPP.out _).mono ?_); rintro e w2 ⟨rfl, hb⟩; have HB3 := Lib.hid (HB1.out.trans (hb.mono HB1.out.size)); clear hb))
  go_ret2
  exact ⟨rfl, HB3.out⟩
end Go.Proofs.YtbfgpkogginmjaaGreatDoor
end
