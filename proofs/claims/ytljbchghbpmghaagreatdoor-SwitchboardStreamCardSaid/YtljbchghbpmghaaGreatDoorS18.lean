/- the text of an ack. -/
import Derived.Test.YtljbchghbpmghaaGreatDoorS17
namespace Go.Proofs.YtljbchghbpmghaaGreatDoor
open Go.RowKit Go.Lib Go.Proofs.YtljbchghbpmghaaGreatDoorW.PrintWords Go.Proofs.YtljbchghbpmghaaGreatDoor.PSwitchboardGreat
set_option linter.unusedVariables false
set_option linter.unusedSimpArgs false
set_option maxHeartbeats 4000000 in
set_option maxRecDepth 1000000 in
theorem acktext_calls {w : World} {k id cd c : Nat} {A : Option Addr} {L : List PR} (hid : id ≤ 4294967295) (hcd : cd < 256) (hlk : LOk L) (hc : L.length ≤ c) (hL : PL w A L) : Calls Tryz.prog 117 #[.agg #[.int .i64 (k : Nat), .int .u32 (id : Nat), .int .u8 (cd : Nat), .slice A L.length c]] w fun e w' => e = .returned (.string (toB (be2 (id % 65536) ++ tailB cd L))) ∧ Below w.heap.size w w' := by
  have HLK := Lib.hid hlk
  have HPL := Lib.hid hL
  have HC := Lib.hid hc
  have HCD := Lib.hid hcd
  have HID := Lib.hid hid
  have HBODY := Lib.hid (show be2 (id % 65536) ++ tailB cd L = be2 (id % 65536) ++ ((if cd ≠ 0 ∨ 0 < L.length then [UInt8.ofNat cd] else []) ++ (if 0 < L.length then putB L else [])) from rfl)
  generalize be2 (id % 65536) ++ tailB cd L = BODY at HBODY ⊢
  have HX0 := Lib.hid (show ((w.alloc (.cells #[.int .i64 (k : Nat), .int .u32 (id : Nat), .int .u8 (cd : Nat), .slice A L.length c] 99)).alloc (.cells #[.slice none 0 0] 52)).heap[w.heap.size]? = some (.cells #[.int .i64 (k : Nat), .int .u32 (id : Nat), .int .u8 (cd : Nat), .slice A L.length c] 99 (0, 0)) from blk_alloc (heap_alloc_new w _) _)
  have HO0 := Lib.hid (show OW ((w.alloc (.cells #[.int .i64 (k : Nat), .int .u32 (id : Nat), .int .u8 (cd : Nat), .slice A L.length c] 99)).alloc (.cells #[.slice none 0 0] 52)) (w.heap.size + 1) (fun k => w.heap.size ≤ k) [] by
    have := OW.new (w.alloc (.cells #[.int .i64 (k : Nat), .int .u32 (id : Nat), .int .u8 (cd : Nat), .slice A L.length c] 99)) (fun k => w.heap.size ≤ k)
    rw [World.size_alloc] at this
    exact this)
  have HB0 := Lib.hid (show Below w.heap.size w ((w.alloc (.cells #[.int .i64 (k : Nat), .int .u32 (id : Nat), .int .u8 (cd : Nat), .slice A L.length c] 99)).alloc (.cells #[.slice none 0 0] 52)) from ((Below.refl _ _).alloc (Nat.le_refl _) _).alloc (by rw [World.size_alloc]; omega) _)
  have HNB := Lib.hid (show w.heap.size ≠ w.heap.size + 1 by omega)
  have HLB := Lib.hid (show w.heap.size ≤ w.heap.size + 1 by omega)
  have HL0 := Lib.hid (show ([] : List UInt8).length ≤ 900000 by show 0 ≤ 900000; omega)
  clear hlk hL hc hcd hid
  go_enter Tryz.func117, Tryz.ntmps117
  go_upto_region 2 with (fail)
  generalize ((w.alloc (.cells #[.int .i64 (k : Nat), .int .u32 (id : Nat), .int .u8 (cd : Nat), .slice A L.length c] 99)).alloc (.cells #[.slice none 0 0] 52)) = W0 at HX0 HB0 HO0 ⊢
  obtain ⟨p0_0, p0_1, p0_2, p0_3⟩ := qcell HX0.out
  go_upto_region 3 with (first
    | (go_at_call 107; (with_reducible refine (two_calls HO0.out (fun k hk => Nat.le_trans HB0.out.size hk) HL0.out id HID.out).mono ?_); rintro e w1 ⟨rfl, ho, hc1⟩; have HO1 := Lib.hid ho; have hx := Ch5.blk hc1 HX0.out HNB.out (by decide); have HX1 := Lib.hid hx; have HB1 := Lib.hid (HB0.out.trans (hc1.to_below HB0.out.size HLB.out (fun _ h => h))); have HL1 := Lib.hid (show ([] ++ be2 (id % 65536)).length ≤ 2 from Nat.le_refl _); obtain ⟨p1_0, p1_1, p1_2, p1_3⟩ := qcell hx; clear ho hc1 hx))
  clear HX0 HO0 HB0 p0_0 p0_1 p0_2 p0_3
  by_cases hl : 0 < L.length
  · have HBD := Lib.hid (show BODY = (([] ++ be2 (id % 65536)) ++ [UInt8.ofNat cd]) ++ putB L by rw [HBODY.out, if_pos (Or.inr hl), if_pos hl]; simp)
    clear HBODY
    by_cases hz : cd = 0
    · have hz1 : ((cd : Int) != 0) = false := by simp [hz]
      clear hz
      go_wp2_with (first | (go_at_call 30; (with_reducible refine (byte_calls HO1.out (fun k hk => Nat.le_trans HB1.out.size hk) (Nat.le_trans HL1.out (by decide)) cd HCD.out).mono ?_); rintro e w2 ⟨rfl, ho, hc1⟩; have HO2 := Lib.hid ho; have hx := Ch5.blk hc1 HX1.out HNB.out (by decide); have HX2 := Lib.hid hx; have HB2 := Lib.hid (HB1.out.trans (hc1.to_below HB1.out.size HLB.out (fun _ h => h))); have HL2 := Lib.hid (show (([] ++ be2 (id % 65536)) ++ [UInt8.ofNat cd]).length ≤ 3 from Nat.le_refl _); obtain ⟨p2_0, p2_1, p2_2, p2_3⟩ := qcell hx; clear ho hc1 hx) | (go_at_call 108; (with_reducible refine (Put_calls HO2.out HB2.out.size (Nat.le_trans HL2.out (by decide)) A c L HC.out (HPL.out.to HB2.out) HLK.out.ok HLK.out.sz HLK.out.len).mono ?_); rintro e w3 ⟨rfl, ho, hc1⟩; have HO3 := Lib.hid ho; have HB3 := Lib.hid (HB2.out.trans (hc1.to_below HB2.out.size HLB.out (fun _ h => h))); clear ho hc1) | (go_at_call 16; (with_reducible refine (text_calls HO3.out).mono ?_); rintro e w9 ⟨rfl, hb2⟩; have HB9 := Lib.hid (HB3.out.trans (hb2.mono HB3.out.size)); clear hb2))
      go_ret
      exact ⟨by rw [HBD.out]; rfl, HB9.out⟩
    · have hz1 : ((cd : Int) != 0) = true := by simpa [bne_iff_ne] using hz
      clear hz
      go_wp2_with (first | (go_at_call 30; (with_reducible refine (byte_calls HO1.out (fun k hk => Nat.le_trans HB1.out.size hk) (Nat.le_trans HL1.out (by decide)) cd HCD.out).mono ?_); rintro e w2 ⟨rfl, ho, hc1⟩; have HO2 := Lib.hid ho; have hx := Ch5.blk hc1 HX1.out HNB.out (by decide); have HX2 := Lib.hid hx; have HB2 := Lib.hid (HB1.out.trans (hc1.to_below HB1.out.size HLB.out (fun _ h => h))); have HL2 := Lib.hid (show (([] ++ be2 (id % 65536)) ++ [UInt8.ofNat cd]).length ≤ 3 from Nat.le_refl _); obtain ⟨p2_0, p2_1, p2_2, p2_3⟩ := qcell hx; clear ho hc1 hx) | (go_at_call 108; (with_reducible refine (Put_calls HO2.out HB2.out.size (Nat.le_trans HL2.out (by decide)) A c L HC.out (HPL.out.to HB2.out) HLK.out.ok HLK.out.sz HLK.out.len).mono ?_); rintro e w3 ⟨rfl, ho, hc1⟩; have HO3 := Lib.hid ho; have HB3 := Lib.hid (HB2.out.trans (hc1.to_below HB2.out.size HLB.out (fun _ h => h))); clear ho hc1) | (go_at_call 16; (with_reducible refine (text_calls HO3.out).mono ?_); rintro e w9 ⟨rfl, hb2⟩; have HB9 := Lib.hid (HB3.out.trans (hb2.mono HB3.out.size)); clear hb2))
      go_ret
      exact ⟨by rw [HBD.out]; rfl, HB9.out⟩
  · by_cases hz : cd = 0
    · have hz1 : ((cd : Int) != 0) = false := by simp [hz]
      have HBD := Lib.hid (show BODY = [] ++ be2 (id % 65536) by rw [HBODY.out, if_neg (fun h => h.elim (fun h => h hz) hl), if_neg hl]; simp)
      clear hz HBODY
      go_wp2_with (first | (go_at_call 16; (with_reducible refine (text_calls HO1.out).mono ?_); rintro e w9 ⟨rfl, hb2⟩; have HB9 := Lib.hid (HB1.out.trans (hb2.mono HB1.out.size)); clear hb2))
      go_ret
      exact ⟨by rw [HBD.out]; rfl, HB9.out⟩
    · have hz1 : ((cd : Int) != 0) = true := by simpa [bne_iff_ne] using hz
      have HBD := Lib.hid (show BODY = ([] ++ be2 (id % 65536)) ++ [UInt8.ofNat cd] by rw [HBODY.out, if_pos (Or.inl hz), if_neg hl]; simp)
      clear hz HBODY
      go_wp2_with (first | (go_at_call 30; (with_reducible refine (byte_calls HO1.out (fun k hk => Nat.le_trans HB1.out.size hk) (Nat.le_trans HL1.out (by decide)) cd HCD.out).mono ?_); rintro e w2 ⟨rfl, ho, hc1⟩; have HO2 := Lib.hid ho; have hx := Ch5.blk hc1 HX1.out HNB.out (by decide); have HX2 := Lib.hid hx; have HB2 := Lib.hid (HB1.out.trans (hc1.to_below HB1.out.size HLB.out (fun _ h => h))); have HL2 := Lib.hid (show (([] ++ be2 (id % 65536)) ++ [UInt8.ofNat cd]).length ≤ 3 from Nat.le_refl _); obtain ⟨p2_0, p2_1, p2_2, p2_3⟩ := qcell hx; clear ho hc1 hx) | (go_at_call 16; (with_reducible refine (text_calls HO2.out).mono ?_); rintro e w9 ⟨rfl, hb2⟩; have HB9 := Lib.hid (HB2.out.trans (hb2.mono HB2.out.size)); clear hb2))
      go_ret
      exact ⟨by rw [HBD.out]; rfl, HB9.out⟩
end Go.Proofs.YtljbchghbpmghaaGreatDoor
