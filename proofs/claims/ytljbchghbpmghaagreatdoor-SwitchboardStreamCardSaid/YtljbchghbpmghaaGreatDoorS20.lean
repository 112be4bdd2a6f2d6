/- the frame of a bye. -/
import Derived.Test.YtljbchghbpmghaaGreatDoorS19
namespace Go.Proofs.YtljbchghbpmghaaGreatDoor
open Go.RowKit Go.Lib Go.Proofs.YtljbchghbpmghaaGreatDoorW.PrintWords Go.Proofs.YtljbchghbpmghaaGreatDoor.PSwitchboardGreat
set_option linter.unusedVariables false
set_option linter.unusedSimpArgs false
set_option maxHeartbeats 4000000 in
set_option maxRecDepth 1000000 in
theorem byeframe_calls {w : World} {k cd c : Nat} {A : Option Addr} {L : List PR} (hcd : cd < 256) (hlk : LOk L) (hc : L.length ≤ c) (hL : PL w A L) : Calls Tryz.prog 120 #[.agg #[.int .i64 (k : Nat), .int .u8 (cd : Nat), .slice A L.length c]] w (FrPost w k 0 (toB (tailB cd L))) := by
  have HLK := Lib.hid hlk
  have HPL := Lib.hid hL
  have HC := Lib.hid hc
  have HCD := Lib.hid hcd
  have HBODY := Lib.hid (show tailB cd L = (if cd ≠ 0 ∨ 0 < L.length then [UInt8.ofNat cd] else []) ++ (if 0 < L.length then putB L else []) from rfl)
  generalize tailB cd L = BODY at HBODY ⊢
  have HB0 := Lib.hid (show Below w.heap.size w (((w.alloc (.cells #[.int .i64 (k : Nat), .int .u8 (cd : Nat), .slice A L.length c] 107)).alloc (.cells #[.int .i64 0, .int .i64 0, .string ⟨#[]⟩] 36)).alloc (.cells #[.slice none 0 0] 52)) from (((Below.refl _ _).alloc (Nat.le_refl _) _).alloc (by rw [World.size_alloc]; omega) _).alloc (by rw [World.size_alloc, World.size_alloc]; omega) _)
  have HX0 := Lib.hid (show (((w.alloc (.cells #[.int .i64 (k : Nat), .int .u8 (cd : Nat), .slice A L.length c] 107)).alloc (.cells #[.int .i64 0, .int .i64 0, .string ⟨#[]⟩] 36)).alloc (.cells #[.slice none 0 0] 52)).heap[w.heap.size]? = some (.cells #[.int .i64 (k : Nat), .int .u8 (cd : Nat), .slice A L.length c] 107 (0, 0)) from blk_alloc (blk_alloc (heap_alloc_new w _) _) _)
  have HR0 := Lib.hid (show (((w.alloc (.cells #[.int .i64 (k : Nat), .int .u8 (cd : Nat), .slice A L.length c] 107)).alloc (.cells #[.int .i64 0, .int .i64 0, .string ⟨#[]⟩] 36)).alloc (.cells #[.slice none 0 0] 52)).heap[w.heap.size + 1]? = some (.cells #[.int .i64 0, .int .i64 0, .string ⟨#[]⟩] 36 (0, 0)) by
    have := heap_alloc_new (w.alloc (.cells #[.int .i64 (k : Nat), .int .u8 (cd : Nat), .slice A L.length c] 107)) (.cells #[.int .i64 0, .int .i64 0, .string ⟨#[]⟩] 36)
    rw [World.size_alloc] at this
    exact blk_alloc this _)
  have HO0 := Lib.hid (show OW (((w.alloc (.cells #[.int .i64 (k : Nat), .int .u8 (cd : Nat), .slice A L.length c] 107)).alloc (.cells #[.int .i64 0, .int .i64 0, .string ⟨#[]⟩] 36)).alloc (.cells #[.slice none 0 0] 52)) (w.heap.size + 1 + 1) (fun k => w.heap.size ≤ k) [] by
    have := OW.new ((w.alloc (.cells #[.int .i64 (k : Nat), .int .u8 (cd : Nat), .slice A L.length c] 107)).alloc (.cells #[.int .i64 0, .int .i64 0, .string ⟨#[]⟩] 36)) (fun k => w.heap.size ≤ k)
    rw [World.size_alloc, World.size_alloc] at this
    exact this)
  have HNB := Lib.hid (show w.heap.size ≠ w.heap.size + 1 + 1 by omega)
  have HNR := Lib.hid (show w.heap.size + 1 ≠ w.heap.size + 1 + 1 by omega)
  have HLB := Lib.hid (show w.heap.size ≤ w.heap.size + 1 + 1 by omega)
  have HL0 := Lib.hid (show ([] : List UInt8).length ≤ 0 from Nat.le_refl _)
  clear hlk hL hc hcd
  go_enter Tryz.func120, Tryz.ntmps120
  go_upto_region 2 with (fail)
  generalize (((w.alloc (.cells #[.int .i64 (k : Nat), .int .u8 (cd : Nat), .slice A L.length c] 107)).alloc (.cells #[.int .i64 0, .int .i64 0, .string ⟨#[]⟩] 36)).alloc (.cells #[.slice none 0 0] 52)) = W0 at HX0 HB0 HO0 HR0 ⊢
  obtain ⟨p0_0, p0_1, p0_2⟩ := frcell HX0.out
  by_cases hl : 0 < L.length
  · have HBD := Lib.hid (show BODY = ([] ++ [UInt8.ofNat cd]) ++ putB L by rw [HBODY.out, if_pos (Or.inr hl), if_pos hl]; simp)
    clear HBODY
    by_cases hz : cd = 0
    · have hz1 : ((cd : Int) != 0) = false := by simp [hz]
      clear hz
      go_upto_region 6 with (first | (go_at_call 30; (with_reducible refine (byte_calls HO0.out (fun k hk => Nat.le_trans HB0.out.size hk) (Nat.le_trans HL0.out (by decide)) cd HCD.out).mono ?_); rintro e w2 ⟨rfl, ho, hc1⟩; have HO2 := Lib.hid ho; have HR2 := Lib.hid (Ch5.blk hc1 HR0.out HNR.out (by decide)); have hx := Ch5.blk hc1 HX0.out HNB.out (by decide); have HX2 := Lib.hid hx; have HB2 := Lib.hid (HB0.out.trans (hc1.to_below HB0.out.size HLB.out (fun _ h => h))); have HL2 := Lib.hid (show ([] ++ [UInt8.ofNat cd]).length ≤ 1 from Nat.le_refl _); obtain ⟨p2_0, p2_1, p2_2⟩ := frcell hx; clear ho hc1 hx) | (go_at_call 108; (with_reducible refine (Put_calls HO2.out HB2.out.size (Nat.le_trans HL2.out (by decide)) A c L HC.out (HPL.out.to HB2.out) HLK.out.ok HLK.out.sz HLK.out.len).mono ?_); rintro e w3 ⟨rfl, ho, hc1⟩; have HO3 := Lib.hid ho; have HR3 := Lib.hid (Ch5.blk hc1 HR2.out HNR.out (by decide)); have hx := Ch5.blk hc1 HX2.out HNB.out (by decide); have HX3 := Lib.hid hx; have HB3 := Lib.hid (HB2.out.trans (hc1.to_below HB2.out.size HLB.out (fun _ h => h))); obtain ⟨p3_0, p3_1, p3_2⟩ := frcell hx; clear ho hc1 hx))
      have HXd := Lib.hid (blk_drew HX3.out)
      have HRd := Lib.hid (blk_drew HR3.out)
      have HOd := Lib.hid (show OW w3.drew (w.heap.size + 1 + 1) (fun k => w.heap.size ≤ k) BODY from HBD.out.symm ▸ HO3.out.drew)
      have HBd := Lib.hid (below_dr HB3.out)
      go_region_held3 (fun w' => w'.cell? ⟨w.heap.size, 0, none⟩ = some (.int .i64 (k : Nat))) (first | exact p3_0 | exact p9_0 | exact p8_0 | go_keep) (first | (go_at_call 16; (with_reducible refine (text_calls HOd.out).mono ?_); rintro e w9 ⟨rfl, hb2⟩; have HB9 := Lib.hid (HBd.out.trans (hb2.mono HBd.out.size)); have HR9 := Lib.hid (blk_below HRd.out hb2); obtain ⟨p9_0, p9_1, p9_2⟩ := frcell (blk_below HXd.out hb2); obtain ⟨r0, r1, r2⟩ := frcell HR9.out; have f0 := blk_frozen HR9.out 0; have f1 := blk_frozen HR9.out 1; have f2 := blk_frozen HR9.out 2; clear hb2))
      go_wp2
      refine bodyPost_ret (v := fr k 0 (toB BODY)) (by unfold fr; simp [results, Tryz.results120, go_sem, r0, r1, r2]) rfl ⟨rfl, ?_⟩
      exact ((HB9.out.setCell (by simp; done) _).setCell (by simp; done) _).setCell (by simp; done) _
    · have hz1 : ((cd : Int) != 0) = true := by simpa [bne_iff_ne] using hz
      clear hz
      go_upto_region 6 with (first | (go_at_call 30; (with_reducible refine (byte_calls HO0.out (fun k hk => Nat.le_trans HB0.out.size hk) (Nat.le_trans HL0.out (by decide)) cd HCD.out).mono ?_); rintro e w2 ⟨rfl, ho, hc1⟩; have HO2 := Lib.hid ho; have HR2 := Lib.hid (Ch5.blk hc1 HR0.out HNR.out (by decide)); have hx := Ch5.blk hc1 HX0.out HNB.out (by decide); have HX2 := Lib.hid hx; have HB2 := Lib.hid (HB0.out.trans (hc1.to_below HB0.out.size HLB.out (fun _ h => h))); have HL2 := Lib.hid (show ([] ++ [UInt8.ofNat cd]).length ≤ 1 from Nat.le_refl _); obtain ⟨p2_0, p2_1, p2_2⟩ := frcell hx; clear ho hc1 hx) | (go_at_call 108; (with_reducible refine (Put_calls HO2.out HB2.out.size (Nat.le_trans HL2.out (by decide)) A c L HC.out (HPL.out.to HB2.out) HLK.out.ok HLK.out.sz HLK.out.len).mono ?_); rintro e w3 ⟨rfl, ho, hc1⟩; have HO3 := Lib.hid ho; have HR3 := Lib.hid (Ch5.blk hc1 HR2.out HNR.out (by decide)); have hx := Ch5.blk hc1 HX2.out HNB.out (by decide); have HX3 := Lib.hid hx; have HB3 := Lib.hid (HB2.out.trans (hc1.to_below HB2.out.size HLB.out (fun _ h => h))); obtain ⟨p3_0, p3_1, p3_2⟩ := frcell hx; clear ho hc1 hx))
      have HXd := Lib.hid (blk_drew HX3.out)
      have HRd := Lib.hid (blk_drew HR3.out)
      have HOd := Lib.hid (show OW w3.drew (w.heap.size + 1 + 1) (fun k => w.heap.size ≤ k) BODY from HBD.out.symm ▸ HO3.out.drew)
      have HBd := Lib.hid (below_dr HB3.out)
      go_region_held3 (fun w' => w'.cell? ⟨w.heap.size, 0, none⟩ = some (.int .i64 (k : Nat))) (first | exact p3_0 | exact p9_0 | exact p8_0 | go_keep) (first | (go_at_call 16; (with_reducible refine (text_calls HOd.out).mono ?_); rintro e w9 ⟨rfl, hb2⟩; have HB9 := Lib.hid (HBd.out.trans (hb2.mono HBd.out.size)); have HR9 := Lib.hid (blk_below HRd.out hb2); obtain ⟨p9_0, p9_1, p9_2⟩ := frcell (blk_below HXd.out hb2); obtain ⟨r0, r1, r2⟩ := frcell HR9.out; have f0 := blk_frozen HR9.out 0; have f1 := blk_frozen HR9.out 1; have f2 := blk_frozen HR9.out 2; clear hb2))
      go_wp2
      refine bodyPost_ret (v := fr k 0 (toB BODY)) (by unfold fr; simp [results, Tryz.results120, go_sem, r0, r1, r2]) rfl ⟨rfl, ?_⟩
      exact ((HB9.out.setCell (by simp; done) _).setCell (by simp; done) _).setCell (by simp; done) _
  · by_cases hz : cd = 0
    · have hz1 : ((cd : Int) != 0) = false := by simp [hz]
      have HBD := Lib.hid (show BODY = [] by rw [HBODY.out, if_neg (fun h => h.elim (fun h => h hz) hl), if_neg hl]; simp)
      clear hz HBODY
      go_upto_region 6 with (fail)
      have HXd := Lib.hid (blk_drew HX0.out)
      have HRd := Lib.hid (blk_drew HR0.out)
      have HOd := Lib.hid (show OW W0.drew (w.heap.size + 1 + 1) (fun k => w.heap.size ≤ k) BODY from HBD.out.symm ▸ HO0.out.drew)
      have HBd := Lib.hid (below_dr HB0.out)
      go_region_held3 (fun w' => w'.cell? ⟨w.heap.size, 0, none⟩ = some (.int .i64 (k : Nat))) (first | exact p0_0 | exact p9_0 | exact p8_0 | go_keep) (first | (go_at_call 16; (with_reducible refine (text_calls HOd.out).mono ?_); rintro e w9 ⟨rfl, hb2⟩; have HB9 := Lib.hid (HBd.out.trans (hb2.mono HBd.out.size)); have HR9 := Lib.hid (blk_below HRd.out hb2); obtain ⟨p9_0, p9_1, p9_2⟩ := frcell (blk_below HXd.out hb2); obtain ⟨r0, r1, r2⟩ := frcell HR9.out; have f0 := blk_frozen HR9.out 0; have f1 := blk_frozen HR9.out 1; have f2 := blk_frozen HR9.out 2; clear hb2))
      go_wp2
      refine bodyPost_ret (v := fr k 0 (toB BODY)) (by unfold fr; simp [results, Tryz.results120, go_sem, r0, r1, r2]) rfl ⟨rfl, ?_⟩
      exact ((HB9.out.setCell (by simp; done) _).setCell (by simp; done) _).setCell (by simp; done) _
    · have hz1 : ((cd : Int) != 0) = true := by simpa [bne_iff_ne] using hz
      have HBD := Lib.hid (show BODY = [] ++ [UInt8.ofNat cd] by rw [HBODY.out, if_pos (Or.inl hz), if_neg hl]; simp)
      clear hz HBODY
      go_upto_region 6 with (first | (go_at_call 30; (with_reducible refine (byte_calls HO0.out (fun k hk => Nat.le_trans HB0.out.size hk) (Nat.le_trans HL0.out (by decide)) cd HCD.out).mono ?_); rintro e w2 ⟨rfl, ho, hc1⟩; have HO2 := Lib.hid ho; have HR2 := Lib.hid (Ch5.blk hc1 HR0.out HNR.out (by decide)); have hx := Ch5.blk hc1 HX0.out HNB.out (by decide); have HX2 := Lib.hid hx; have HB2 := Lib.hid (HB0.out.trans (hc1.to_below HB0.out.size HLB.out (fun _ h => h))); have HL2 := Lib.hid (show ([] ++ [UInt8.ofNat cd]).length ≤ 1 from Nat.le_refl _); obtain ⟨p2_0, p2_1, p2_2⟩ := frcell hx; clear ho hc1 hx))
      have HXd := Lib.hid (blk_drew HX2.out)
      have HRd := Lib.hid (blk_drew HR2.out)
      have HOd := Lib.hid (show OW w2.drew (w.heap.size + 1 + 1) (fun k => w.heap.size ≤ k) BODY from HBD.out.symm ▸ HO2.out.drew)
      have HBd := Lib.hid (below_dr HB2.out)
      go_region_held3 (fun w' => w'.cell? ⟨w.heap.size, 0, none⟩ = some (.int .i64 (k : Nat))) (first | exact p2_0 | exact p9_0 | exact p8_0 | go_keep) (first | (go_at_call 16; (with_reducible refine (text_calls HOd.out).mono ?_); rintro e w9 ⟨rfl, hb2⟩; have HB9 := Lib.hid (HBd.out.trans (hb2.mono HBd.out.size)); have HR9 := Lib.hid (blk_below HRd.out hb2); obtain ⟨p9_0, p9_1, p9_2⟩ := frcell (blk_below HXd.out hb2); obtain ⟨r0, r1, r2⟩ := frcell HR9.out; have f0 := blk_frozen HR9.out 0; have f1 := blk_frozen HR9.out 1; have f2 := blk_frozen HR9.out 2; clear hb2))
      go_wp2
      refine bodyPost_ret (v := fr k 0 (toB BODY)) (by unfold fr; simp [results, Tryz.results120, go_sem, r0, r1, r2]) rfl ⟨rfl, ?_⟩
      exact ((HB9.out.setCell (by simp; done) _).setCell (by simp; done) _).setCell (by simp; done) _
end Go.Proofs.YtljbchghbpmghaaGreatDoor
