/- packet.Parse: the packet of a frame. -/
import Derived.Test.YtljbchghbpmghaaGreatDoorS32
namespace Go.Proofs.YtljbchghbpmghaaGreatDoor
open Go.RowKit Go.Lib Go.Proofs.YtljbchghbpmghaaGreatDoorW.PrintWords Go.Proofs.YtljbchghbpmghaaGreatDoor.PSwitchboardGreat
set_option linter.unusedVariables false
set_option linter.unusedSimpArgs false
set_option maxHeartbeats 4000000 in
set_option maxRecDepth 1000000 in
theorem parse_bad {w : World} (k f : Nat) (hk : k < 16) (hf : f < 16) (s : ByteArray) (hc : chk k f = 2) : Calls Tryz.prog 20 #[.agg #[.int .i64 (k : Nat), .int .i64 (f : Nat), .string s]] w (ParseP w s) := by
  have HCK := Lib.hid (fun W => chk_calls k f hk hf W)
  rw [hc] at HCK
  have HX := Lib.hid (heap_alloc_new w (.cells #[.int .i64 (k : Nat), .int .i64 (f : Nat), .string s] 36))
  have HB := Lib.hid (show Below w.heap.size w (w.alloc (.cells #[.int .i64 (k : Nat), .int .i64 (f : Nat), .string s] 36)) from (Below.refl _ _).alloc (Nat.le_refl _) _)
  clear hk hf hc
  go_enter Tryz.func20, Tryz.ntmps20
  go_wp2_with (first
    | (go_at_call 21; refine (HCK.out _).mono ?_; rintro e w1 ⟨rfl, hb⟩; have HX1 := Lib.hid (hb.block _ (blk_lt HX.out) |>.trans HX.out); have HB1 := Lib.hid (HB.out.trans (hb.mono HB.out.size)); obtain ⟨x0, x1, x2⟩ := frcell HX1.out; have HX2 := Lib.hid (fun t cs => blk_alloc HX1.out (.cells cs t)); have HB2 := Lib.hid (fun t cs => HB1.out.alloc HB1.out.size (.cells cs t)); have y0 := fun t cs => (frcell (HX2.out t cs)).1; have y1 := fun t cs => (frcell (HX2.out t cs)).2.1; have y2 := fun t cs => (frcell (HX2.out t cs)).2.2; clear hb))
  go_ret2
  exact ⟨_, 2, rfl, HB1.out, fun h => absurd h (by decide)⟩
set_option maxHeartbeats 4000000 in
set_option maxRecDepth 1000000 in
theorem parse_connect {w : World} (f : Nat) (hf : f < 16) (s : ByteArray) (hs : s.size ≤ 100000) (hc : chk 1 f = 0) : Calls Tryz.prog 20 #[.agg #[.int .i64 1, .int .i64 (f : Nat), .string s]] w (ParseP w s) := by
  have HCK := Lib.hid (fun W => chk_calls 1 f (by omega) hf W)
  rw [hc, show ((1 : Nat) : Int) = 1 from rfl] at HCK
  have HPP := Lib.hid (fun W => conparse_calls (w := W) s hs)
  clear hc
  have HSS := Lib.hid hs
  have HX := Lib.hid (heap_alloc_new w (.cells #[.int .i64 1, .int .i64 (f : Nat), .string s] 36))
  have HB := Lib.hid (show Below w.heap.size w (w.alloc (.cells #[.int .i64 1, .int .i64 (f : Nat), .string s] 36)) from (Below.refl _ _).alloc (Nat.le_refl _) _)
  clear hs
  go_enter Tryz.func20, Tryz.ntmps20
  go_upto_region 11 with (first
    | (go_at_call 21; refine (HCK.out _).mono ?_; rintro e w1 ⟨rfl, hb⟩; have HX1 := Lib.hid (hb.block _ (blk_lt HX.out) |>.trans HX.out); have HB1 := Lib.hid (HB.out.trans (hb.mono HB.out.size)); obtain ⟨x0, x1, x2⟩ := frcell HX1.out; have HX2 := Lib.hid (fun t cs => blk_alloc HX1.out (.cells cs t)); have HB2 := Lib.hid (fun t cs => HB1.out.alloc HB1.out.size (.cells cs t)); have y0 := fun t cs => (frcell (HX2.out t cs)).1; have y1 := fun t cs => (frcell (HX2.out t cs)).2.1; have y2 := fun t cs => (frcell (HX2.out t cs)).2.2; clear hb)
    | (go_at_call 35; (with_reducible refine (HPP.out _).mono ?_); rintro e w2 ⟨d, A, c, A', c', er, rfl, hb, hp⟩; unfold ND.cells; have HXB := Lib.hid (hb.block _ (blk_lt (heap_alloc_new w1 _)) |>.trans (heap_alloc_new w1 _)); have HB3 := Lib.hid ((HB2.out _ _).trans (hb.mono (HB2.out _ _).size)); have f0 := blk_frozen HXB.out 0; have f1 := blk_frozen HXB.out 1; have f2 := blk_frozen HXB.out 2; have f3 := blk_frozen HXB.out 3; have f4 := blk_frozen HXB.out 4; have f5 := blk_frozen HXB.out 5; have f6 := blk_frozen HXB.out 6; have f7 := blk_frozen HXB.out 7; have f8 := blk_frozen HXB.out 8; have f9 := blk_frozen HXB.out 9; have f10 := blk_frozen HXB.out 10; have f11 := blk_frozen HXB.out 11; have f12 := blk_frozen HXB.out 12; have f13 := blk_frozen HXB.out 13; obtain ⟨r0, r1, r2, r3, r4, r5, r6, r7, r8, r9, r10, r11, r12, r13⟩ := ncell HXB.out; have HP := Lib.hid hp; clear hb hp))
  have hle : w.heap.size ≤ w1.heap.size := HB1.out.size
  have HC := Lib.hid (show Chg (fun k => k = w1.heap.size) w2 ((((((((((((((w2.setCell ⟨w1.heap.size, 0, none⟩ (.bool d.cl)).setCell ⟨w1.heap.size, 1, none⟩ (.int .u32 (d.keep : Nat))).setCell ⟨w1.heap.size, 2, none⟩ (.slice A d.L.length c)).setCell ⟨w1.heap.size, 3, none⟩ (.string d.t.id)).setCell ⟨w1.heap.size, 4, none⟩ (.bool d.hw)).setCell ⟨w1.heap.size, 5, none⟩ (.slice A' d.t.WL.length c')).setCell ⟨w1.heap.size, 6, none⟩ (.string d.t.wt)).setCell ⟨w1.heap.size, 7, none⟩ (.string d.t.wp)).setCell ⟨w1.heap.size, 8, none⟩ (.int .u8 (d.q : Nat))).setCell ⟨w1.heap.size, 9, none⟩ (.bool d.rt)).setCell ⟨w1.heap.size, 10, none⟩ (.bool d.hu)).setCell ⟨w1.heap.size, 11, none⟩ (.bool d.hp)).setCell ⟨w1.heap.size, 12, none⟩ (.string d.t.us)).setCell ⟨w1.heap.size, 13, none⟩ (.string d.t.pa)) from ((((((((((((((chg_setc w1.heap.size 0 _).trans (chg_setc w1.heap.size 1 _)).trans (chg_setc w1.heap.size 2 _)).trans (chg_setc w1.heap.size 3 _)).trans (chg_setc w1.heap.size 4 _)).trans (chg_setc w1.heap.size 5 _)).trans (chg_setc w1.heap.size 6 _)).trans (chg_setc w1.heap.size 7 _)).trans (chg_setc w1.heap.size 8 _)).trans (chg_setc w1.heap.size 9 _)).trans (chg_setc w1.heap.size 10 _)).trans (chg_setc w1.heap.size 11 _)).trans (chg_setc w1.heap.size 12 _)).trans (chg_setc w1.heap.size 13 _)))
  obtain ⟨WF, hWF, hF, hB, _⟩ := set14 HXB.out (by decide) (.bool d.cl) (.int .u32 (d.keep : Nat)) (.slice A d.L.length c) (.string d.t.id) (.bool d.hw) (.slice A' d.t.WL.length c') (.string d.t.wt) (.string d.t.wp) (.int .u8 (d.q : Nat)) (.bool d.rt) (.bool d.hu) (.bool d.hp) (.string d.t.us) (.string d.t.pa)
  rw [← hWF] at HC ⊢
  have HBF := Lib.hid (hB _ _ HB3.out hle)
  obtain ⟨o0, o1, o2, o3, o4, o5, o6, o7, o8, o9, o10, o11, o12, o13⟩ := ncell hF
  clear r0 r1 r2 r3 r4 r5 r6 r7 r8 r9 r10 r11 r12 r13 f0 f1 f2 f3 f4 f5 f6 f7 f8 f9 f10 f11 f12 f13 hF hB hWF
  go_upto_region 35 with (fail)
  by_cases he : er = 0
  · obtain rfl := he
    go_wp2
    go_ret2
    refine ⟨.iface 89 ((.agg (d.cells A c A' c'))), 0, rfl, ?_, fun _ => ?_⟩
    · exact HBF.out
    · obtain ⟨hd, hpo, hpo', hl⟩ := HP.out (by trivial)
      have hpk := pks_connect d A c A' c' hd hpo hpo' hl HSS.out
      exact PkS.one hpk HXB.out (by decide) (HC.out)
  · have hne : (er != 0) = true := by simpa [bne_iff_ne] using he
    have HE := Lib.hid he
    clear he
    go_wp2
    go_ret2
    refine ⟨.nilIface, er, rfl, ?_, fun h => absurd h HE.out⟩
    exact HBF.out
set_option maxHeartbeats 4000000 in
set_option maxRecDepth 1000000 in
theorem parse_connack {w : World} (f : Nat) (hf : f < 16) (s : ByteArray) (hs : s.size ≤ 100000) (hc : chk 2 f = 0) : Calls Tryz.prog 20 #[.agg #[.int .i64 2, .int .i64 (f : Nat), .string s]] w (ParseP w s) := by
  have HCK := Lib.hid (fun W => chk_calls 2 f (by omega) hf W)
  rw [hc, show ((2 : Nat) : Int) = 2 from rfl] at HCK
  have HPP := Lib.hid (fun W => connack_calls (w := W) s hs)
  clear hc
  have HSS := Lib.hid hs
  have HX := Lib.hid (heap_alloc_new w (.cells #[.int .i64 2, .int .i64 (f : Nat), .string s] 36))
  have HB := Lib.hid (show Below w.heap.size w (w.alloc (.cells #[.int .i64 2, .int .i64 (f : Nat), .string s] 36)) from (Below.refl _ _).alloc (Nat.le_refl _) _)
  clear hs
  go_enter Tryz.func20, Tryz.ntmps20
  go_upto_region 15 with (first
    | (go_at_call 21; refine (HCK.out _).mono ?_; rintro e w1 ⟨rfl, hb⟩; have HX1 := Lib.hid (hb.block _ (blk_lt HX.out) |>.trans HX.out); have HB1 := Lib.hid (HB.out.trans (hb.mono HB.out.size)); obtain ⟨x0, x1, x2⟩ := frcell HX1.out; have HX2 := Lib.hid (fun t cs => blk_alloc HX1.out (.cells cs t)); have HB2 := Lib.hid (fun t cs => HB1.out.alloc HB1.out.size (.cells cs t)); have y0 := fun t cs => (frcell (HX2.out t cs)).1; have y1 := fun t cs => (frcell (HX2.out t cs)).2.1; have y2 := fun t cs => (frcell (HX2.out t cs)).2.2; clear hb)
    | (go_at_call 36; (with_reducible refine (HPP.out _).mono ?_); rintro e w2 ⟨d, A, c, er, rfl, hb, hp⟩; unfold CD.v; have HXB := Lib.hid (hb.block _ (blk_lt (heap_alloc_new w1 _)) |>.trans (heap_alloc_new w1 _)); have HB3 := Lib.hid ((HB2.out _ _).trans (hb.mono (HB2.out _ _).size)); have f0 := blk_frozen HXB.out 0; have f1 := blk_frozen HXB.out 1; have f2 := blk_frozen HXB.out 2; obtain ⟨r0, r1, r2⟩ := frcell HXB.out; have HP := Lib.hid hp; clear hb hp))
  have hle : w.heap.size ≤ w1.heap.size := HB1.out.size
  go_upto_region 35 with (fail)
  by_cases he : er = 0
  · obtain rfl := he
    go_wp2
    go_ret2
    refine ⟨.iface 95 (d.v A c), 0, rfl, ?_, fun _ => ?_⟩
    · exact (bset (bset (bset HB3.out w1.heap.size 0 _ hle) w1.heap.size 1 _ hle) w1.heap.size 2 _ hle)
    · obtain ⟨hd, hpo, hl⟩ := HP.out (by trivial)
      have hpk := pks_connack d A c hd hpo hl HSS.out
      exact PkS.one hpk HXB.out (by decide) ((((chg_setc w1.heap.size 0 _).trans (chg_setc w1.heap.size 1 _)).trans (chg_setc w1.heap.size 2 _)))
  · have hne : (er != 0) = true := by simpa [bne_iff_ne] using he
    have HE := Lib.hid he
    clear he
    go_wp2
    go_ret2
    refine ⟨.nilIface, er, rfl, ?_, fun h => absurd h HE.out⟩
    exact (bset (bset (bset HB3.out w1.heap.size 0 _ hle) w1.heap.size 1 _ hle) w1.heap.size 2 _ hle)
set_option maxHeartbeats 4000000 in
set_option maxRecDepth 1000000 in
theorem parse_pub {w : World} (f : Nat) (hf : f < 16) (s : ByteArray) (hs : s.size ≤ 100000) (hc : chk 3 f = 0) : Calls Tryz.prog 20 #[.agg #[.int .i64 3, .int .i64 (f : Nat), .string s]] w (ParseP w s) := by
  have HCK := Lib.hid (fun W => chk_calls 3 f (by omega) hf W)
  rw [hc, show ((3 : Nat) : Int) = 3 from rfl] at HCK
  have HPP := Lib.hid (fun W => pubparse_calls (w := W) f hf s hs)
  have HCF := Lib.hid hc
  clear hc
  have HSS := Lib.hid hs
  have HX := Lib.hid (heap_alloc_new w (.cells #[.int .i64 3, .int .i64 (f : Nat), .string s] 36))
  have HB := Lib.hid (show Below w.heap.size w (w.alloc (.cells #[.int .i64 3, .int .i64 (f : Nat), .string s] 36)) from (Below.refl _ _).alloc (Nat.le_refl _) _)
  clear hs
  go_enter Tryz.func20, Tryz.ntmps20
  go_upto_region 19 with (first
    | (go_at_call 21; refine (HCK.out _).mono ?_; rintro e w1 ⟨rfl, hb⟩; have HX1 := Lib.hid (hb.block _ (blk_lt HX.out) |>.trans HX.out); have HB1 := Lib.hid (HB.out.trans (hb.mono HB.out.size)); obtain ⟨x0, x1, x2⟩ := frcell HX1.out; have HX2 := Lib.hid (fun t cs => blk_alloc HX1.out (.cells cs t)); have HB2 := Lib.hid (fun t cs => HB1.out.alloc HB1.out.size (.cells cs t)); have y0 := fun t cs => (frcell (HX2.out t cs)).1; have y1 := fun t cs => (frcell (HX2.out t cs)).2.1; have y2 := fun t cs => (frcell (HX2.out t cs)).2.2; clear hb)
    | (go_at_call 37; (with_reducible refine (HPP.out _).mono ?_); rintro e w2 ⟨d, A, c, er, rfl, hb, hp⟩; unfold PD.v; have HXB := Lib.hid (hb.block _ (blk_lt (heap_alloc_new w1 _)) |>.trans (heap_alloc_new w1 _)); have HB3 := Lib.hid ((HB2.out _ _).trans (hb.mono (HB2.out _ _).size)); have f0 := blk_frozen HXB.out 0; have f1 := blk_frozen HXB.out 1; have f2 := blk_frozen HXB.out 2; have f3 := blk_frozen HXB.out 3; have f4 := blk_frozen HXB.out 4; have f5 := blk_frozen HXB.out 5; have f6 := blk_frozen HXB.out 6; obtain ⟨r0, r1, r2, r3, r4, r5, r6⟩ := pbcell HXB.out; have HP := Lib.hid hp; clear hb hp))
  have hle : w.heap.size ≤ w1.heap.size := HB1.out.size
  go_upto_region 35 with (fail)
  by_cases he : er = 0
  · obtain rfl := he
    go_wp2
    go_ret2
    refine ⟨.iface 49 (d.v A c), 0, rfl, ?_, fun _ => ?_⟩
    · exact (bset (bset (bset (bset (bset (bset (bset HB3.out w1.heap.size 0 _ hle) w1.heap.size 1 _ hle) w1.heap.size 2 _ hle) w1.heap.size 3 _ hle) w1.heap.size 4 _ hle) w1.heap.size 5 _ hle) w1.heap.size 6 _ hle)
    · obtain ⟨hd, hpo, hfl, hl⟩ := HP.out (by trivial)
      have hpk := pks_pub d A c hd hpo (by rw [hfl]; exact hf) (by rw [hfl]; exact HCF.out) hl HSS.out
      exact PkS.one hpk HXB.out (by decide) ((((((((chg_setc w1.heap.size 0 _).trans (chg_setc w1.heap.size 1 _)).trans (chg_setc w1.heap.size 2 _)).trans (chg_setc w1.heap.size 3 _)).trans (chg_setc w1.heap.size 4 _)).trans (chg_setc w1.heap.size 5 _)).trans (chg_setc w1.heap.size 6 _)))
  · have hne : (er != 0) = true := by simpa [bne_iff_ne] using he
    have HE := Lib.hid he
    clear he
    go_wp2
    go_ret2
    refine ⟨.nilIface, er, rfl, ?_, fun h => absurd h HE.out⟩
    exact (bset (bset (bset (bset (bset (bset (bset HB3.out w1.heap.size 0 _ hle) w1.heap.size 1 _ hle) w1.heap.size 2 _ hle) w1.heap.size 3 _ hle) w1.heap.size 4 _ hle) w1.heap.size 5 _ hle) w1.heap.size 6 _ hle)
set_option maxHeartbeats 4000000 in
set_option maxRecDepth 1000000 in
theorem parse_ack4 {w : World} (f : Nat) (hf : f < 16) (s : ByteArray) (hs : s.size ≤ 100000) (hc : chk 4 f = 0) : Calls Tryz.prog 20 #[.agg #[.int .i64 4, .int .i64 (f : Nat), .string s]] w (ParseP w s) := by
  have HCK := Lib.hid (fun W => chk_calls 4 f (by omega) hf W)
  rw [hc, show ((4 : Nat) : Int) = 4 from rfl] at HCK
  have HPP := Lib.hid (fun W => pubackparse_calls (w := W) 4 (by decide) (by decide) s hs)
  rw [show ((4 : Nat) : Int) = 4 from rfl] at HPP
  clear hc
  have HSS := Lib.hid hs
  have HX := Lib.hid (heap_alloc_new w (.cells #[.int .i64 4, .int .i64 (f : Nat), .string s] 36))
  have HB := Lib.hid (show Below w.heap.size w (w.alloc (.cells #[.int .i64 4, .int .i64 (f : Nat), .string s] 36)) from (Below.refl _ _).alloc (Nat.le_refl _) _)
  clear hs
  go_enter Tryz.func20, Tryz.ntmps20
  go_upto_region 26 with (first
    | (go_at_call 21; refine (HCK.out _).mono ?_; rintro e w1 ⟨rfl, hb⟩; have HX1 := Lib.hid (hb.block _ (blk_lt HX.out) |>.trans HX.out); have HB1 := Lib.hid (HB.out.trans (hb.mono HB.out.size)); obtain ⟨x0, x1, x2⟩ := frcell HX1.out; have HX2 := Lib.hid (fun t cs => blk_alloc HX1.out (.cells cs t)); have HB2 := Lib.hid (fun t cs => HB1.out.alloc HB1.out.size (.cells cs t)); have y0 := fun t cs => (frcell (HX2.out t cs)).1; have y1 := fun t cs => (frcell (HX2.out t cs)).2.1; have y2 := fun t cs => (frcell (HX2.out t cs)).2.2; clear hb)
    | (go_at_call 38; (with_reducible refine (HPP.out _).mono ?_); rintro e w2 ⟨d, A, c, er, rfl, hb, hp⟩; unfold AD.v; have HXB := Lib.hid (hb.block _ (blk_lt (heap_alloc_new w1 _)) |>.trans (heap_alloc_new w1 _)); have HB3 := Lib.hid ((HB2.out _ _).trans (hb.mono (HB2.out _ _).size)); have f0 := blk_frozen HXB.out 0; have f1 := blk_frozen HXB.out 1; have f2 := blk_frozen HXB.out 2; have f3 := blk_frozen HXB.out 3; obtain ⟨r0, r1, r2, r3⟩ := qcell HXB.out; have HP := Lib.hid hp; clear hb hp))
  have hle : w.heap.size ≤ w1.heap.size := HB1.out.size
  go_upto_region 35 with (fail)
  by_cases he : er = 0
  · obtain rfl := he
    go_wp2
    go_ret2
    refine ⟨.iface 103 (d.v A c), 0, rfl, ?_, fun _ => ?_⟩
    · exact (bset (bset (bset (bset HB3.out w1.heap.size 0 _ hle) w1.heap.size 1 _ hle) w1.heap.size 2 _ hle) w1.heap.size 3 _ hle)
    · obtain ⟨hk, hd, hpo, hl⟩ := HP.out (by trivial)
      have hpk := pks_ack d A c (by rw [hk]; decide) hd hpo hl HSS.out
      exact PkS.one hpk HXB.out (by decide) (((((chg_setc w1.heap.size 0 _).trans (chg_setc w1.heap.size 1 _)).trans (chg_setc w1.heap.size 2 _)).trans (chg_setc w1.heap.size 3 _)))
  · have hne : (er != 0) = true := by simpa [bne_iff_ne] using he
    have HE := Lib.hid he
    clear he
    go_wp2
    go_ret2
    refine ⟨.nilIface, er, rfl, ?_, fun h => absurd h HE.out⟩
    exact (bset (bset (bset (bset HB3.out w1.heap.size 0 _ hle) w1.heap.size 1 _ hle) w1.heap.size 2 _ hle) w1.heap.size 3 _ hle)
set_option maxHeartbeats 4000000 in
set_option maxRecDepth 1000000 in
theorem parse_ack5 {w : World} (f : Nat) (hf : f < 16) (s : ByteArray) (hs : s.size ≤ 100000) (hc : chk 5 f = 0) : Calls Tryz.prog 20 #[.agg #[.int .i64 5, .int .i64 (f : Nat), .string s]] w (ParseP w s) := by
  have HCK := Lib.hid (fun W => chk_calls 5 f (by omega) hf W)
  rw [hc, show ((5 : Nat) : Int) = 5 from rfl] at HCK
  have HPP := Lib.hid (fun W => pubackparse_calls (w := W) 5 (by decide) (by decide) s hs)
  rw [show ((5 : Nat) : Int) = 5 from rfl] at HPP
  clear hc
  have HSS := Lib.hid hs
  have HX := Lib.hid (heap_alloc_new w (.cells #[.int .i64 5, .int .i64 (f : Nat), .string s] 36))
  have HB := Lib.hid (show Below w.heap.size w (w.alloc (.cells #[.int .i64 5, .int .i64 (f : Nat), .string s] 36)) from (Below.refl _ _).alloc (Nat.le_refl _) _)
  clear hs
  go_enter Tryz.func20, Tryz.ntmps20
  go_upto_region 26 with (first
    | (go_at_call 21; refine (HCK.out _).mono ?_; rintro e w1 ⟨rfl, hb⟩; have HX1 := Lib.hid (hb.block _ (blk_lt HX.out) |>.trans HX.out); have HB1 := Lib.hid (HB.out.trans (hb.mono HB.out.size)); obtain ⟨x0, x1, x2⟩ := frcell HX1.out; have HX2 := Lib.hid (fun t cs => blk_alloc HX1.out (.cells cs t)); have HB2 := Lib.hid (fun t cs => HB1.out.alloc HB1.out.size (.cells cs t)); have y0 := fun t cs => (frcell (HX2.out t cs)).1; have y1 := fun t cs => (frcell (HX2.out t cs)).2.1; have y2 := fun t cs => (frcell (HX2.out t cs)).2.2; clear hb)
    | (go_at_call 38; (with_reducible refine (HPP.out _).mono ?_); rintro e w2 ⟨d, A, c, er, rfl, hb, hp⟩; unfold AD.v; have HXB := Lib.hid (hb.block _ (blk_lt (heap_alloc_new w1 _)) |>.trans (heap_alloc_new w1 _)); have HB3 := Lib.hid ((HB2.out _ _).trans (hb.mono (HB2.out _ _).size)); have f0 := blk_frozen HXB.out 0; have f1 := blk_frozen HXB.out 1; have f2 := blk_frozen HXB.out 2; have f3 := blk_frozen HXB.out 3; obtain ⟨r0, r1, r2, r3⟩ := qcell HXB.out; have HP := Lib.hid hp; clear hb hp))
  have hle : w.heap.size ≤ w1.heap.size := HB1.out.size
  go_upto_region 35 with (fail)
  by_cases he : er = 0
  · obtain rfl := he
    go_wp2
    go_ret2
    refine ⟨.iface 103 (d.v A c), 0, rfl, ?_, fun _ => ?_⟩
    · exact (bset (bset (bset (bset HB3.out w1.heap.size 0 _ hle) w1.heap.size 1 _ hle) w1.heap.size 2 _ hle) w1.heap.size 3 _ hle)
    · obtain ⟨hk, hd, hpo, hl⟩ := HP.out (by trivial)
      have hpk := pks_ack d A c (by rw [hk]; decide) hd hpo hl HSS.out
      exact PkS.one hpk HXB.out (by decide) (((((chg_setc w1.heap.size 0 _).trans (chg_setc w1.heap.size 1 _)).trans (chg_setc w1.heap.size 2 _)).trans (chg_setc w1.heap.size 3 _)))
  · have hne : (er != 0) = true := by simpa [bne_iff_ne] using he
    have HE := Lib.hid he
    clear he
    go_wp2
    go_ret2
    refine ⟨.nilIface, er, rfl, ?_, fun h => absurd h HE.out⟩
    exact (bset (bset (bset (bset HB3.out w1.heap.size 0 _ hle) w1.heap.size 1 _ hle) w1.heap.size 2 _ hle) w1.heap.size 3 _ hle)
set_option maxHeartbeats 4000000 in
set_option maxRecDepth 1000000 in
theorem parse_ack6 {w : World} (f : Nat) (hf : f < 16) (s : ByteArray) (hs : s.size ≤ 100000) (hc : chk 6 f = 0) : Calls Tryz.prog 20 #[.agg #[.int .i64 6, .int .i64 (f : Nat), .string s]] w (ParseP w s) := by
  have HCK := Lib.hid (fun W => chk_calls 6 f (by omega) hf W)
  rw [hc, show ((6 : Nat) : Int) = 6 from rfl] at HCK
  have HPP := Lib.hid (fun W => pubackparse_calls (w := W) 6 (by decide) (by decide) s hs)
  rw [show ((6 : Nat) : Int) = 6 from rfl] at HPP
  clear hc
  have HSS := Lib.hid hs
  have HX := Lib.hid (heap_alloc_new w (.cells #[.int .i64 6, .int .i64 (f : Nat), .string s] 36))
  have HB := Lib.hid (show Below w.heap.size w (w.alloc (.cells #[.int .i64 6, .int .i64 (f : Nat), .string s] 36)) from (Below.refl _ _).alloc (Nat.le_refl _) _)
  clear hs
  go_enter Tryz.func20, Tryz.ntmps20
  go_upto_region 26 with (first
    | (go_at_call 21; refine (HCK.out _).mono ?_; rintro e w1 ⟨rfl, hb⟩; have HX1 := Lib.hid (hb.block _ (blk_lt HX.out) |>.trans HX.out); have HB1 := Lib.hid (HB.out.trans (hb.mono HB.out.size)); obtain ⟨x0, x1, x2⟩ := frcell HX1.out; have HX2 := Lib.hid (fun t cs => blk_alloc HX1.out (.cells cs t)); have HB2 := Lib.hid (fun t cs => HB1.out.alloc HB1.out.size (.cells cs t)); have y0 := fun t cs => (frcell (HX2.out t cs)).1; have y1 := fun t cs => (frcell (HX2.out t cs)).2.1; have y2 := fun t cs => (frcell (HX2.out t cs)).2.2; clear hb)
    | (go_at_call 38; (with_reducible refine (HPP.out _).mono ?_); rintro e w2 ⟨d, A, c, er, rfl, hb, hp⟩; unfold AD.v; have HXB := Lib.hid (hb.block _ (blk_lt (heap_alloc_new w1 _)) |>.trans (heap_alloc_new w1 _)); have HB3 := Lib.hid ((HB2.out _ _).trans (hb.mono (HB2.out _ _).size)); have f0 := blk_frozen HXB.out 0; have f1 := blk_frozen HXB.out 1; have f2 := blk_frozen HXB.out 2; have f3 := blk_frozen HXB.out 3; obtain ⟨r0, r1, r2, r3⟩ := qcell HXB.out; have HP := Lib.hid hp; clear hb hp))
  have hle : w.heap.size ≤ w1.heap.size := HB1.out.size
  go_upto_region 35 with (fail)
  by_cases he : er = 0
  · obtain rfl := he
    go_wp2
    go_ret2
    refine ⟨.iface 103 (d.v A c), 0, rfl, ?_, fun _ => ?_⟩
    · exact (bset (bset (bset (bset HB3.out w1.heap.size 0 _ hle) w1.heap.size 1 _ hle) w1.heap.size 2 _ hle) w1.heap.size 3 _ hle)
    · obtain ⟨hk, hd, hpo, hl⟩ := HP.out (by trivial)
      have hpk := pks_ack d A c (by rw [hk]; decide) hd hpo hl HSS.out
      exact PkS.one hpk HXB.out (by decide) (((((chg_setc w1.heap.size 0 _).trans (chg_setc w1.heap.size 1 _)).trans (chg_setc w1.heap.size 2 _)).trans (chg_setc w1.heap.size 3 _)))
  · have hne : (er != 0) = true := by simpa [bne_iff_ne] using he
    have HE := Lib.hid he
    clear he
    go_wp2
    go_ret2
    refine ⟨.nilIface, er, rfl, ?_, fun h => absurd h HE.out⟩
    exact (bset (bset (bset (bset HB3.out w1.heap.size 0 _ hle) w1.heap.size 1 _ hle) w1.heap.size 2 _ hle) w1.heap.size 3 _ hle)
set_option maxHeartbeats 4000000 in
set_option maxRecDepth 1000000 in
theorem parse_ack7 {w : World} (f : Nat) (hf : f < 16) (s : ByteArray) (hs : s.size ≤ 100000) (hc : chk 7 f = 0) : Calls Tryz.prog 20 #[.agg #[.int .i64 7, .int .i64 (f : Nat), .string s]] w (ParseP w s) := by
  have HCK := Lib.hid (fun W => chk_calls 7 f (by omega) hf W)
  rw [hc, show ((7 : Nat) : Int) = 7 from rfl] at HCK
  have HPP := Lib.hid (fun W => pubackparse_calls (w := W) 7 (by decide) (by decide) s hs)
  rw [show ((7 : Nat) : Int) = 7 from rfl] at HPP
  clear hc
  have HSS := Lib.hid hs
  have HX := Lib.hid (heap_alloc_new w (.cells #[.int .i64 7, .int .i64 (f : Nat), .string s] 36))
  have HB := Lib.hid (show Below w.heap.size w (w.alloc (.cells #[.int .i64 7, .int .i64 (f : Nat), .string s] 36)) from (Below.refl _ _).alloc (Nat.le_refl _) _)
  clear hs
  go_enter Tryz.func20, Tryz.ntmps20
  go_upto_region 26 with (first
    | (go_at_call 21; refine (HCK.out _).mono ?_; rintro e w1 ⟨rfl, hb⟩; have HX1 := Lib.hid (hb.block _ (blk_lt HX.out) |>.trans HX.out); have HB1 := Lib.hid (HB.out.trans (hb.mono HB.out.size)); obtain ⟨x0, x1, x2⟩ := frcell HX1.out; have HX2 := Lib.hid (fun t cs => blk_alloc HX1.out (.cells cs t)); have HB2 := Lib.hid (fun t cs => HB1.out.alloc HB1.out.size (.cells cs t)); have y0 := fun t cs => (frcell (HX2.out t cs)).1; have y1 := fun t cs => (frcell (HX2.out t cs)).2.1; have y2 := fun t cs => (frcell (HX2.out t cs)).2.2; clear hb)
    | (go_at_call 38; (with_reducible refine (HPP.out _).mono ?_); rintro e w2 ⟨d, A, c, er, rfl, hb, hp⟩; unfold AD.v; have HXB := Lib.hid (hb.block _ (blk_lt (heap_alloc_new w1 _)) |>.trans (heap_alloc_new w1 _)); have HB3 := Lib.hid ((HB2.out _ _).trans (hb.mono (HB2.out _ _).size)); have f0 := blk_frozen HXB.out 0; have f1 := blk_frozen HXB.out 1; have f2 := blk_frozen HXB.out 2; have f3 := blk_frozen HXB.out 3; obtain ⟨r0, r1, r2, r3⟩ := qcell HXB.out; have HP := Lib.hid hp; clear hb hp))
  have hle : w.heap.size ≤ w1.heap.size := HB1.out.size
  go_upto_region 35 with (fail)
  by_cases he : er = 0
  · obtain rfl := he
    go_wp2
    go_ret2
    refine ⟨.iface 103 (d.v A c), 0, rfl, ?_, fun _ => ?_⟩
    · exact (bset (bset (bset (bset HB3.out w1.heap.size 0 _ hle) w1.heap.size 1 _ hle) w1.heap.size 2 _ hle) w1.heap.size 3 _ hle)
    · obtain ⟨hk, hd, hpo, hl⟩ := HP.out (by trivial)
      have hpk := pks_ack d A c (by rw [hk]; decide) hd hpo hl HSS.out
      exact PkS.one hpk HXB.out (by decide) (((((chg_setc w1.heap.size 0 _).trans (chg_setc w1.heap.size 1 _)).trans (chg_setc w1.heap.size 2 _)).trans (chg_setc w1.heap.size 3 _)))
  · have hne : (er != 0) = true := by simpa [bne_iff_ne] using he
    have HE := Lib.hid he
    clear he
    go_wp2
    go_ret2
    refine ⟨.nilIface, er, rfl, ?_, fun h => absurd h HE.out⟩
    exact (bset (bset (bset (bset HB3.out w1.heap.size 0 _ hle) w1.heap.size 1 _ hle) w1.heap.size 2 _ hle) w1.heap.size 3 _ hle)
set_option maxHeartbeats 4000000 in
set_option maxRecDepth 1000000 in
theorem parse_ping12 {w : World} (f : Nat) (hf : f < 16) (s : ByteArray) (hs : s.size ≤ 100000) (hc : chk 12 f = 0) : Calls Tryz.prog 20 #[.agg #[.int .i64 12, .int .i64 (f : Nat), .string s]] w (ParseP w s) := by
  have HCK := Lib.hid (fun W => chk_calls 12 f (by omega) hf W)
  rw [hc, show ((12 : Nat) : Int) = 12 from rfl] at HCK
  clear hc
  have HSS := Lib.hid hs
  have HX := Lib.hid (heap_alloc_new w (.cells #[.int .i64 12, .int .i64 (f : Nat), .string s] 36))
  have HB := Lib.hid (show Below w.heap.size w (w.alloc (.cells #[.int .i64 12, .int .i64 (f : Nat), .string s] 36)) from (Below.refl _ _).alloc (Nat.le_refl _) _)
  clear hs
  go_enter Tryz.func20, Tryz.ntmps20
  cases hse : s.toList.isEmpty
  · go_wp2_with (first | (go_at_call 21; refine (HCK.out _).mono ?_; rintro e w1 ⟨rfl, hb⟩; have HX1 := Lib.hid (hb.block _ (blk_lt HX.out) |>.trans HX.out); have HB1 := Lib.hid (HB.out.trans (hb.mono HB.out.size)); obtain ⟨x0, x1, x2⟩ := frcell HX1.out; have HX2 := Lib.hid (fun t cs => blk_alloc HX1.out (.cells cs t)); have HB2 := Lib.hid (fun t cs => HB1.out.alloc HB1.out.size (.cells cs t)); have y0 := fun t cs => (frcell (HX2.out t cs)).1; have y1 := fun t cs => (frcell (HX2.out t cs)).2.1; have y2 := fun t cs => (frcell (HX2.out t cs)).2.2; clear hb))
    go_ret2
    exact ⟨.nilIface, 2, rfl, HB1.out, fun h => absurd h (by decide)⟩
  · go_wp2_with (first | (go_at_call 21; refine (HCK.out _).mono ?_; rintro e w1 ⟨rfl, hb⟩; have HX1 := Lib.hid (hb.block _ (blk_lt HX.out) |>.trans HX.out); have HB1 := Lib.hid (HB.out.trans (hb.mono HB.out.size)); obtain ⟨x0, x1, x2⟩ := frcell HX1.out; have HX2 := Lib.hid (fun t cs => blk_alloc HX1.out (.cells cs t)); have HB2 := Lib.hid (fun t cs => HB1.out.alloc HB1.out.size (.cells cs t)); have y0 := fun t cs => (frcell (HX2.out t cs)).1; have y1 := fun t cs => (frcell (HX2.out t cs)).2.1; have y2 := fun t cs => (frcell (HX2.out t cs)).2.2; clear hb))
    go_ret2
    exact ⟨.iface 105 (.agg #[.int .i64 12]), 0, rfl, HB1.out, fun _ => (pks_ping 12 (by decide) _ : PkS _ (.iface 105 (.agg #[.int .i64 12])) _)⟩
set_option maxHeartbeats 4000000 in
set_option maxRecDepth 1000000 in
theorem parse_ping13 {w : World} (f : Nat) (hf : f < 16) (s : ByteArray) (hs : s.size ≤ 100000) (hc : chk 13 f = 0) : Calls Tryz.prog 20 #[.agg #[.int .i64 13, .int .i64 (f : Nat), .string s]] w (ParseP w s) := by
  have HCK := Lib.hid (fun W => chk_calls 13 f (by omega) hf W)
  rw [hc, show ((13 : Nat) : Int) = 13 from rfl] at HCK
  clear hc
  have HSS := Lib.hid hs
  have HX := Lib.hid (heap_alloc_new w (.cells #[.int .i64 13, .int .i64 (f : Nat), .string s] 36))
  have HB := Lib.hid (show Below w.heap.size w (w.alloc (.cells #[.int .i64 13, .int .i64 (f : Nat), .string s] 36)) from (Below.refl _ _).alloc (Nat.le_refl _) _)
  clear hs
  go_enter Tryz.func20, Tryz.ntmps20
  cases hse : s.toList.isEmpty
  · go_wp2_with (first | (go_at_call 21; refine (HCK.out _).mono ?_; rintro e w1 ⟨rfl, hb⟩; have HX1 := Lib.hid (hb.block _ (blk_lt HX.out) |>.trans HX.out); have HB1 := Lib.hid (HB.out.trans (hb.mono HB.out.size)); obtain ⟨x0, x1, x2⟩ := frcell HX1.out; have HX2 := Lib.hid (fun t cs => blk_alloc HX1.out (.cells cs t)); have HB2 := Lib.hid (fun t cs => HB1.out.alloc HB1.out.size (.cells cs t)); have y0 := fun t cs => (frcell (HX2.out t cs)).1; have y1 := fun t cs => (frcell (HX2.out t cs)).2.1; have y2 := fun t cs => (frcell (HX2.out t cs)).2.2; clear hb))
    go_ret2
    exact ⟨.nilIface, 2, rfl, HB1.out, fun h => absurd h (by decide)⟩
  · go_wp2_with (first | (go_at_call 21; refine (HCK.out _).mono ?_; rintro e w1 ⟨rfl, hb⟩; have HX1 := Lib.hid (hb.block _ (blk_lt HX.out) |>.trans HX.out); have HB1 := Lib.hid (HB.out.trans (hb.mono HB.out.size)); obtain ⟨x0, x1, x2⟩ := frcell HX1.out; have HX2 := Lib.hid (fun t cs => blk_alloc HX1.out (.cells cs t)); have HB2 := Lib.hid (fun t cs => HB1.out.alloc HB1.out.size (.cells cs t)); have y0 := fun t cs => (frcell (HX2.out t cs)).1; have y1 := fun t cs => (frcell (HX2.out t cs)).2.1; have y2 := fun t cs => (frcell (HX2.out t cs)).2.2; clear hb))
    go_ret2
    exact ⟨.iface 105 (.agg #[.int .i64 13]), 0, rfl, HB1.out, fun _ => (pks_ping 13 (by decide) _ : PkS _ (.iface 105 (.agg #[.int .i64 13])) _)⟩
set_option maxHeartbeats 4000000 in
set_option maxRecDepth 1000000 in
theorem parse_bye14 {w : World} (f : Nat) (hf : f < 16) (s : ByteArray) (hs : s.size ≤ 100000) (hc : chk 14 f = 0) : Calls Tryz.prog 20 #[.agg #[.int .i64 14, .int .i64 (f : Nat), .string s]] w (ParseP w s) := by
  have HCK := Lib.hid (fun W => chk_calls 14 f (by omega) hf W)
  rw [hc, show ((14 : Nat) : Int) = 14 from rfl] at HCK
  have HPP := Lib.hid (fun W => bye_calls (w := W) 14 (by decide) s hs)
  rw [show ((14 : Nat) : Int) = 14 from rfl] at HPP
  clear hc
  have HSS := Lib.hid hs
  have HX := Lib.hid (heap_alloc_new w (.cells #[.int .i64 14, .int .i64 (f : Nat), .string s] 36))
  have HB := Lib.hid (show Below w.heap.size w (w.alloc (.cells #[.int .i64 14, .int .i64 (f : Nat), .string s] 36)) from (Below.refl _ _).alloc (Nat.le_refl _) _)
  clear hs
  go_enter Tryz.func20, Tryz.ntmps20
  go_upto_region 35 with (first
    | (go_at_call 21; refine (HCK.out _).mono ?_; rintro e w1 ⟨rfl, hb⟩; have HX1 := Lib.hid (hb.block _ (blk_lt HX.out) |>.trans HX.out); have HB1 := Lib.hid (HB.out.trans (hb.mono HB.out.size)); obtain ⟨x0, x1, x2⟩ := frcell HX1.out; have HX2 := Lib.hid (fun t cs => blk_alloc HX1.out (.cells cs t)); have HB2 := Lib.hid (fun t cs => HB1.out.alloc HB1.out.size (.cells cs t)); have y0 := fun t cs => (frcell (HX2.out t cs)).1; have y1 := fun t cs => (frcell (HX2.out t cs)).2.1; have y2 := fun t cs => (frcell (HX2.out t cs)).2.2; clear hb)
    | (go_at_call 39; (with_reducible refine (HPP.out _).mono ?_); rintro e w2 ⟨d, A, c, er, rfl, hb, hp⟩; unfold BD.v; have HB3 := Lib.hid (HB1.out.trans (hb.mono HB1.out.size)); have HP := Lib.hid hp; clear hb hp))
  by_cases he : er = 0
  · obtain rfl := he
    go_wp2
    go_ret2
    obtain ⟨hk, hd, hpo, hl⟩ := HP.out (by trivial)
    exact ⟨_, 0, rfl, HB3.out, fun _ => pks_bye d A c (by rw [hk]; decide) hd hpo hl HSS.out⟩
  · have hne : (er != 0) = true := by simpa [bne_iff_ne] using he
    have HE := Lib.hid he
    clear he
    go_wp2
    go_ret2
    exact ⟨_, er, rfl, HB3.out, fun h => absurd h HE.out⟩
set_option maxHeartbeats 4000000 in
set_option maxRecDepth 1000000 in
theorem parse_bye15 {w : World} (f : Nat) (hf : f < 16) (s : ByteArray) (hs : s.size ≤ 100000) (hc : chk 15 f = 0) : Calls Tryz.prog 20 #[.agg #[.int .i64 15, .int .i64 (f : Nat), .string s]] w (ParseP w s) := by
  have HCK := Lib.hid (fun W => chk_calls 15 f (by omega) hf W)
  rw [hc, show ((15 : Nat) : Int) = 15 from rfl] at HCK
  have HPP := Lib.hid (fun W => bye_calls (w := W) 15 (by decide) s hs)
  rw [show ((15 : Nat) : Int) = 15 from rfl] at HPP
  clear hc
  have HSS := Lib.hid hs
  have HX := Lib.hid (heap_alloc_new w (.cells #[.int .i64 15, .int .i64 (f : Nat), .string s] 36))
  have HB := Lib.hid (show Below w.heap.size w (w.alloc (.cells #[.int .i64 15, .int .i64 (f : Nat), .string s] 36)) from (Below.refl _ _).alloc (Nat.le_refl _) _)
  clear hs
  go_enter Tryz.func20, Tryz.ntmps20
  go_upto_region 35 with (first
    | (go_at_call 21; refine (HCK.out _).mono ?_; rintro e w1 ⟨rfl, hb⟩; have HX1 := Lib.hid (hb.block _ (blk_lt HX.out) |>.trans HX.out); have HB1 := Lib.hid (HB.out.trans (hb.mono HB.out.size)); obtain ⟨x0, x1, x2⟩ := frcell HX1.out; have HX2 := Lib.hid (fun t cs => blk_alloc HX1.out (.cells cs t)); have HB2 := Lib.hid (fun t cs => HB1.out.alloc HB1.out.size (.cells cs t)); have y0 := fun t cs => (frcell (HX2.out t cs)).1; have y1 := fun t cs => (frcell (HX2.out t cs)).2.1; have y2 := fun t cs => (frcell (HX2.out t cs)).2.2; clear hb)
    | (go_at_call 39; (with_reducible refine (HPP.out _).mono ?_); rintro e w2 ⟨d, A, c, er, rfl, hb, hp⟩; unfold BD.v; have HB3 := Lib.hid (HB1.out.trans (hb.mono HB1.out.size)); have HP := Lib.hid hp; clear hb hp))
  by_cases he : er = 0
  · obtain rfl := he
    go_wp2
    go_ret2
    obtain ⟨hk, hd, hpo, hl⟩ := HP.out (by trivial)
    exact ⟨_, 0, rfl, HB3.out, fun _ => pks_bye d A c (by rw [hk]; decide) hd hpo hl HSS.out⟩
  · have hne : (er != 0) = true := by simpa [bne_iff_ne] using he
    have HE := Lib.hid he
    clear he
    go_wp2
    go_ret2
    exact ⟨_, er, rfl, HB3.out, fun h => absurd h HE.out⟩
set_option maxHeartbeats 4000000 in
set_option maxRecDepth 1000000 in
theorem parse_ask {w : World} (k : Nat) (hk : k = 8 ∨ k = 9 ∨ k = 10 ∨ k = 11) (f : Nat) (hf : f < 16) (s : ByteArray) (hs : s.size ≤ 100000) (hc : chk k f = 0) : Calls Tryz.prog 20 #[.agg #[.int .i64 (k : Nat), .int .i64 (f : Nat), .string s]] w (ParseP w s) := by
  have HCK := Lib.hid (fun W => chk_calls k f (by omega) hf W)
  have HPP := Lib.hid (fun W => ask_calls (w := W) k hk f s hs)
  have q1 : ((k : Int) == 1) = false := by simp; omega
  have q2 : ((k : Int) == 2) = false := by simp; omega
  have q3 : ((k : Int) == 3) = false := by simp; omega
  have q4 : ((k : Int) == 4) = false := by simp; omega
  have q5 : ((k : Int) == 5) = false := by simp; omega
  have q6 : ((k : Int) == 6) = false := by simp; omega
  have q7 : ((k : Int) == 7) = false := by simp; omega
  have q12 : ((k : Int) == 12) = false := by simp; omega
  have q13 : ((k : Int) == 13) = false := by simp; omega
  have q14 : ((k : Int) == 14) = false := by simp; omega
  have q15 : ((k : Int) == 15) = false := by simp; omega
  rw [hc] at HCK
  clear hc hk
  have HSS := Lib.hid hs
  have HX := Lib.hid (heap_alloc_new w (.cells #[.int .i64 (k : Nat), .int .i64 (f : Nat), .string s] 36))
  have HB := Lib.hid (show Below w.heap.size w (w.alloc (.cells #[.int .i64 (k : Nat), .int .i64 (f : Nat), .string s] 36)) from (Below.refl _ _).alloc (Nat.le_refl _) _)
  clear hs
  go_enter Tryz.func20, Tryz.ntmps20
  go_upto_region 35 with (first
    | (go_at_call 21; refine (HCK.out _).mono ?_; rintro e w1 ⟨rfl, hb⟩; have HX1 := Lib.hid (hb.block _ (blk_lt HX.out) |>.trans HX.out); have HB1 := Lib.hid (HB.out.trans (hb.mono HB.out.size)); obtain ⟨x0, x1, x2⟩ := frcell HX1.out; have HX2 := Lib.hid (fun t cs => blk_alloc HX1.out (.cells cs t)); have HB2 := Lib.hid (fun t cs => HB1.out.alloc HB1.out.size (.cells cs t)); have y0 := fun t cs => (frcell (HX2.out t cs)).1; have y1 := fun t cs => (frcell (HX2.out t cs)).2.1; have y2 := fun t cs => (frcell (HX2.out t cs)).2.2; clear hb)
    | (go_at_call 40; (with_reducible refine (HPP.out _).mono ?_); rintro e w2 ⟨V, er, rfl, hb, hp⟩; have HB3 := Lib.hid (HB1.out.trans (hb.mono HB1.out.size)); have HP := Lib.hid hp; clear hb hp))
  by_cases he : er = 0
  · obtain rfl := he
    go_wp2
    go_ret2
    exact ⟨V, 0, rfl, HB3.out, fun _ => HP.out (by trivial)⟩
  · have hne : (er != 0) = true := by simpa [bne_iff_ne] using he
    have HE := Lib.hid he
    clear he
    go_wp2
    go_ret2
    exact ⟨_, er, rfl, HB3.out, fun h => absurd h HE.out⟩
theorem parse_calls {w : World} (k f : Nat) (hk : k < 16) (hf : f < 16) (s : ByteArray) (hs : s.size ≤ 100000) : Calls Tryz.prog 20 #[.agg #[.int .i64 (k : Nat), .int .i64 (f : Nat), .string s]] w (ParseP w s) := by
  rcases chk_2 k f with hc | hc
  · rcases (show k = 0 ∨ k = 1 ∨ k = 2 ∨ k = 3 ∨ k = 4 ∨ k = 5 ∨ k = 6 ∨ k = 7 ∨ (k = 8 ∨ k = 9 ∨ k = 10 ∨ k = 11) ∨ k = 12 ∨ k = 13 ∨ k = 14 ∨ k = 15 by omega) with rfl | rfl | rfl | rfl | rfl | rfl | rfl | rfl | h | rfl | rfl | rfl | rfl
    · exact absurd hc (by unfold chk; simp)
    · exact parse_connect f hf s hs hc
    · exact parse_connack f hf s hs hc
    · exact parse_pub f hf s hs hc
    · exact parse_ack4 f hf s hs hc
    · exact parse_ack5 f hf s hs hc
    · exact parse_ack6 f hf s hs hc
    · exact parse_ack7 f hf s hs hc
    · exact parse_ask k h f hf s hs hc
    · exact parse_ping12 f hf s hs hc
    · exact parse_ping13 f hf s hs hc
    · exact parse_bye14 f hf s hs hc
    · exact parse_bye15 f hf s hs hc
  · exact parse_bad k f hk hf s hc
end Go.Proofs.YtljbchghbpmghaaGreatDoor
