/- Parts of a proof about aliases: E7, E8, E9, E10. -/
import Derived.Test.YtbfgpkogginmjaaGreatDoorZ35
import Derived.Test.YtbfgpkogginmjaaGreatDoorZ36
section
namespace Go.Proofs.YtbfgpkogginmjaaGreatDoor
open Go.RowKit Go.Lib Go.Proofs.YtbfgpkogginmjaaGreatDoorW.PrintWords Go.Proofs.YtbfgpkogginmjaaGreatDoor.PSwitchboardGreat
set_option linter.unusedSectionVars false
variable [LawBase]
set_option linter.unusedVariables false
set_option linter.unusedSimpArgs false
set_option maxRecDepth 1000000
set_option maxHeartbeats 1600000
def alP (a : Nat) : PR := ⟨35, a, ⟨#[]⟩, ⟨#[]⟩⟩
theorem getf_hit (a : Nat) : prop_List_Get.f 2 ([alP a].map PR.m) 35 = some (35, (a : Int), ⟨#[]⟩, ⟨#[]⟩, true) := by
  simp [prop_List_Get.f, prop_List_Get.l0, alP, PR.m, rd_T144]
theorem getf_miss (a : Nat) (k : Int) (h : k ≠ 35) : prop_List_Get.f 2 ([alP a].map PR.m) k = some (0, 0, ⟨#[]⟩, ⟨#[]⟩, false) := by
  have h' : ¬ (35 : Int) = k := fun e => h e.symm
  have hw : wrap64 1 = 1 := by unfold wrap64; omega
  simp [prop_List_Get.f, prop_List_Get.l0, alP, PR.m, rd_T144, h', hw]
theorem get35_calls {w : World} {A : Option Addr} {c a : Nat} (h : PL w A [alP a]) (hc : 1 ≤ c) : Calls Tryz.prog 12 #[.slice A 1 c, .int .i64 35] w (RB (.tuple #[.agg #[.int .i64 35, .int .u32 (a : Nat), .string ⟨#[]⟩, .string ⟨#[]⟩], .bool true]) w) := prop_List_Get.calls 2 A c ([alP a].map PR.m) 35 _ _ _ _ _ w h hc (getf_hit a)
theorem getmiss_calls {w : World} {A : Option Addr} {c a : Nat} (k : Int) (hk : k ≠ 35) (h : PL w A [alP a]) (hc : 1 ≤ c) : Calls Tryz.prog 12 #[.slice A 1 c, .int .i64 k] w (RB (.tuple #[prop0, .bool false]) w) := prop_List_Get.calls 2 A c ([alP a].map PR.m) k _ _ _ _ _ w h hc (getf_miss a k hk)
def pbV (A : Option Addr) (c : Nat) (t : ByteArray) : Value := .agg #[.bool false, .bool false, .int .u8 0, .int .u32 0, .slice A 1 c, .string t, .string ⟨#[]⟩]
def SetNP (w : World) (am : Nat) (AL : List (Nat × ByteArray)) (n : ByteArray) (e : Ending) (w' : World) : Prop := e = .returned (.tuple #[.string n, .int .i64 0]) ∧ w'.heap[am]? = some (amO AL) ∧ Chg (fun k => k = am) w w'
theorem tname_set {w : World} {tb am : Nat} {AL : List (Nat × ByteArray)} {A : Option Addr} {c a : Nat} {n : ByteArray} (ht : w.heap[tb]? = some (tabO am)) (hm : w.heap[am]? = some (amO AL)) (hp : PL w A [alP a]) (hc : 1 ≤ c) (ha : 1 ≤ a ∧ a ≤ 9) (hn : NmB n) (h0 : 0 < n.size) (h8 : n.size ≤ 8) : Calls Tryz.prog 151 #[.pointer (some ⟨tb, 0, none⟩), pbV A c n] w (SetNP w am (ptL AL a n) n) := by
  unfold pbV
  have hb1 := bel1 w (Obj.cells #[.bool false, .bool false, .int .u8 0, .int .u32 0, .slice A 1 c, .string n, .string ⟨#[]⟩] 42)
  have HX := Lib.hid (heap_alloc_new w (Obj.cells #[.bool false, .bool false, .int .u8 0, .int .u32 0, .slice A 1 c, .string n, .string ⟨#[]⟩] 42))
  have HB := Lib.hid hb1
  have HG := Lib.hid (get35_calls (c := c) (hp.to hb1) hc)
  have HTN := Lib.hid (fun W => tname_calls n W h0 h8 hn)
  have HT := Lib.hid (blk_below ht hb1)
  have HM := Lib.hid (blk_below hm hb1)
  have hem := isE n h0
  have d1 : ((a : Int) == 0) = false := beq_eq_false_iff_ne.2 (by omega)
  have d2 : decide ((9 : Int) < (a : Int)) = false := decide_eq_false (by omega)
  unfold RB at HG
  clear ht hm hp hc ha hn h0 h8 hb1
  go_enter Tryz.func151, Tryz.ntmps151
  go_upto_region 1 with (fail)
  generalize (w.alloc (Obj.cells #[.bool false, .bool false, .int .u8 0, .int .u32 0, .slice A 1 c, .string n, .string ⟨#[]⟩] 42)) = X at HX HB HG HT HM ⊢
  obtain ⟨b, HBE⟩ : ∃ b, Hid (b = w.heap.size) := ⟨_, Lib.hid rfl⟩
  rw [← HBE.out] at HX ⊢
  obtain ⟨x0, x1, x2, x3, x4, x5, x6⟩ := sevencell HX.out
  go_upto_region 2 with (first
    | (go_at_call 12; (with_reducible refine (HG.out).mono ?_); rintro e w2 ⟨rfl, hb⟩; have HX2 := Lib.hid (blk_below HX.out hb); have HB2 := Lib.hid (Below.into HB.out hb); have HT2 := Lib.hid (blk_below HT.out hb); have HM2 := Lib.hid (blk_below HM.out hb); clear hb))
  have hk := bel1 w2 (Obj.cells #[.int .i64 35, .int .u32 (a : Nat), .string ⟨#[]⟩, .string ⟨#[]⟩] 38)
  have HP3 := Lib.hid (heap_alloc_new w2 (Obj.cells #[.int .i64 35, .int .u32 (a : Nat), .string ⟨#[]⟩, .string ⟨#[]⟩] 38))
  have HX3 := Lib.hid (blk_below HX2.out hk)
  have HT3 := Lib.hid (blk_below HT2.out hk)
  have HM3 := Lib.hid (blk_below HM2.out hk)
  have HB3 := Lib.hid (Below.into HB2.out hk)
  clear hk x0 x1 x2 x3 x4 x5 x6 HX HB HG HT HM HX2 HB2 HT2 HM2
  generalize w2.alloc (Obj.cells #[.int .i64 35, .int .u32 (a : Nat), .string ⟨#[]⟩, .string ⟨#[]⟩] 38) = X3 at HP3 HX3 HT3 HM3 HB3 ⊢
  generalize w2.heap.size = d at HP3 ⊢
  obtain ⟨x0, x1, x2, x3, x4, x5, x6⟩ := sevencell HX3.out
  obtain ⟨p0, p1, p2, p3⟩ := fourcell HP3.out
  have ht := HT3.out
  unfold tabO at ht
  obtain ⟨t0, t1⟩ := twocell ht
  clear ht
  go_quiet (fail)
  rename_i nq
  have hk := bel_drewN (w := X3) nq
  have HP4 := Lib.hid (blk_below HP3.out hk)
  have HX4 := Lib.hid (blk_below HX3.out hk)
  have HT4 := Lib.hid (blk_below HT3.out hk)
  have HM4 := Lib.hid (blk_below HM3.out hk)
  have HB4 := Lib.hid (Below.into HB3.out hk)
  clear hk x0 x1 x2 x3 x4 x5 x6 p0 p1 p2 p3 t0 t1 HP3 HX3 HT3 HM3 HB3
  generalize X3.drewN nq = X4 at HP4 HX4 HT4 HM4 HB4 ⊢
  obtain ⟨x0, x1, x2, x3, x4, x5, x6⟩ := sevencell HX4.out
  go_upto_region 13 with (first
    | (go_at_call 98; (with_reducible refine (HTN.out _).mono ?_); rintro e w5 ⟨rfl, hb⟩; have HP5 := Lib.hid (blk_below HP4.out hb); have HX5 := Lib.hid (blk_below HX4.out hb); have HT5 := Lib.hid (blk_below HT4.out hb); have HM5 := Lib.hid (blk_below HM4.out hb); have HB5 := Lib.hid (Below.into HB4.out hb); clear hb))
  clear x0 x1 x2 x3 x4 x5 x6 HP4 HX4 HT4 HM4 HB4
  go_upto_region 14 with (fail)
  obtain ⟨x0, x1, x2, x3, x4, x5, x6⟩ := sevencell HX5.out
  obtain ⟨p0, p1, p2, p3⟩ := fourcell HP5.out
  have ht := HT5.out
  unfold tabO at ht
  obtain ⟨t0, t1⟩ := twocell ht
  clear ht
  have hd := (Below.refl w5.heap.size w5).drew
  have hput := am_put (P := Tryz.prog) (w := w5.drew) (mt := 33) Tryz.underlying33 Tryz.underlying34 (blk_below HM5.out hd) a n
  have HF := Lib.hid (setB_at (w := w5.drew) (amO (ptL AL a n)) (blk_below HM5.out hd))
  have HC := Lib.hid ((Chg.of_below (S := fun k => k = am) (Below.into HB5.out hd)).trans (setB_chg w5.drew am (amO (ptL AL a n))))
  have HXF := Lib.hid (blk_below HX5.out hd)
  have HNE := Lib.hid (show b ≠ am from cm_ne HX5.out HM5.out)
  clear hd
  go_region
  have HXG := Lib.hid ((setB_chg w5.drew am (amO (ptL AL a n))).blk HXF.out HNE.out)
  clear hput x0 x1 x2 x3 x4 x5 x6 p0 p1 p2 p3 t0 t1
  generalize ChangeMaps.setBlock w5.drew am (amO (ptL AL a n)) = X6 at HF HC HXG ⊢
  obtain ⟨x0, x1, x2, x3, x4, x5, x6⟩ := sevencell HXG.out
  go_wp2
  go_ret2
  exact ⟨rfl, HF.out, HC.out⟩
theorem tname_look {w : World} {tb am : Nat} {AL : List (Nat × ByteArray)} {A : Option Addr} {c a : Nat} {n : ByteArray} (ht : w.heap[tb]? = some (tabO am)) (hm : w.heap[am]? = some (amO AL)) (hp : PL w A [alP a]) (hc : 1 ≤ c) (ha : 1 ≤ a ∧ a ≤ 9) (hg : gtL AL a = some n) : Calls Tryz.prog 151 #[.pointer (some ⟨tb, 0, none⟩), pbV A c ⟨#[]⟩] w (RB (.tuple #[.string n, .int .i64 0]) w) := by
  unfold pbV
  have hb1 := bel1 w (Obj.cells #[.bool false, .bool false, .int .u8 0, .int .u32 0, .slice A 1 c, .string ⟨#[]⟩, .string ⟨#[]⟩] 42)
  have HX := Lib.hid (heap_alloc_new w (Obj.cells #[.bool false, .bool false, .int .u8 0, .int .u32 0, .slice A 1 c, .string ⟨#[]⟩, .string ⟨#[]⟩] 42))
  have HB := Lib.hid hb1
  have HG := Lib.hid (get35_calls (c := c) (hp.to hb1) hc)
  have HGT := Lib.hid hg
  have HT := Lib.hid (blk_below ht hb1)
  have HM := Lib.hid (blk_below hm hb1)
  have d1 : ((a : Int) == 0) = false := beq_eq_false_iff_ne.2 (by omega)
  have d2 : decide ((9 : Int) < (a : Int)) = false := decide_eq_false (by omega)
  unfold RB at HG
  clear ht hm hp hc ha hg hb1
  go_enter Tryz.func151, Tryz.ntmps151
  go_upto_region 1 with (fail)
  generalize (w.alloc (Obj.cells #[.bool false, .bool false, .int .u8 0, .int .u32 0, .slice A 1 c, .string ⟨#[]⟩, .string ⟨#[]⟩] 42)) = X at HX HB HG HT HM ⊢
  obtain ⟨b, HBE⟩ : ∃ b, Hid (b = w.heap.size) := ⟨_, Lib.hid rfl⟩
  rw [← HBE.out] at HX ⊢
  obtain ⟨x0, x1, x2, x3, x4, x5, x6⟩ := sevencell HX.out
  go_upto_region 2 with (first
    | (go_at_call 12; (with_reducible refine (HG.out).mono ?_); rintro e w2 ⟨rfl, hb⟩; have HX2 := Lib.hid (blk_below HX.out hb); have HB2 := Lib.hid (Below.into HB.out hb); have HT2 := Lib.hid (blk_below HT.out hb); have HM2 := Lib.hid (blk_below HM.out hb); clear hb))
  have hk := bel1 w2 (Obj.cells #[.int .i64 35, .int .u32 (a : Nat), .string ⟨#[]⟩, .string ⟨#[]⟩] 38)
  have HP3 := Lib.hid (heap_alloc_new w2 (Obj.cells #[.int .i64 35, .int .u32 (a : Nat), .string ⟨#[]⟩, .string ⟨#[]⟩] 38))
  have HX3 := Lib.hid (blk_below HX2.out hk)
  have HT3 := Lib.hid (blk_below HT2.out hk)
  have HM3 := Lib.hid (blk_below HM2.out hk)
  have HB3 := Lib.hid (Below.into HB2.out hk)
  clear hk x0 x1 x2 x3 x4 x5 x6 HX HB HG HT HM HX2 HB2 HT2 HM2
  generalize w2.alloc (Obj.cells #[.int .i64 35, .int .u32 (a : Nat), .string ⟨#[]⟩, .string ⟨#[]⟩] 38) = X3 at HP3 HX3 HT3 HM3 HB3 ⊢
  generalize w2.heap.size = d at HP3 ⊢
  obtain ⟨x0, x1, x2, x3, x4, x5, x6⟩ := sevencell HX3.out
  obtain ⟨p0, p1, p2, p3⟩ := fourcell HP3.out
  have ht := HT3.out
  unfold tabO at ht
  obtain ⟨t0, t1⟩ := twocell ht
  clear ht
  go_quiet (fail)
  rename_i nq
  have hk := bel_drewN (w := X3) nq
  have HP4 := Lib.hid (blk_below HP3.out hk)
  have HX4 := Lib.hid (blk_below HX3.out hk)
  have HT4 := Lib.hid (blk_below HT3.out hk)
  have HM4 := Lib.hid (blk_below HM3.out hk)
  have HB4 := Lib.hid (Below.into HB3.out hk)
  clear hk x0 x1 x2 x3 x4 x5 x6 p0 p1 p2 p3 t0 t1 HP3 HX3 HT3 HM3 HB3
  generalize X3.drewN nq = X4 at HP4 HX4 HT4 HM4 HB4 ⊢
  obtain ⟨x0, x1, x2, x3, x4, x5, x6⟩ := sevencell HX4.out
  obtain ⟨p0, p1, p2, p3⟩ := fourcell HP4.out
  have ht := HT4.out
  unfold tabO at ht
  obtain ⟨t0, t1⟩ := twocell ht
  clear ht
  have hlk : (Instr.lookup 33 (.map (some am)) (.int .u32 (a : Nat)) true).run Tryz.prog X4.drew = .ok (.tuple #[.string n, .bool true]) X4.drew := by
    have h := am_look (P := Tryz.prog) (w := X4.drew) (mt := 33) Tryz.underlying33 Tryz.underlying34 (by simp [Tryz.zeroValue9]) (blk_below HM4.out (Below.refl X4.heap.size X4).drew) a true
    rw [HGT.out] at h
    exact h
  have HBF := Lib.hid (Below.into HB4.out (Below.refl X4.heap.size X4).drew)
  go_upto_region 7 with (fail)
  go_region
  go_wp2
  go_ret2
  exact ⟨rfl, HBF.out⟩
theorem al_cells {w : World} {A : Option Addr} {a : Nat} (h : PL w A [alP a]) : ∃ ad, A = some ad ∧ w.cell? ad = some (.int .i64 35) ∧ w.cell? ⟨ad.block, ad.off + 1, none⟩ = some (.int .u32 (a : Nat)) ∧ w.cell? ⟨ad.block, ad.off + 2, none⟩ = some (.string ⟨#[]⟩) ∧ w.cell? ⟨ad.block, ad.off + 3, none⟩ = some (.string ⟨#[]⟩) := by
  obtain ⟨ad, hA, e0, e1, e2, e3⟩ := at_T144 h 0 (by decide) (by show (0 : Int) < ((1 : Nat) : Int); decide)
  exact ⟨ad, hA, e0, e1, e2, e3⟩
theorem rof_calls {w : World} {A : Option Addr} {c a : Nat} {t n f : ByteArray} (hp : PL w A [alP a]) : Calls Tryz.prog 153 #[pbV A c t, .string n, .string f, .int .i64 0] w (RB (msg f n) w) := by
  obtain ⟨ad, rfl, c0, c1, c2, c3⟩ := al_cells hp
  unfold pbV
  have hb1 : Below w.heap.size w ((w.alloc (Obj.cells #[.bool false, .bool false, .int .u8 0, .int .u32 0, .slice (some ad) 1 c, .string t, .string ⟨#[]⟩] 42)).alloc (Obj.cells #[.string ⟨#[]⟩, .int .i64 0, .int .u8 0, .bool false, .slice none 0 0, .string ⟨#[]⟩, .string ⟨#[]⟩] 278)) := bel_alloc (bel1 w (Obj.cells #[.bool false, .bool false, .int .u8 0, .int .u32 0, .slice (some ad) 1 c, .string t, .string ⟨#[]⟩] 42))
  have e0 := (hb1.cell (World.block_lt_of_cell? w _ c0)).trans c0
  have e1 := (hb1.cell (World.block_lt_of_cell? w _ c1)).trans c1
  have e2 := (hb1.cell (World.block_lt_of_cell? w _ c2)).trans c2
  have e3 := (hb1.cell (World.block_lt_of_cell? w _ c3)).trans c3
  have HX := Lib.hid (show ((w.alloc (Obj.cells #[.bool false, .bool false, .int .u8 0, .int .u32 0, .slice (some ad) 1 c, .string t, .string ⟨#[]⟩] 42)).alloc (Obj.cells #[.string ⟨#[]⟩, .int .i64 0, .int .u8 0, .bool false, .slice none 0 0, .string ⟨#[]⟩, .string ⟨#[]⟩] 278)).heap[w.heap.size]? = some (Obj.cells #[.bool false, .bool false, .int .u8 0, .int .u32 0, .slice (some ad) 1 c, .string t, .string ⟨#[]⟩] 42) from blk_alloc (heap_alloc_new w (Obj.cells #[.bool false, .bool false, .int .u8 0, .int .u32 0, .slice (some ad) 1 c, .string t, .string ⟨#[]⟩] 42)) (Obj.cells #[.string ⟨#[]⟩, .int .i64 0, .int .u8 0, .bool false, .slice none 0 0, .string ⟨#[]⟩, .string ⟨#[]⟩] 278))
  have HM := Lib.hid (show ((w.alloc (Obj.cells #[.bool false, .bool false, .int .u8 0, .int .u32 0, .slice (some ad) 1 c, .string t, .string ⟨#[]⟩] 42)).alloc (Obj.cells #[.string ⟨#[]⟩, .int .i64 0, .int .u8 0, .bool false, .slice none 0 0, .string ⟨#[]⟩, .string ⟨#[]⟩] 278)).heap[w.heap.size + 1]? = some (Obj.cells #[.string ⟨#[]⟩, .int .i64 0, .int .u8 0, .bool false, .slice none 0 0, .string ⟨#[]⟩, .string ⟨#[]⟩] 278) from blk_top (by rw [World.size_alloc]))
  have HB := Lib.hid hb1
  have HLB := Lib.hid (show w.heap.size ≤ w.heap.size + 1 from Nat.le_succ _)
  clear hp hb1 c0 c1 c2 c3
  go_enter Tryz.func153, Tryz.ntmps153
  go_upto_region 1 with (fail)
  generalize ((w.alloc (Obj.cells #[.bool false, .bool false, .int .u8 0, .int .u32 0, .slice (some ad) 1 c, .string t, .string ⟨#[]⟩] 42)).alloc (Obj.cells #[.string ⟨#[]⟩, .int .i64 0, .int .u8 0, .bool false, .slice none 0 0, .string ⟨#[]⟩, .string ⟨#[]⟩] 278)) = X at HX HM HB e0 e1 e2 e3 ⊢
  generalize w.heap.size + 1 = m at HM HLB ⊢
  obtain ⟨b, HBE⟩ : ∃ b, Hid (b = w.heap.size) := ⟨_, Lib.hid rfl⟩
  rw [← HBE.out] at HX ⊢
  obtain ⟨x0, x1, x2, x3, x4, x5, x6⟩ := sevencell HX.out
  go_upto_region 3 with (fail)
  refine wp_loop_rounds 2 ?_
  rw [rounds_succ]
  go_upto_region 5 with (fail)
  have hk := bel1 X (Obj.cells #[.int .i64 35, .int .u32 (a : Nat), .string ⟨#[]⟩, .string ⟨#[]⟩] 38)
  have HP3 := Lib.hid (heap_alloc_new X (Obj.cells #[.int .i64 35, .int .u32 (a : Nat), .string ⟨#[]⟩, .string ⟨#[]⟩] 38))
  have HX3 := Lib.hid (blk_below HX.out hk)
  have HM3 := Lib.hid (blk_below HM.out hk)
  have HB3 := Lib.hid (Below.into HB.out hk)
  clear hk x0 x1 x2 x3 x4 x5 x6 HX HB HM e0 e1 e2 e3
  generalize X.alloc (Obj.cells #[.int .i64 35, .int .u32 (a : Nat), .string ⟨#[]⟩, .string ⟨#[]⟩] 38) = X3 at HP3 HX3 HM3 HB3 ⊢
  generalize X.heap.size = d at HP3 ⊢
  obtain ⟨p0, p1, p2, p3⟩ := fourcell HP3.out
  go_wp2
  rw [rounds_succ]
  obtain ⟨x0, x1, x2, x3, x4, x5, x6⟩ := sevencell HX3.out
  obtain ⟨m0, m1, m2, m3, m4, m5, m6⟩ := sevencell HM3.out
  have f0 := blk_frozen HM3.out 0
  have f1 := blk_frozen HM3.out 1
  have f2 := blk_frozen HM3.out 2
  have f3 := blk_frozen HM3.out 3
  have f4 := blk_frozen HM3.out 4
  have f5 := blk_frozen HM3.out 5
  have f6 := blk_frozen HM3.out 6
  go_wp2
  obtain ⟨WF, hWF, hF, hC⟩ := set7 HM3.out (.string f) (.int .i64 0) (.int .u8 0) (.bool false) (.slice none 0 0) (.string n) (.string ⟨#[]⟩)
  rw [← hWF]
  have HBF := Lib.hid (show Below w.heap.size w WF from HB3.out.trans (hC.to_below HB3.out.size (fun k hk => hk ▸ HLB.out)))
  clear m0 m1 m2 m3 m4 m5 m6 x0 x1 x2 x3 x4 x5 x6 p0 p1 p2 p3 f0 f1 f2 f3 f4 f5 f6 hC hWF
  exact bodyPost_ret (v := msg f n) (by simp [results, Tryz.results153, go_sem, sevencell hF, msg]) rfl ⟨rfl, HBF.out⟩
theorem PO.keep {w w' : World} {B : Nat} {ok : Nat → Prop} {v : Value} {L : List PR} {am k0 : Nat} {es : Array MapEntry} (h : PO w B ok v L) (hc : Chg (fun k => k = am) w w') (hm : w.heap[am]? = some (.map es k0)) : PO w' B ok v L := by
  refine Kd.R_mono (Kd.R_step (Kd.R_bound h) (fun k hk hlt => hc.block k hlt (fun hs => ?_))) (fun k hk => hk.1)
  obtain ⟨q, hq, cells, hcl⟩ := hk.2.2.2
  have hs : k = am := hs
  rw [hs, hm] at hcl
  cases hcl
theorem PO.pl {w : World} {B : Nat} {ok : Nat → Prop} {A : Option Addr} {c a : Nat} (h : PO w B ok (.slice A 1 c) [alP a]) : PL w A [alP a] ∧ 1 ≤ c := by
  obtain ⟨A', c', h1, h2, h3⟩ := h.form
  injection h1 with e1 _ e2
  subst e1
  subst e2
  exact ⟨h3, h2⟩
theorem Held.init {w : World} {L M : List (Nat × Obj)} (h : Held w (L ++ M)) : Held w L := h.sub (List.sublist_append_left L M)
theorem HasM.chg {w w' : World} {am k0 : Nat} {es : Array MapEntry} (h : HasM w) (hc : Chg (fun k => k = am) w w') (hm : w.heap[am]? = some (.map es k0)) : HasM w' := by
  obtain ⟨m, hcell⟩ := h
  refine ⟨m, hc.cellOf hcell (fun e => ?_)⟩
  have e : 0 = am := e
  subst e
  unfold World.cell? at hcell
  rw [hm] at hcell
  simp at hcell
theorem publish_ex {w : World} {L : List (Nat × Obj)} {hb l rd tb am B0 c a k s inn win que tp sp pk rt nx hs y yn yh srt snx shs sx : Nat} {ok : Nat → Prop} {A : Option Addr} {lo : Nat → Nat} {es : Array MapEntry} {AL AL1 : List (Nat × ByteArray)} {t n : ByteArray} (H : Held w L) (hpo : PO w B0 ok (.slice A 1 c) [alP a]) {i0 il ia i2 is iq j0 j1 j2 j3 j4 j5 j6 j7 j8 : Nat}
    (hl : L[il]? = some (l, linO 0 rd tb pubS true)) (hia : L[ia]? = some (am, amO AL))
    (HNM : ∀ W, Held W L → PO W B0 ok (.slice A 1 c) [alP a] → Calls Tryz.prog 151 #[.pointer (some ⟨tb, 0, none⟩), pbV A c t] W (SetNP W am AL1 n))
    (g0 : (L.set ia (am, amO AL1))[i0]? = some (hb, brO lo)) (gl : (L.set ia (am, amO AL1))[il]? = some (l, linO 0 rd tb pubS true)) (h2 : (L.set ia (am, amO AL1))[i2]? = some (lo 3, .map es k)) (hes : FStr es ⟨#[115, 117, 98]⟩ (.pointer (some ⟨s, 0, none⟩))) (hs' : (L.set ia (am, amO AL1))[is]? = some (s, sesO subS inn win que)) (hq : (L.set ia (am, amO AL1))[iq]? = some (que, queO (.slice none 0 0)))
    (t0 : (L.set ia (am, amO AL1))[j0]? = some (lo 5 + 10, tblO tp sp pk)) (t1 : (L.set ia (am, amO AL1))[j1]? = some (tp, trieO rt 1)) (t2 : (L.set ia (am, amO AL1))[j2]? = some (rt, nodeO nx hs)) (t3 : (L.set ia (am, amO AL1))[j3]? = some (nx, .map #[⟨.string ⟨#[35]⟩, .pointer (some ⟨y, 0, none⟩), 0⟩] 1)) (t4 : (L.set ia (am, amO AL1))[j4]? = some (y, nodeO yn yh)) (t5 : (L.set ia (am, amO AL1))[j5]? = some (yh, .map #[⟨.string ⟨#[115, 117, 98]⟩, keptV, 0⟩] 1)) (t6 : (L.set ia (am, amO AL1))[j6]? = some (sp, trieO srt 0)) (t7 : (L.set ia (am, amO AL1))[j7]? = some (srt, nodeO snx shs)) (t8 : (L.set ia (am, amO AL1))[j8]? = some (snx, .map #[] 0)) (hM : HasM w) (hn : NmB n) (hn0 : 0 < n.size) (hz : n.size ≤ 100) :
    Calls Tryz.prog 110 #[.pointer (some ⟨hb, 0, none⟩), .pointer (some ⟨l, 0, none⟩), .pointer (some ⟨sx, 0, none⟩), pbV A c t] w (OfferBP (.tuple #[]) (L.set ia (am, amO AL1)) iq que pubS n) := by
  obtain ⟨L1, HL1⟩ : ∃ L1, Hid (L1 = L.set ia (am, amO AL1)) := ⟨_, Lib.hid rfl⟩
  rw [← HL1.out] at g0 gl h2 hs' hq t0 t1 t2 t3 t4 t5 t6 t7 t8 ⊢
  unfold pbV at HNM ⊢
  have hb1 : Below w.heap.size w ((w.alloc (Obj.cells #[.bool false, .bool false, .int .u8 0, .int .u32 0, .slice A 1 c, .string t, .string ⟨#[]⟩] 42)).drew) := (bel1 w (Obj.cells #[.bool false, .bool false, .int .u8 0, .int .u32 0, .slice A 1 c, .string t, .string ⟨#[]⟩] 42)).drew
  have HIA := Lib.hid hia
  have HGL := Lib.hid gl
  have HG0 := Lib.hid g0
  have HLI := Lib.hid (show i0 < L1.length from (List.getElem?_eq_some_iff.1 g0).1)
  have HLQ := Lib.hid (show iq < L1.length from (List.getElem?_eq_some_iff.1 hq).1)
  have HXL := Lib.hid (show iq ≠ il from idx_obj hq gl (cells_ne (by decide)))
  have HX0 := Lib.hid (show iq ≠ i0 from idx_obj hq g0 (cells_ne (by decide)))
  have HLA := Lib.hid (show ia < L.length from (List.getElem?_eq_some_iff.1 hia).1)
  have HH := Lib.hid (show Held ((w.alloc (Obj.cells #[.bool false, .bool false, .int .u8 0, .int .u32 0, .slice A 1 c, .string t, .string ⟨#[]⟩] 42)).drew) (L ++ [(w.heap.size, (Obj.cells #[.bool false, .bool false, .int .u8 0, .int .u32 0, .slice A 1 c, .string t, .string ⟨#[]⟩] 42))]) from (H.alloc (Obj.cells #[.bool false, .bool false, .int .u8 0, .int .u32 0, .slice A 1 c, .string t, .string ⟨#[]⟩] 42) rfl).below (Below.refl _ _).drew)
  have HX := Lib.hid (show ((w.alloc (Obj.cells #[.bool false, .bool false, .int .u8 0, .int .u32 0, .slice A 1 c, .string t, .string ⟨#[]⟩] 42)).drew).heap[w.heap.size]? = some (Obj.cells #[.bool false, .bool false, .int .u8 0, .int .u32 0, .slice A 1 c, .string t, .string ⟨#[]⟩] 42) from heap_alloc_new w (Obj.cells #[.bool false, .bool false, .int .u8 0, .int .u32 0, .slice A 1 c, .string t, .string ⟨#[]⟩] 42))
  have HPO := Lib.hid (PO.below hpo hb1)
  have HMM := Lib.hid (hM.to hb1)
  have HNA := Lib.hid (HNM ((w.alloc (Obj.cells #[.bool false, .bool false, .int .u8 0, .int .u32 0, .slice A 1 c, .string t, .string ⟨#[]⟩] 42)).drew) HH.out.init HPO.out)
  have HLN := Lib.hid (HH.out.get il (app_get hl))
  have HAC := Lib.hid (fun W x (hW : Held W (L1 ++ [x])) (hm : HasM W) => accept_calls (f := pubS) hW (app_get g0) (app_get h2) hes (app_get hs') (app_get hq) (app_get t0) (app_get t1) (app_get t2) (app_get t3) (app_get t4) (app_get t5) (app_get t6) (app_get t7) (app_get t8) hm hn hn0 hz)
  unfold SetNP at HNA
  unfold OfferBP msg at HAC
  clear H hpo hl hia HNM g0 gl h2 hes hs' hq t0 t1 t2 t3 t4 t5 t6 t7 t8 hM hn hn0 hz hb1
  go_enter Tryz.func110, Tryz.ntmps110
  go_upto_region 1 with (fail)
  obtain ⟨x0, x1, x2, x3, x4, x5, x6⟩ := sevencell HX.out
  obtain ⟨l0, l1, l2, l3, l4, l5⟩ := sixcell HLN.out
  go_region_held3 (fun w' => w'.cell? ⟨l, 2, none⟩ = some (.pointer (some ⟨tb, 0, none⟩)) ∧ w'.cell? ⟨w.heap.size, 0, none⟩ = some (.bool false) ∧ w'.cell? ⟨w.heap.size, 1, none⟩ = some (.bool false) ∧ w'.cell? ⟨w.heap.size, 2, none⟩ = some (.int .u8 0) ∧ w'.cell? ⟨w.heap.size, 3, none⟩ = some (.int .u32 0) ∧ w'.cell? ⟨w.heap.size, 4, none⟩ = some (.slice A 1 c) ∧ w'.cell? ⟨w.heap.size, 5, none⟩ = some (.string t) ∧ w'.cell? ⟨w.heap.size, 6, none⟩ = some (.string ⟨#[]⟩)) (first | exact ⟨l2, x0, x1, x2, x3, x4, x5, x6⟩ | exact ⟨m2, y0, y1, y2, y3, y4, y5, y6⟩ | go_keep) (first
    | (go_at_call 151; (with_reducible refine (HNA.out).mono ?_); rintro e w2 ⟨rfl, hma, hch⟩; have HPO2 := Lib.hid (HPO.out.keep hch (HH.out.get ia (app_get HIA.out))); have HH2 := Lib.hid (show Held w2 (L1 ++ [(w.heap.size, (Obj.cells #[.bool false, .bool false, .int .u8 0, .int .u32 0, .slice A 1 c, .string t, .string ⟨#[]⟩] 42))]) from by have h := HH.out.set ia (app_get HIA.out) hch hma; rw [set_app HLA.out, ← HL1.out] at h; exact h); have HX2 := Lib.hid (HH2.out.get L1.length (app_new 0 rfl rfl)); obtain ⟨y0, y1, y2, y3, y4, y5, y6⟩ := sevencell HX2.out; obtain ⟨m0, m1, m2, m3, m4, m5⟩ := sixcell (HH2.out.get il (app_get HGL.out)); have HMM2 := Lib.hid (HMM.out.chg hch (HH.out.get ia (app_get HIA.out))); clear hma hch))
  clear x0 x1 x2 x3 x4 x5 x6 l0 l1 l2 l3 l4 l5 m0 m1 m2 m3 m4 m5 HX HPO HMM HNA HLN HH
  have HGM := Lib.hid (getmiss_calls (w := w2) (c := c) 11 (by decide) (PO.pl HPO2.out).1 (PO.pl HPO2.out).2)
  unfold RB prop0 at HGM
  go_upto_region 11 with (first
    | (go_at_call 12; (with_reducible refine (HGM.out).mono ?_); rintro e w3 ⟨rfl, hb⟩; have hk : Below w2.heap.size w2 ((w3.alloc (Obj.cells #[.int .i64 0, .int .u32 0, .string ⟨#[]⟩, .string ⟨#[]⟩] 38)).drew) := Below.drew (bel_alloc hb); have HH4 := Lib.hid (HH2.out.below hk); have HX4 := Lib.hid (blk_below HX2.out hk); have HPO4 := Lib.hid (PO.below HPO2.out hk); have HMM4 := Lib.hid (HMM2.out.to hk); have hxx := blk_below HX2.out (bel_alloc (o := (Obj.cells #[.int .i64 0, .int .u32 0, .string ⟨#[]⟩, .string ⟨#[]⟩] 38)) hb); clear y0 y1 y2 y3 y4 y5 y6; obtain ⟨y0, y1, y2, y3, y4, y5, y6⟩ := sevencell hxx; clear hxx hk hb))
  clear y0 y1 y2 y3 y4 y5 y6 HH2 HX2 HPO2 HMM2 HGM
  obtain ⟨x0, x1, x2, x3, x4, x5, x6⟩ := sevencell HX4.out
  obtain ⟨l0, l1, l2, l3, l4, l5⟩ := sixcell (HH4.out.get il (app_get HGL.out))
  obtain ⟨b5, b6, b7, b8, b9, b10, b11, b12, b13, b3, b4, b1, b0⟩ := brcells (HH4.out.get i0 (app_get HG0.out))
  clear b5 b6 b7 b8 b9 b10 b11 b12 b3 b4 b1 b0 l0 l1 l2 l4 l5
  have HRO := Lib.hid (rof_calls (c := c) (t := t) (n := n) (f := pubS) (PO.pl HPO4.out).1)
  unfold pbV RB msg at HRO
  go_region_held3 (fun w' => w'.cell? ⟨l, 3, none⟩ = some (.string pubS) ∧ w'.cell? ⟨hb, 13, none⟩ = some (.int .i64 0) ∧ w'.cell? ⟨w.heap.size, 0, none⟩ = some (.bool false) ∧ w'.cell? ⟨w.heap.size, 1, none⟩ = some (.bool false) ∧ w'.cell? ⟨w.heap.size, 2, none⟩ = some (.int .u8 0) ∧ w'.cell? ⟨w.heap.size, 3, none⟩ = some (.int .u32 0) ∧ w'.cell? ⟨w.heap.size, 4, none⟩ = some (.slice A 1 c) ∧ w'.cell? ⟨w.heap.size, 5, none⟩ = some (.string t) ∧ w'.cell? ⟨w.heap.size, 6, none⟩ = some (.string ⟨#[]⟩)) (first | exact ⟨l3, b13, x0, x1, x2, x3, x4, x5, x6⟩ | exact ⟨m3, c13, y0, y1, y2, y3, y4, y5, y6⟩ | exact ⟨o3, d13, z0, z1, z2, z3, z4, z5, z6⟩ | go_keep) (first
    | (go_at_call 153; (with_reducible refine (HRO.out).mono ?_); rintro e w5 ⟨rfl, hb⟩; have HH5 := Lib.hid (HH4.out.below hb); have HMM5 := Lib.hid (HMM4.out.to hb); obtain ⟨y0, y1, y2, y3, y4, y5, y6⟩ := sevencell (blk_below HX4.out hb); obtain ⟨m0, m1, m2, m3, m4, m5⟩ := sixcell (HH5.out.get il (app_get HGL.out)); have c13 := (brcells (HH5.out.get i0 (app_get HG0.out))).2.2.2.2.2.2.2.2.1; clear m0 m1 m2 m4 m5 hb)
    | (go_at_call 145; (with_reducible refine (HAC.out _ _ HH5.out HMM5.out).mono ?_); rintro e w6 ⟨mb, cc, rfl, hc, hr, hh⟩; have HCC := Lib.hid hc; have HRR := Lib.hid hr; have HH6 := Lib.hid (show Held w6 ((L1.set iq (que, queO (.slice (some ⟨mb, 0, none⟩) 1 cc))) ++ [(w.heap.size, (Obj.cells #[.bool false, .bool false, .int .u8 0, .int .u32 0, .slice A 1 c, .string t, .string ⟨#[]⟩] 42))]) from by have h := hh; rw [set_app HLQ.out] at h; exact h); have HX6 := Lib.hid (HH6.out.get L1.length (app_new 0 (by rw [List.length_set]) rfl)); obtain ⟨z0, z1, z2, z3, z4, z5, z6⟩ := sevencell HX6.out; obtain ⟨o0, o1, o2, o3, o4, o5⟩ := sixcell (HH6.out.get il (app_get (set_other HGL.out HXL.out))); have d13 := (brcells (HH6.out.get i0 (app_get (set_other HG0.out HX0.out)))).2.2.2.2.2.2.2.2.1; clear o0 o1 o2 o4 o5 hc hr hh))
  clear x0 x1 x2 x3 x4 x5 x6 y0 y1 y2 y3 y4 y5 y6 l3 b13 m3 c13 o3 d13 HAC HRO
  go_wp2
  go_end0
  exact ⟨mb, cc, rfl, HCC.out, HRR.out, HH6.out.init⟩
def z74 : Value := .agg #[.bool false, .int .u32 0, .slice none 0 0, .string ⟨#[]⟩, .bool false, .slice none 0 0, .string ⟨#[]⟩, .string ⟨#[]⟩, .int .u8 0, .bool false, .bool false, .bool false, .string ⟨#[]⟩, .string ⟨#[]⟩]
theorem ta45_74 (u : Value) (w : World) : (Instr.typeAssert (.iface 45 u) 81 74 true).run Tryz.prog w = .ok (.tuple #[z74, .bool false]) w := by kernel_rfl
theorem ta88_74 (u : Value) (w : World) : (Instr.typeAssert (.iface 88 u) 81 74 true).run Tryz.prog w = .ok (.tuple #[z74, .bool false]) w := by kernel_rfl
theorem ta45_45 (u : Value) (w : World) : (Instr.typeAssert (.iface 45 u) 81 45 true).run Tryz.prog w = .ok (.tuple #[u, .bool true]) w := by kernel_rfl
theorem frame_45 {w : World} {L : List (Nat × Obj)} {hb l rd tb il k f : Nat} {id : Int} {cl B : ByteArray} (H : Held w L) (hM : HasM w) (hl : L[il]? = some (l, linO id rd tb cl true)) (Q : World → Value → Prop) (P1 : World → Prop)
    (aP : ∀ W, HasM W → Calls Tryz.prog 50 #[fr k f B] W (fun e w' => ∃ u, e = .returned (.tuple #[.iface 45 u, .int .i64 0]) ∧ Q w' u ∧ Below W.heap.size W w'))
    (aQ : ∀ W W' u, Q W u → Below W.heap.size W W' → Q W' u)
    (aR : ∀ W u, Held W L → HasM W → Q W u → Calls Tryz.prog 75 #[.pointer (some ⟨hb, 0, none⟩), .pointer (some ⟨l, 0, none⟩), .iface 45 u] W (RetP (.tuple #[]) P1))
    (aL : ∀ W, P1 W → W.heap[l]? = some (linO id rd tb cl true)) (aS : ∀ W W', P1 W → Below W.heap.size W W' → P1 W') :
    Calls Tryz.prog 45 #[.pointer (some ⟨hb, 0, none⟩), .pointer (some ⟨l, 0, none⟩), fr k f B] w (RetP (.tuple #[]) P1) := by
  unfold fr at aP ⊢
  have HX := Lib.hid (heap_alloc_new w (Obj.cells #[.int .i64 (k : Nat), .int .i64 (f : Nat), .string B] 128))
  have HH := Lib.hid (H.below (bel1 w (Obj.cells #[.int .i64 (k : Nat), .int .i64 (f : Nat), .string B] 128)))
  have HMM := Lib.hid (hM.to (bel1 w (Obj.cells #[.int .i64 (k : Nat), .int .i64 (f : Nat), .string B] 128)))
  have HP := Lib.hid aP
  have HQ := Lib.hid aQ
  have HR := Lib.hid aR
  have HL := Lib.hid aL
  have HS := Lib.hid aS
  have HLI := Lib.hid hl
  unfold RetP at HR
  clear H hM hl aP aQ aR aL aS
  go_enter Tryz.func45, Tryz.ntmps45
  go_upto_region 1 with (fail)
  generalize w.alloc (Obj.cells #[.int .i64 (k : Nat), .int .i64 (f : Nat), .string B] 128) = X at HX HH HMM ⊢
  generalize w.heap.size = b at HX ⊢
  obtain ⟨x0, x1, x2⟩ := frcell HX.out
  go_upto_region 4 with (first
    | (go_at_call 50; (with_reducible refine (HP.out _ HMM.out).mono ?_); rintro e w2 ⟨u, rfl, hq, hb⟩; have HQ2 := Lib.hid hq; have HH2 := Lib.hid (HH.out.below hb); have HM2 := Lib.hid (HMM.out.to hb); clear hq hb))
  clear x0 x1 x2
  have hta := ta45_74 u w2
  unfold z74 at hta
  go_upto_region 7 with (fail)
  clear hta
  have hz := bel1 w2 (Obj.cells #[.bool false, .int .u32 0, .slice none 0 0, .string ⟨#[]⟩, .bool false, .slice none 0 0, .string ⟨#[]⟩, .string ⟨#[]⟩, .int .u8 0, .bool false, .bool false, .bool false, .string ⟨#[]⟩, .string ⟨#[]⟩] 74)
  have HH3 := Lib.hid (HH2.out.below hz)
  have HM3 := Lib.hid (HM2.out.to hz)
  have HQ3 := Lib.hid (HQ.out _ _ _ HQ2.out hz)
  clear hz HH HMM HQ2 HH2 HM2
  generalize w2.alloc (Obj.cells #[.bool false, .int .u32 0, .slice none 0 0, .string ⟨#[]⟩, .bool false, .slice none 0 0, .string ⟨#[]⟩, .string ⟨#[]⟩, .int .u8 0, .bool false, .bool false, .bool false, .string ⟨#[]⟩, .string ⟨#[]⟩] 74) = X3 at HH3 HM3 HQ3 ⊢
  obtain ⟨l0, l1, l2, l3, l4, l5⟩ := sixcell (HH3.out.get il HLI.out)
  go_wp2_with (first
    | (go_at_call 75; (with_reducible refine (HR.out _ _ HH3.out HM3.out HQ3.out).mono ?_); rintro e w4 ⟨rfl, hp⟩; have HP4 := Lib.hid hp; have HAL := Lib.hid (alive_calls (hb := hb) (HL.out _ hp)); unfold RB at HAL; clear hp l0 l1 l2 l3 l4 l5)
    | (go_at_call 76; (with_reducible refine (HAL.out).mono ?_); rintro e w5 ⟨rfl, hb⟩; have HP5 := Lib.hid (HS.out _ _ HP4.out hb); clear hb))
  go_end0
  exact ⟨rfl, HP5.out⟩
theorem frame_88 {w : World} {L : List (Nat × Obj)} {hb l rd tb il k f : Nat} {id : Int} {cl B : ByteArray} (H : Held w L) (hM : HasM w) (hl : L[il]? = some (l, linO id rd tb cl true)) (Q : World → Value → Prop) (P1 : World → Prop)
    (aP : ∀ W, HasM W → Calls Tryz.prog 50 #[fr k f B] W (fun e w' => ∃ u, e = .returned (.tuple #[.iface 88 u, .int .i64 0]) ∧ Q w' u ∧ Below W.heap.size W w'))
    (aQ : ∀ W W' u, Q W u → Below W.heap.size W W' → Q W' u)
    (aR : ∀ W u, Held W L → HasM W → Q W u → Calls Tryz.prog 75 #[.pointer (some ⟨hb, 0, none⟩), .pointer (some ⟨l, 0, none⟩), .iface 88 u] W (RetP (.tuple #[]) P1))
    (aL : ∀ W, P1 W → W.heap[l]? = some (linO id rd tb cl true)) (aS : ∀ W W', P1 W → Below W.heap.size W W' → P1 W') :
    Calls Tryz.prog 45 #[.pointer (some ⟨hb, 0, none⟩), .pointer (some ⟨l, 0, none⟩), fr k f B] w (RetP (.tuple #[]) P1) := by
  unfold fr at aP ⊢
  have HX := Lib.hid (heap_alloc_new w (Obj.cells #[.int .i64 (k : Nat), .int .i64 (f : Nat), .string B] 128))
  have HH := Lib.hid (H.below (bel1 w (Obj.cells #[.int .i64 (k : Nat), .int .i64 (f : Nat), .string B] 128)))
  have HMM := Lib.hid (hM.to (bel1 w (Obj.cells #[.int .i64 (k : Nat), .int .i64 (f : Nat), .string B] 128)))
  have HP := Lib.hid aP
  have HQ := Lib.hid aQ
  have HR := Lib.hid aR
  have HL := Lib.hid aL
  have HS := Lib.hid aS
  have HLI := Lib.hid hl
  unfold RetP at HR
  clear H hM hl aP aQ aR aL aS
  go_enter Tryz.func45, Tryz.ntmps45
  go_upto_region 1 with (fail)
  generalize w.alloc (Obj.cells #[.int .i64 (k : Nat), .int .i64 (f : Nat), .string B] 128) = X at HX HH HMM ⊢
  generalize w.heap.size = b at HX ⊢
  obtain ⟨x0, x1, x2⟩ := frcell HX.out
  go_upto_region 4 with (first
    | (go_at_call 50; (with_reducible refine (HP.out _ HMM.out).mono ?_); rintro e w2 ⟨u, rfl, hq, hb⟩; have HQ2 := Lib.hid hq; have HH2 := Lib.hid (HH.out.below hb); have HM2 := Lib.hid (HMM.out.to hb); clear hq hb))
  clear x0 x1 x2
  have hta := ta88_74 u w2
  unfold z74 at hta
  go_upto_region 7 with (fail)
  clear hta
  have hz := bel1 w2 (Obj.cells #[.bool false, .int .u32 0, .slice none 0 0, .string ⟨#[]⟩, .bool false, .slice none 0 0, .string ⟨#[]⟩, .string ⟨#[]⟩, .int .u8 0, .bool false, .bool false, .bool false, .string ⟨#[]⟩, .string ⟨#[]⟩] 74)
  have HH3 := Lib.hid (HH2.out.below hz)
  have HM3 := Lib.hid (HM2.out.to hz)
  have HQ3 := Lib.hid (HQ.out _ _ _ HQ2.out hz)
  clear hz HH HMM HQ2 HH2 HM2
  generalize w2.alloc (Obj.cells #[.bool false, .int .u32 0, .slice none 0 0, .string ⟨#[]⟩, .bool false, .slice none 0 0, .string ⟨#[]⟩, .string ⟨#[]⟩, .int .u8 0, .bool false, .bool false, .bool false, .string ⟨#[]⟩, .string ⟨#[]⟩] 74) = X3 at HH3 HM3 HQ3 ⊢
  obtain ⟨l0, l1, l2, l3, l4, l5⟩ := sixcell (HH3.out.get il HLI.out)
  go_wp2_with (first
    | (go_at_call 75; (with_reducible refine (HR.out _ _ HH3.out HM3.out HQ3.out).mono ?_); rintro e w4 ⟨rfl, hp⟩; have HP4 := Lib.hid hp; have HAL := Lib.hid (alive_calls (hb := hb) (HL.out _ hp)); unfold RB at HAL; clear hp l0 l1 l2 l3 l4 l5)
    | (go_at_call 76; (with_reducible refine (HAL.out).mono ?_); rintro e w5 ⟨rfl, hb⟩; have HP5 := Lib.hid (HS.out _ _ HP4.out hb); clear hb))
  go_end0
  exact ⟨rfl, HP5.out⟩
theorem receive_pub {w : World} {L : List (Nat × Obj)} {hb l rd tb k s il i0 i2 : Nat} {lo : Nat → Nat} {es : Array MapEntry} {A : Option Addr} {c : Nat} {t : ByteArray} (H : Held w L) (hM : HasM w) (P1 : World → Prop) (h0 : L[i0]? = some (hb, brO lo)) (hl : L[il]? = some (l, linO 0 rd tb pubS true)) (h2 : L[i2]? = some (lo 3, .map es k)) (hes : FStr es pubS (.pointer (some ⟨s, 0, none⟩)))
    (aR : ∀ W, Below w.heap.size w W → Calls Tryz.prog 110 #[.pointer (some ⟨hb, 0, none⟩), .pointer (some ⟨l, 0, none⟩), .pointer (some ⟨s, 0, none⟩), pbV A c t] W (RetP (.tuple #[]) P1)) :
    Calls Tryz.prog 75 #[.pointer (some ⟨hb, 0, none⟩), .pointer (some ⟨l, 0, none⟩), .iface 45 (pbV A c t)] w (RetP (.tuple #[]) P1) := by
  obtain ⟨b5, b6, b7, b8, b9, b10, b11, b12, b13, b3, b4, b1, b0⟩ := brcells (H.get i0 h0)
  clear b5 b6 b8 b9 b10 b11 b12 b13 b3 b4 b1 b0
  obtain ⟨l0, l1, l2, l3, l4, l5⟩ := sixcell (H.get il hl)
  obtain ⟨q, hq⟩ := hes
  have hlk := look_h0 (w := w.drew) (mt := 100) (key := .string pubS) Tryz.underlying100 Tryz.underlying9 (by simp [MapKept.IsKey]) (H.get i2 h2) hq
  have HR := Lib.hid aR
  unfold RetP at HR
  clear H hM h0 hl h2 hq aR
  unfold pbV at HR ⊢
  go_enter Tryz.func75, Tryz.ntmps75
  go_upto_region 0 with (fail)
  go_region
  have HB := Lib.hid (Below.refl w.heap.size w).drew
  clear b7 l0 l1 l2 l3 l4 l5 hlk
  generalize w.drew = X at HB ⊢
  have hta := ta45_45 (pbV A c t) X
  unfold pbV at hta
  go_upto_region 6 with (fail)
  have HX := Lib.hid (heap_alloc_new X (Obj.cells #[.bool false, .bool false, .int .u8 0, .int .u32 0, .slice A 1 c, .string t, .string ⟨#[]⟩] 45))
  have HB2 := Lib.hid (Below.into HB.out (bel1 X (Obj.cells #[.bool false, .bool false, .int .u8 0, .int .u32 0, .slice A 1 c, .string t, .string ⟨#[]⟩] 45)))
  clear hta
  generalize X.alloc (Obj.cells #[.bool false, .bool false, .int .u8 0, .int .u32 0, .slice A 1 c, .string t, .string ⟨#[]⟩] 45) = Y at HX HB2 ⊢
  generalize X.heap.size = b at HX ⊢
  obtain ⟨x0, x1, x2, x3, x4, x5, x6⟩ := sevencell HX.out
  go_wp2_with (first
    | (go_at_call 110; (with_reducible refine (HR.out _ HB2.out).mono ?_); rintro e w4 ⟨rfl, hp⟩; have HP4 := Lib.hid hp; clear hp))
  go_end0
  exact ⟨rfl, HP4.out⟩
end Go.Proofs.YtbfgpkogginmjaaGreatDoor
end
