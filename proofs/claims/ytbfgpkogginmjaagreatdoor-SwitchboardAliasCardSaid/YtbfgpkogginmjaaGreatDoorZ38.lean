/- Parts of a proof about aliases: E11b, E12, E13, E14, E15, F1, F2, F3, F4, F5, F6. -/
import Derived.Test.YtbfgpkogginmjaaGreatDoorZ20
import Derived.Test.YtbfgpkogginmjaaGreatDoorZ25
import Derived.Test.YtbfgpkogginmjaaGreatDoorZ37
section
namespace Go.Proofs.YtbfgpkogginmjaaGreatDoor
open Go.RowKit Go.Lib Go.Proofs.YtbfgpkogginmjaaGreatDoorW.PrintWords Go.Proofs.YtbfgpkogginmjaaGreatDoor.PSwitchboardGreat
set_option linter.unusedSectionVars false
variable [LawBase]
set_option linter.unusedVariables false
set_option linter.unusedSimpArgs false
set_option maxRecDepth 1000000
set_option maxHeartbeats 1600000
theorem num_calls {w : World} (k d : Int) : Calls Tryz.prog 104 #[.slice none 0 0, .int .i64 k, .int .u32 d] w (RB (.int .u32 d) w) := by
  have HG := Lib.hid (fun W => getn_calls (w := W) k)
  unfold RB prop0 at HG
  go_enter Tryz.func104, Tryz.ntmps104
  go_wp2_with (first
    | (go_at_call 12; (with_reducible refine (HG.out _).mono ?_); rintro e w2 ⟨rfl, hb⟩; have HB := Lib.hid (fun o => Below.into hb (bel1 w2 o)); clear hb))
  go_ret
  exact ⟨rfl, HB.out _⟩
def SubC (w : World) (ad : Addr) : Prop := w.cell? ad = some (.string ⟨#[35]⟩) ∧ w.cell? ⟨ad.block, ad.off + 1, none⟩ = some (.int .u8 0) ∧ w.cell? ⟨ad.block, ad.off + 2, none⟩ = some (.bool false) ∧ w.cell? ⟨ad.block, ad.off + 3, none⟩ = some (.bool false) ∧ w.cell? ⟨ad.block, ad.off + 4, none⟩ = some (.int .u8 0)
theorem SubC.below {w w' : World} {ad : Addr} (h : SubC w ad) (hb : Below w.heap.size w w') : SubC w' ad := ⟨(hb.cell (World.block_lt_of_cell? w _ h.1)).trans h.1, (hb.cell (World.block_lt_of_cell? w _ h.2.1)).trans h.2.1, (hb.cell (World.block_lt_of_cell? w _ h.2.2.1)).trans h.2.2.1, (hb.cell (World.block_lt_of_cell? w _ h.2.2.2.1)).trans h.2.2.2.1, (hb.cell (World.block_lt_of_cell? w _ h.2.2.2.2)).trans h.2.2.2.2⟩
def suV (ad : Addr) (c : Nat) : Value := .agg #[.int .u32 1, .slice none 0 0, .slice (some ad) 1 c]
theorem set6 {w : World} {b : Nat} {t : TypeId} {a0 a1 a2 a3 a4 a5 : Value} (h : w.heap[b]? = some (.cells #[a0, a1, a2, a3, a4, a5] t (0, 0))) (v0 v1 v2 v3 v4 v5 : Value) : ∃ W, W = ((((((w.setCell ⟨b, 0, none⟩ v0).setCell ⟨b, 1, none⟩ v1).setCell ⟨b, 2, none⟩ v2).setCell ⟨b, 3, none⟩ v3).setCell ⟨b, 4, none⟩ v4).setCell ⟨b, 5, none⟩ v5) ∧ W.heap[b]? = some (.cells #[v0, v1, v2, v3, v4, v5] t (0, 0)) ∧ Chg (fun k => k = b) w W := by
  refine ⟨_, rfl, ?_, ?_⟩
  · exact blk_put (blk_put (blk_put (blk_put (blk_put (blk_put h 0 v0 rfl) 1 v1 rfl) 2 v2 rfl) 3 v3 rfl) 4 v4 rfl) 5 v5 rfl
  · exact (((((chg_setc' b 0 v0).trans (chg_setc' b 1 v1)).trans (chg_setc' b 2 v2)).trans (chg_setc' b 3 v3)).trans (chg_setc' b 4 v4)).trans (chg_setc' b 5 v5)
theorem fit5 : (281474976710656 < Builtin.nextslicecap 1 0 * Tryz.t5.bytes) = False := eq_false (by decide)
def subN (L : List (Nat × Obj)) (j2 j0 nx tp rt : Nat) (o : Obj) : List (Nat × Obj) := (L.set j2 (nx, o)).set j0 (tp, trieO rt 1)
def hashO (a : Nat) : Obj := .map #[⟨.string ⟨#[35]⟩, .pointer (some ⟨a + 2, 0, none⟩), 0⟩] 1
def subNW (a : Nat) : List (Nat × Obj) := [(a, .map #[] 0), (a + 1, .map #[⟨.string subS, keptV, 0⟩] 1), (a + 2, nodeO a (a + 1))]
def MO : Type := { o : Obj // ∀ W : World, W.heap[0]? = some o → HasM W }
def SubscP (L : List (Nat × Obj)) (j2 j0 nx tp rt i6 ci : Nat) (o : Obj) (e : Ending) (w' : World) : Prop := ∃ a, e = .returned (.tuple #[]) ∧ Held w' (((subN L j2 j0 nx tp rt (hashO a)).set i6 (ci, o)) ++ subNW a)
def DS (w : World) (a3 xb : Nat) : Prop := w.cell? ⟨a3, 0, none⟩ = some (.string ⟨#[35]⟩) ∧ w.cell? ⟨a3, 1, none⟩ = some (.int .u8 0) ∧ w.cell? ⟨a3, 2, none⟩ = some (.bool false) ∧ w.cell? ⟨a3, 3, none⟩ = some (.bool false) ∧ w.cell? ⟨a3, 4, none⟩ = some (.int .u8 0) ∧ w.cell? ⟨xb, 1, none⟩ = some (.slice none 0 0)
theorem DS.alloc {w : World} {a3 xb : Nat} (h : DS w a3 xb) (o : Obj) : DS (w.alloc o) a3 xb := ⟨cell_al h.1 o, cell_al h.2.1 o, cell_al h.2.2.1 o, cell_al h.2.2.2.1 o, cell_al h.2.2.2.2.1 o, cell_al h.2.2.2.2.2 o⟩
theorem DS.set {w : World} {a3 xb b i : Nat} {u : Value} (h : DS w a3 xb) (h1 : b ≠ a3) (h2 : b ≠ xb) : DS (w.setCell ⟨b, i, none⟩ u) a3 xb := ⟨cell_sf h.1 h1, cell_sf h.2.1 h1, cell_sf h.2.2.1 h1, cell_sf h.2.2.2.1 h1, cell_sf h.2.2.2.2.1 h1, cell_sf h.2.2.2.2.2 h2⟩
theorem DS.of {w : World} {L : List (Nat × Obj)} {a3 xb i j : Nat} {v : Value} {u : Value} (H : Held w L) (h1 : L[i]? = some (a3, .cells #[.string ⟨#[35]⟩, .int .u8 0, .bool false, .bool false, .int .u8 0] 83)) (h2 : L[j]? = some (xb, .cells #[u, .slice none 0 0, v] 86)) : DS w a3 xb := by
  obtain ⟨y0, y1, y2, y3, y4⟩ := cfcell (H.get i h1)
  obtain ⟨x0, x1, x2⟩ := frcell (H.get j h2)
  exact ⟨y0, y1, y2, y3, y4, x1⟩
theorem HasM.cells {w w' : World} {b : Nat} {c : Array Value} {t : TypeId} (h : HasM w) (hc : Chg (fun k => k = b) w w') (hm : w.heap[b]? = some (.cells c t (0, 0))) (hb : 0 < b) : HasM w' := by
  obtain ⟨m, hcell⟩ := h
  exact ⟨m, hc.cellOf hcell (fun e => by have e : 0 = b := e; omega)⟩
theorem subscribe_calls {w : World} {L : List (Nat × Obj)} {hb l rd tb sc k s inn win que nm kN ci came tp sp pk rt nx hs sm k0 : Nat} {ad : Addr} {lo : Nat → Nat} {es esN : Array MapEntry} {wait said : ByteArray} (H : Held w L) (hM : HasM w) (hsub : SubC w ad) {i0 il i2 is i4 i5 i6 it j0 j1 j2 j3 j4 : Nat}
    (h0 : L[i0]? = some (hb, brO lo)) (hl : L[il]? = some (l, linO 1 rd tb subS true)) (t0 : L[it]? = some (lo 5 + 10, tblO tp sp pk)) (t1 : L[j0]? = some (tp, trieO rt 0)) (t2 : L[j1]? = some (rt, nodeO nx hs)) (t3 : L[j2]? = some (nx, .map #[] 0))
    (g0 : ∀ o, (subN L j2 j0 nx tp rt o)[i0]? = some (hb, brO lo)) (gl : ∀ o, (subN L j2 j0 nx tp rt o)[il]? = some (l, linO 1 rd tb subS true)) (g2 : ∀ o, (subN L j2 j0 nx tp rt o)[i2]? = some (lo 3, .map es k)) (hes : FStr es subS (.pointer (some ⟨s, 0, none⟩))) (gs : ∀ o, (subN L j2 j0 nx tp rt o)[is]? = some (s, sesO subS inn win que)) (g4 : ∀ o, (subN L j2 j0 nx tp rt o)[i4]? = some (lo 1 + 1, netO nm)) (g5 : ∀ o, (subN L j2 j0 nx tp rt o)[i5]? = some (nm, .map esN kN)) (hN : FInt esN 1 (.pointer (some ⟨ci, 0, none⟩))) (g6 : ∀ o, (subN L j2 j0 nx tp rt o)[i6]? = some (ci, connO wait came said)) (hz : said.size ≤ 1000000) (gst : ∀ o, (subN L j2 j0 nx tp rt o)[j3]? = some (lo 8 + 1, stO sm)) (gsm : ∀ o, (subN L j2 j0 nx tp rt o)[j4]? = some (sm, .map #[] k0)) {iM : Nat} {mv : MO} (gM : ∀ o, (subN L j2 j0 nx tp rt o)[iM]? = some (0, mv.1)) :
    Calls Tryz.prog 112 #[.pointer (some ⟨hb, 0, none⟩), .pointer (some ⟨l, 0, none⟩), suV ad sc] w (SubscP L j2 j0 nx tp rt i6 ci (connO wait came (said ++ toB (frB 9 0 suakB)))) := by
  have hls : ∀ o, (subN L j2 j0 nx tp rt o).length = L.length := fun o => by unfold subN; rw [List.length_set, List.length_set]
  have HLS := Lib.hid hls
  have HG0 := Lib.hid g0
  have HGL := Lib.hid gl
  have HGT := Lib.hid gst
  have HGM := Lib.hid gsm
  have HT0 := Lib.hid t0
  have HGZ := Lib.hid gM
  have HLJ0 := Lib.hid (show j0 < L.length from (List.getElem?_eq_some_iff.1 t1).1)
  have HLJ2 := Lib.hid (show j2 < L.length from (List.getElem?_eq_some_iff.1 t3).1)
  have HL6 := Lib.hid (fun o => show i6 < (subN L j2 j0 nx tp rt o).length from (List.getElem?_eq_some_iff.1 (g6 o)).1)
  have HAD := Lib.hid (fun W M (hW : Held W (L ++ M)) (hm : HasM W) => radd_calls (s := subS) hW hm (app_get t0) (app_get t1) (app_get t2) (app_get t3) (by decide))
  have HSY := Lib.hid (fun W M o (hW : Held W (subN L j2 j0 nx tp rt o ++ M)) => say_su (V := suakV) (kk := 9) (ff := 0) (B := suakB) (txt := toB (frB 9 0 suakB)) hW (app_get (g0 o)) (app_get (gl o)) (app_get (g2 o)) hes (app_get (gs o)) (app_get (g4 o)) (app_get (g5 o)) hN (app_get (g6 o)) (by rw [toB_size, frB_size, suakB_size]; have := varU_len5 4 (by decide); omega) (suak_frame W) (fun W2 _ => suak_text W2) (by rw [suakB_size]; decide))
  unfold PutPX keptV keptC at HAD
  unfold HeldP suakV at HSY
  have hfit := fit5
  clear hls t0 t1 t2 t3 g0 gl g2 hes gs g4 g5 hN g6 hz gst gsm gM
  unfold suV
  have HH := Lib.hid (show Held (w.alloc (Obj.cells #[.int .u32 1, .slice none 0 0, .slice (some ad) 1 sc] 86)) (L ++ [(w.heap.size, (Obj.cells #[.int .u32 1, .slice none 0 0, .slice (some ad) 1 sc] 86))]) from H.alloc (Obj.cells #[.int .u32 1, .slice none 0 0, .slice (some ad) 1 sc] 86) rfl)
  have HS := Lib.hid (hsub.below (bel1 w (Obj.cells #[.int .u32 1, .slice none 0 0, .slice (some ad) 1 sc] 86)))
  have HMM := Lib.hid (hM.to (bel1 w (Obj.cells #[.int .u32 1, .slice none 0 0, .slice (some ad) 1 sc] 86)))
  have HI0 := Lib.hid h0
  have HIL := Lib.hid hl
  clear H hM hsub h0 hl
  go_enter Tryz.func112, Tryz.ntmps112
  go_upto_region 1 with (fail)
  generalize w.alloc (Obj.cells #[.int .u32 1, .slice none 0 0, .slice (some ad) 1 sc] 86) = X1 at HH HS HMM ⊢
  generalize w.heap.size = xb at HH ⊢
  obtain ⟨x0, x1, x2⟩ := frcell (HH.out.get L.length (app_new 0 rfl rfl))
  have hs1 := HS.out
  unfold SubC at hs1
  obtain ⟨c0, c1, c2, c3, c4⟩ := hs1
  go_upto_region 2 with (fail)
  refine wp_loop_rounds 2 ?_
  rw [rounds_succ]
  go_upto_region 4 with (fail)
  have hb2 := bel1 X1 (Obj.cells #[.string ⟨#[35]⟩, .int .u8 0, .bool false, .bool false, .int .u8 0] 83)
  have HH2 := Lib.hid (HH.out.below hb2)
  have HS2 := Lib.hid (HS.out.below hb2)
  have HM2 := Lib.hid (HMM.out.to hb2)
  have HX2 := Lib.hid (heap_alloc_new X1 (Obj.cells #[.string ⟨#[35]⟩, .int .u8 0, .bool false, .bool false, .int .u8 0] 83))
  clear hb2 x0 x1 x2 c0 c1 c2 c3 c4 HH HS HMM
  generalize X1.alloc (Obj.cells #[.string ⟨#[35]⟩, .int .u8 0, .bool false, .bool false, .int .u8 0] 83) = X2 at HH2 HS2 HM2 HX2 ⊢
  generalize X1.heap.size = a2 at HX2 ⊢
  obtain ⟨y0, y1, y2, y3, y4⟩ := cfcell HX2.out
  go_wp2
  rw [rounds_succ]
  clear y0 y1 y2 y3 y4
  obtain ⟨x0, x1, x2⟩ := frcell (HH2.out.get L.length (app_new 0 rfl rfl))
  have hs1 := HS2.out
  unfold SubC at hs1
  obtain ⟨c0, c1, c2, c3, c4⟩ := hs1
  go_upto_region 10 with (fail)
  refine wp_loop_rounds 2 ?_
  rw [rounds_succ]
  go_upto_region 12 with (fail)
  have HH3 := Lib.hid (show Held (X2.alloc (Obj.cells #[.string ⟨#[35]⟩, .int .u8 0, .bool false, .bool false, .int .u8 0] 83)) (L ++ [(xb, (Obj.cells #[.int .u32 1, .slice none 0 0, .slice (some ad) 1 sc] 86)), (X2.heap.size, (Obj.cells #[.string ⟨#[35]⟩, .int .u8 0, .bool false, .bool false, .int .u8 0] 83))]) from by have h := HH2.out.alloc (Obj.cells #[.string ⟨#[35]⟩, .int .u8 0, .bool false, .bool false, .int .u8 0] 83) rfl; simp only [List.append_assoc, List.cons_append, List.nil_append] at h; exact h)
  have HM3 := Lib.hid (HM2.out.to (bel1 X2 (Obj.cells #[.string ⟨#[35]⟩, .int .u8 0, .bool false, .bool false, .int .u8 0] 83)))
  clear x0 x1 x2 c0 c1 c2 c3 c4 HH2 HM2 HS2 HX2
  generalize X2.alloc (Obj.cells #[.string ⟨#[35]⟩, .int .u8 0, .bool false, .bool false, .int .u8 0] 83) = X3 at HH3 HM3 ⊢
  generalize X2.heap.size = a3 at HH3 ⊢
  obtain ⟨y0, y1, y2, y3, y4⟩ := cfcell (HH3.out.get (L.length + 1) (app_new 1 rfl rfl))
  have HSP := Lib.hid (split_hash HM3.out)
  go_upto_region 15 with (first
    | (go_at_call 156; (with_reducible refine (HSP.out).mono ?_); rintro e w4 ⟨rfl, hb⟩; have HH4 := Lib.hid (HH3.out.below hb); have HM4 := Lib.hid (HM3.out.to hb); clear hb))
  clear y0 y1 y2 y3 y4 HSP HH3 HM3
  have hda : Below w4.heap.size w4 w4.drew := (Below.refl _ _).drew
  have HHA := Lib.hid (HH4.out.below hda)
  have HMA := Lib.hid (HM4.out.to hda)
  have HHB := Lib.hid (show Held ((w4.alloc (Obj.cells #[.string ⟨#[]⟩, .int .u8 0, .bool false, .bool false, .int .u8 0, .int .u32 0] 147)).drew) (L ++ [(xb, (Obj.cells #[.int .u32 1, .slice none 0 0, .slice (some ad) 1 sc] 86)), (a3, (Obj.cells #[.string ⟨#[35]⟩, .int .u8 0, .bool false, .bool false, .int .u8 0] 83)), (w4.heap.size, (Obj.cells #[.string ⟨#[]⟩, .int .u8 0, .bool false, .bool false, .int .u8 0, .int .u32 0] 147))]) from by have h := (HH4.out.alloc (Obj.cells #[.string ⟨#[]⟩, .int .u8 0, .bool false, .bool false, .int .u8 0, .int .u32 0] 147) rfl).below (Below.refl _ _).drew; simp only [List.append_assoc, List.cons_append, List.nil_append] at h; exact h)
  have HMB := Lib.hid (HM4.out.to ((bel1 w4 (Obj.cells #[.string ⟨#[]⟩, .int .u8 0, .bool false, .bool false, .int .u8 0, .int .u32 0] 147)).drew))
  have d4 : DS w4 a3 xb := DS.of HH4.out (app_new 1 rfl rfl) (app_new 0 rfl rfl)
  have da : DS w4.drew a3 xb := d4
  have dz : DS ((w4.alloc (Obj.cells #[.string ⟨#[]⟩, .int .u8 0, .bool false, .bool false, .int .u8 0, .int .u32 0] 147)).drew) a3 xb := d4.alloc (Obj.cells #[.string ⟨#[]⟩, .int .u8 0, .bool false, .bool false, .int .u8 0, .int .u32 0] 147)
  have n1 : w4.heap.size ≠ a3 := by have := blk_lt (HH4.out.get (L.length + 1) (app_new 1 rfl rfl)); omega
  have n2 : w4.heap.size ≠ xb := by have := blk_lt (HH4.out.get L.length (app_new 0 rfl rfl)); omega
  have HPOS := Lib.hid (show 0 < w4.heap.size from by have := blk_lt (HH4.out.get L.length (app_new 0 rfl rfl)); omega)
  have HNU := Lib.hid (fun W => num_calls (w := W) 11 0)
  unfold RB at HNU
  clear hda HH4 HM4
  go_region_held3 (fun w' => w'.cell? ⟨a3, 0, none⟩ = some (.string ⟨#[35]⟩) ∧ w'.cell? ⟨a3, 1, none⟩ = some (.int .u8 0) ∧ w'.cell? ⟨a3, 2, none⟩ = some (.bool false) ∧ w'.cell? ⟨a3, 3, none⟩ = some (.bool false) ∧ w'.cell? ⟨a3, 4, none⟩ = some (.int .u8 0) ∧ w'.cell? ⟨xb, 1, none⟩ = some (.slice none 0 0)) (first | (show DS _ a3 xb; with_reducible (repeat (first | assumption | apply DS.alloc | (refine DS.set ?_ n1 n2))))) (first
    | (go_at_call 104; (with_reducible refine (HNU.out _).mono ?_); rintro e w5 ⟨rfl, hb⟩; first | (have HH5 := Lib.hid (HHA.out.below hb); have HM5 := Lib.hid (HMA.out.to hb); have d5 : DS w5 a3 xb := DS.of HH5.out (app_new 1 rfl rfl) (app_new 0 rfl rfl); clear hb) | (have HHC := Lib.hid (HHB.out.below hb); have HM5 := Lib.hid (HMB.out.to hb); have d5 : DS w5 a3 xb := DS.of HHC.out (app_new 1 rfl rfl) (app_new 0 rfl rfl); have hkk := HHC.out.get (L.length + 2) (app_new 2 rfl rfl); obtain ⟨k0, k1, k2, k3, k4, k5⟩ := sixcell hkk; have f0 := blk_frozen hkk 0; have f1 := blk_frozen hkk 1; have f2 := blk_frozen hkk 2; have f3 := blk_frozen hkk 3; have f4 := blk_frozen hkk 4; have f5 := blk_frozen hkk 5; clear hb hkk)))
  · have HH6 := Lib.hid (show Held (w5.alloc (Obj.cells #[.string ⟨#[35]⟩, .int .u8 0, .bool false, .bool false, .int .u8 0, .int .u32 0] 147)) (L ++ [(xb, (Obj.cells #[.int .u32 1, .slice none 0 0, .slice (some ad) 1 sc] 86)), (a3, (Obj.cells #[.string ⟨#[35]⟩, .int .u8 0, .bool false, .bool false, .int .u8 0] 83)), (w5.heap.size, (Obj.cells #[.string ⟨#[35]⟩, .int .u8 0, .bool false, .bool false, .int .u8 0, .int .u32 0] 147))]) from by have h := HH5.out.alloc (Obj.cells #[.string ⟨#[35]⟩, .int .u8 0, .bool false, .bool false, .int .u8 0, .int .u32 0] 147) rfl; simp only [List.append_assoc, List.cons_append, List.nil_append] at h; exact h)
    have HM6 := Lib.hid (HM5.out.to (bel1 w5 (Obj.cells #[.string ⟨#[35]⟩, .int .u8 0, .bool false, .bool false, .int .u8 0, .int .u32 0] 147)))
    clear HHA HMA HHB HMB d4 da dz d5 n1 n2 HNU HH5 HM5
    generalize w5.alloc (Obj.cells #[.string ⟨#[35]⟩, .int .u8 0, .bool false, .bool false, .int .u8 0, .int .u32 0] 147) = X6 at HH6 HM6 ⊢
    generalize w5.heap.size = kb at HH6 ⊢
    go_upto_region 16 with (fail)
    have hda : Below X6.heap.size X6 X6.drew := (Below.refl _ _).drew
    have HH7 := Lib.hid (HH6.out.below hda)
    have HAD7 := Lib.hid (HAD.out X6.drew _ HH7.out (HM6.out.to hda))
    have HM7 := Lib.hid (HM6.out.to hda)
    clear hda
    obtain ⟨b5, b6, b7, b8, b9, b10, b11, b12, b13, b3, b4, b1, b0⟩ := brcells (HH6.out.get i0 (app_get HI0.out))
    clear b5 b6 b7 b8 b10 b11 b12 b13 b3 b4 b1 b0
    obtain ⟨l0, l1, l2, l3, l4, l5⟩ := sixcell (HH6.out.get il (app_get HIL.out))
    clear l0 l1 l2 l4 l5
    obtain ⟨k0, k1, k2, k3, k4, k5⟩ := sixcell (HH6.out.get (L.length + 2) (app_new 2 rfl rfl))
    go_region_held3 (fun w' => w'.cell? ⟨hb, 9, none⟩ = some (.pointer (some ⟨lo 5 + 10, 0, none⟩)) ∧ w'.cell? ⟨l, 3, none⟩ = some (.string subS) ∧ w'.cell? ⟨kb, 0, none⟩ = some (.string ⟨#[35]⟩) ∧ w'.cell? ⟨kb, 1, none⟩ = some (.int .u8 0) ∧ w'.cell? ⟨kb, 2, none⟩ = some (.bool false) ∧ w'.cell? ⟨kb, 3, none⟩ = some (.bool false) ∧ w'.cell? ⟨kb, 4, none⟩ = some (.int .u8 0) ∧ w'.cell? ⟨kb, 5, none⟩ = some (.int .u32 0)) (first | exact ⟨b9, l3, k0, k1, k2, k3, k4, k5⟩ | exact ⟨c9, m3, p0, p1, p2, p3, p4, p5⟩) (first
      | (go_at_call 157; (with_reducible refine (HAD7.out).mono ?_); rintro e w7 ⟨a, rfl, hh⟩; have HH8 := Lib.hid (show Held w7 (subN L j2 j0 nx tp rt (hashO a) ++ ([(xb, (Obj.cells #[.int .u32 1, .slice none 0 0, .slice (some ad) 1 sc] 86)), (a3, (Obj.cells #[.string ⟨#[35]⟩, .int .u8 0, .bool false, .bool false, .int .u8 0] 83)), (kb, (Obj.cells #[.string ⟨#[35]⟩, .int .u8 0, .bool false, .bool false, .int .u8 0, .int .u32 0] 147))] ++ subNW a)) from by have h := hh; rw [set_app HLJ2.out, set_app (by rw [List.length_set]; exact HLJ0.out), List.append_assoc] at h; exact h); obtain ⟨p0, p1, p2, p3, p4, p5⟩ := sixcell (HH8.out.get (L.length + 2) (app_new 2 (HLS.out _) rfl)); have m3 := (sixcell (HH8.out.get il (app_get (HGL.out _)))).2.2.2.1; have c9 := (brcells (HH8.out.get i0 (app_get (HG0.out _)))).2.2.2.2.1; clear hh))
    clear b9 l3 k0 k1 k2 k3 k4 k5 c9 m3 p0 p1 p2 p3 p4 p5 HAD HAD7 HH6 HH7 HM6 HM7
    go_upto_region 17 with (fail)
    have hda : Below w7.heap.size w7 w7.drew := (Below.refl _ _).drew
    have HH9 := Lib.hid (HH8.out.below hda)
    have hM9 : HasM w7.drew := mv.2 _ (HH9.out.get iM (app_get (HGZ.out _)))
    have HRT := Lib.hid (retd_calls (w := w7.drew) (c := subS) (now := 0) (was := false) (HH9.out.get j3 (app_get (HGT.out _))) (HH9.out.get j4 (app_get (HGM.out _))) hM9)
    unfold RB keptV keptC at HRT
    clear hda hM9
    obtain ⟨b5, b6, b7, b8, b9, b10, b11, b12, b13, b3, b4, b1, b0⟩ := brcells (HH8.out.get i0 (app_get (HG0.out _)))
    clear b5 b6 b7 b8 b9 b11 b12 b3 b4 b1 b0
    obtain ⟨l0, l1, l2, l3, l4, l5⟩ := sixcell (HH8.out.get il (app_get (HGL.out _)))
    clear l0 l1 l2 l4 l5
    obtain ⟨k0, k1, k2, k3, k4, k5⟩ := sixcell (HH8.out.get (L.length + 2) (app_new 2 (HLS.out _) rfl))
    go_region_held3 (fun w' => w'.cell? ⟨hb, 10, none⟩ = some (.pointer (some ⟨lo 8 + 1, 0, none⟩)) ∧ w'.cell? ⟨hb, 13, none⟩ = some (.int .i64 0) ∧ w'.cell? ⟨l, 3, none⟩ = some (.string subS) ∧ w'.cell? ⟨kb, 0, none⟩ = some (.string ⟨#[35]⟩) ∧ w'.cell? ⟨kb, 1, none⟩ = some (.int .u8 0) ∧ w'.cell? ⟨kb, 2, none⟩ = some (.bool false) ∧ w'.cell? ⟨kb, 3, none⟩ = some (.bool false) ∧ w'.cell? ⟨kb, 4, none⟩ = some (.int .u8 0) ∧ w'.cell? ⟨kb, 5, none⟩ = some (.int .u32 0)) (first | exact ⟨b10, b13, l3, k0, k1, k2, k3, k4, k5⟩ | exact ⟨c10, c13, m3, p0, p1, p2, p3, p4, p5⟩) (first
      | (go_at_call 158; (with_reducible refine (HRT.out).mono ?_); rintro e w9 ⟨rfl, hb⟩; have HHT := Lib.hid (HH9.out.below hb); obtain ⟨p0, p1, p2, p3, p4, p5⟩ := sixcell (HHT.out.get (L.length + 2) (app_new 2 (HLS.out _) rfl)); have m3 := (sixcell (HHT.out.get il (app_get (HGL.out _)))).2.2.2.1; obtain ⟨c5, c6, c7, c8, c9, c10, c11, c12, c13, c3, c4, c1, c0⟩ := brcells (HHT.out.get i0 (app_get (HG0.out _))); clear c5 c6 c7 c8 c9 c11 c12 c3 c4 c1 c0 hb))
    clear b10 b13 l3 k0 k1 k2 k3 k4 k5 c10 c13 m3 p0 p1 p2 p3 p4 p5 HRT HH8 HH9
    obtain ⟨y0, y1, y2, y3, y4⟩ := cfcell (HHT.out.get (L.length + 1) (app_new 1 (HLS.out _) rfl))
    go_upto_region 19 with (fail)
    generalize (Question.appendCap 1 0 5).cut (w9.tape w9.drawn (Question.appendCap 1 0 5)) = cc
    have hap := appd w9 (Obj.cells #[Value.int IntKind.u8 0] 5) #[Value.int IntKind.u8 0] (Builtin.zeroCells #[Value.int IntKind.u8 0] (cc - 1)) 5
    have HH10 := Lib.hid (HHT.out.below hap.2)
    have HCB := Lib.hid (show (((w9.alloc (Obj.cells #[Value.int IntKind.u8 0] 5)).alloc (Obj.cells (#[Value.int IntKind.u8 0] ++ (Builtin.zeroCells #[Value.int IntKind.u8 0] (cc - 1))) 5)).drew).cell? ⟨w9.heap.size + 1, 0, none⟩ = some (.int .u8 0) from hap.1.cell 0 _ rfl)
    clear hap y0 y1 y2 y3 y4 HHT
    generalize (((w9.alloc (Obj.cells #[Value.int IntKind.u8 0] 5)).alloc (Obj.cells (#[Value.int IntKind.u8 0] ++ (Builtin.zeroCells #[Value.int IntKind.u8 0] (cc - 1))) 5)).drew) = X10 at HH10 HCB ⊢
    generalize w9.heap.size + 1 = cb at HCB ⊢
    go_wp2
    rw [rounds_succ]
    obtain ⟨x0, x1, x2⟩ := frcell (HH10.out.get L.length (app_new 0 (HLS.out _) rfl))
    have q0 := HCB.out
    go_upto_region 20 with (fail)
    have hcv : (convert 35 9 (.slice (some ⟨cb, 0, none⟩) 1 cc)).run Tryz.prog X10 = .ok (.string ⟨#[0]⟩) X10 := run_convert_bytes_back X10 35 9 5 ⟨cb, 0, none⟩ cc [0] Tryz.underlying35 Tryz.underlying5 Tryz.underlying9 (fun k hk => by
      have hk1 : k = 0 := by have : k < 1 := hk; omega
      subst hk1
      exact HCB.out)
    have HS10 := Lib.hid (HSY.out X10 _ (hashO a) HH10.out)
    go_upto_region 21 with (first
      | (go_at_call 80; (with_reducible refine (HS10.out).mono ?_); rintro e w11 ⟨rfl, hh⟩; have HH11 := Lib.hid (show Held w11 ((subN L j2 j0 nx tp rt (hashO a)).set i6 (ci, connO wait came (said ++ toB (frB 9 0 suakB))) ++ ([(xb, (Obj.cells #[.int .u32 1, .slice none 0 0, .slice (some ad) 1 sc] 86)), (a3, (Obj.cells #[.string ⟨#[35]⟩, .int .u8 0, .bool false, .bool false, .int .u8 0] 83)), (kb, (Obj.cells #[.string ⟨#[35]⟩, .int .u8 0, .bool false, .bool false, .int .u8 0, .int .u32 0] 147))] ++ subNW a)) from by have h := hh; rw [set_app (HL6.out _)] at h; exact h); clear hh))
    have HOF := Lib.hid (offer0_calls (w := w11) (hb := hb))
    go_wp2_with (first
      | (go_at_call 159; (with_reducible refine (HOF.out).mono ?_); rintro e w12 ⟨rfl, hw⟩; have hw := hw.symm; subst hw))
    go_end0
    exact ⟨a, rfl, HH11.out.sub (List.Sublist.append_left (List.sublist_append_right _ _) _)⟩
  · have hkk := HHC.out.get (L.length + 2) (app_new 2 rfl rfl)
    obtain ⟨WF, hWF, hF, hC⟩ := set6 hkk (.string ⟨#[35]⟩) (.int .u8 0) (.bool false) (.bool false) (.int .u8 0) (.int .u32 0)
    rw [← hWF]
    have HH6 := Lib.hid (show Held WF (L ++ [(xb, (Obj.cells #[.int .u32 1, .slice none 0 0, .slice (some ad) 1 sc] 86)), (a3, (Obj.cells #[.string ⟨#[35]⟩, .int .u8 0, .bool false, .bool false, .int .u8 0] 83)), (w4.heap.size, (Obj.cells #[.string ⟨#[35]⟩, .int .u8 0, .bool false, .bool false, .int .u8 0, .int .u32 0] 147))]) from by
      have h := HHC.out.set (L.length + 2) (app_new 2 rfl rfl) hC hF
      rw [List.set_append_right _ _ (by omega), Nat.add_sub_cancel_left] at h
      exact h)
    have HM6 := Lib.hid (show HasM WF from HM5.out.cells hC hkk HPOS.out)
    clear HHA HMA HHB HMB d4 da dz d5 n1 n2 HNU HHC HM5 hkk hWF hF hC k0 k1 k2 k3 k4 k5 f0 f1 f2 f3 f4 f5
    generalize WF = X6 at HH6 HM6 ⊢
    generalize w4.heap.size = kb at HH6 ⊢
    go_upto_region 16 with (fail)
    have hda : Below X6.heap.size X6 X6.drew := (Below.refl _ _).drew
    have HH7 := Lib.hid (HH6.out.below hda)
    have HAD7 := Lib.hid (HAD.out X6.drew _ HH7.out (HM6.out.to hda))
    have HM7 := Lib.hid (HM6.out.to hda)
    clear hda
    obtain ⟨b5, b6, b7, b8, b9, b10, b11, b12, b13, b3, b4, b1, b0⟩ := brcells (HH6.out.get i0 (app_get HI0.out))
    clear b5 b6 b7 b8 b10 b11 b12 b13 b3 b4 b1 b0
    obtain ⟨l0, l1, l2, l3, l4, l5⟩ := sixcell (HH6.out.get il (app_get HIL.out))
    clear l0 l1 l2 l4 l5
    obtain ⟨k0, k1, k2, k3, k4, k5⟩ := sixcell (HH6.out.get (L.length + 2) (app_new 2 rfl rfl))
    go_region_held3 (fun w' => w'.cell? ⟨hb, 9, none⟩ = some (.pointer (some ⟨lo 5 + 10, 0, none⟩)) ∧ w'.cell? ⟨l, 3, none⟩ = some (.string subS) ∧ w'.cell? ⟨kb, 0, none⟩ = some (.string ⟨#[35]⟩) ∧ w'.cell? ⟨kb, 1, none⟩ = some (.int .u8 0) ∧ w'.cell? ⟨kb, 2, none⟩ = some (.bool false) ∧ w'.cell? ⟨kb, 3, none⟩ = some (.bool false) ∧ w'.cell? ⟨kb, 4, none⟩ = some (.int .u8 0) ∧ w'.cell? ⟨kb, 5, none⟩ = some (.int .u32 0)) (first | exact ⟨b9, l3, k0, k1, k2, k3, k4, k5⟩ | exact ⟨c9, m3, p0, p1, p2, p3, p4, p5⟩) (first
      | (go_at_call 157; (with_reducible refine (HAD7.out).mono ?_); rintro e w7 ⟨a, rfl, hh⟩; have HH8 := Lib.hid (show Held w7 (subN L j2 j0 nx tp rt (hashO a) ++ ([(xb, (Obj.cells #[.int .u32 1, .slice none 0 0, .slice (some ad) 1 sc] 86)), (a3, (Obj.cells #[.string ⟨#[35]⟩, .int .u8 0, .bool false, .bool false, .int .u8 0] 83)), (kb, (Obj.cells #[.string ⟨#[35]⟩, .int .u8 0, .bool false, .bool false, .int .u8 0, .int .u32 0] 147))] ++ subNW a)) from by have h := hh; rw [set_app HLJ2.out, set_app (by rw [List.length_set]; exact HLJ0.out), List.append_assoc] at h; exact h); obtain ⟨p0, p1, p2, p3, p4, p5⟩ := sixcell (HH8.out.get (L.length + 2) (app_new 2 (HLS.out _) rfl)); have m3 := (sixcell (HH8.out.get il (app_get (HGL.out _)))).2.2.2.1; have c9 := (brcells (HH8.out.get i0 (app_get (HG0.out _)))).2.2.2.2.1; clear hh))
    clear b9 l3 k0 k1 k2 k3 k4 k5 c9 m3 p0 p1 p2 p3 p4 p5 HAD HAD7 HH6 HH7 HM6 HM7
    go_upto_region 17 with (fail)
    have hda : Below w7.heap.size w7 w7.drew := (Below.refl _ _).drew
    have HH9 := Lib.hid (HH8.out.below hda)
    have hM9 : HasM w7.drew := mv.2 _ (HH9.out.get iM (app_get (HGZ.out _)))
    have HRT := Lib.hid (retd_calls (w := w7.drew) (c := subS) (now := 0) (was := false) (HH9.out.get j3 (app_get (HGT.out _))) (HH9.out.get j4 (app_get (HGM.out _))) hM9)
    unfold RB keptV keptC at HRT
    clear hda hM9
    obtain ⟨b5, b6, b7, b8, b9, b10, b11, b12, b13, b3, b4, b1, b0⟩ := brcells (HH8.out.get i0 (app_get (HG0.out _)))
    clear b5 b6 b7 b8 b9 b11 b12 b3 b4 b1 b0
    obtain ⟨l0, l1, l2, l3, l4, l5⟩ := sixcell (HH8.out.get il (app_get (HGL.out _)))
    clear l0 l1 l2 l4 l5
    obtain ⟨k0, k1, k2, k3, k4, k5⟩ := sixcell (HH8.out.get (L.length + 2) (app_new 2 (HLS.out _) rfl))
    go_region_held3 (fun w' => w'.cell? ⟨hb, 10, none⟩ = some (.pointer (some ⟨lo 8 + 1, 0, none⟩)) ∧ w'.cell? ⟨hb, 13, none⟩ = some (.int .i64 0) ∧ w'.cell? ⟨l, 3, none⟩ = some (.string subS) ∧ w'.cell? ⟨kb, 0, none⟩ = some (.string ⟨#[35]⟩) ∧ w'.cell? ⟨kb, 1, none⟩ = some (.int .u8 0) ∧ w'.cell? ⟨kb, 2, none⟩ = some (.bool false) ∧ w'.cell? ⟨kb, 3, none⟩ = some (.bool false) ∧ w'.cell? ⟨kb, 4, none⟩ = some (.int .u8 0) ∧ w'.cell? ⟨kb, 5, none⟩ = some (.int .u32 0)) (first | exact ⟨b10, b13, l3, k0, k1, k2, k3, k4, k5⟩ | exact ⟨c10, c13, m3, p0, p1, p2, p3, p4, p5⟩) (first
      | (go_at_call 158; (with_reducible refine (HRT.out).mono ?_); rintro e w9 ⟨rfl, hb⟩; have HHT := Lib.hid (HH9.out.below hb); obtain ⟨p0, p1, p2, p3, p4, p5⟩ := sixcell (HHT.out.get (L.length + 2) (app_new 2 (HLS.out _) rfl)); have m3 := (sixcell (HHT.out.get il (app_get (HGL.out _)))).2.2.2.1; obtain ⟨c5, c6, c7, c8, c9, c10, c11, c12, c13, c3, c4, c1, c0⟩ := brcells (HHT.out.get i0 (app_get (HG0.out _))); clear c5 c6 c7 c8 c9 c11 c12 c3 c4 c1 c0 hb))
    clear b10 b13 l3 k0 k1 k2 k3 k4 k5 c10 c13 m3 p0 p1 p2 p3 p4 p5 HRT HH8 HH9
    obtain ⟨y0, y1, y2, y3, y4⟩ := cfcell (HHT.out.get (L.length + 1) (app_new 1 (HLS.out _) rfl))
    go_upto_region 19 with (fail)
    generalize (Question.appendCap 1 0 5).cut (w9.tape w9.drawn (Question.appendCap 1 0 5)) = cc
    have hap := appd w9 (Obj.cells #[Value.int IntKind.u8 0] 5) #[Value.int IntKind.u8 0] (Builtin.zeroCells #[Value.int IntKind.u8 0] (cc - 1)) 5
    have HH10 := Lib.hid (HHT.out.below hap.2)
    have HCB := Lib.hid (show (((w9.alloc (Obj.cells #[Value.int IntKind.u8 0] 5)).alloc (Obj.cells (#[Value.int IntKind.u8 0] ++ (Builtin.zeroCells #[Value.int IntKind.u8 0] (cc - 1))) 5)).drew).cell? ⟨w9.heap.size + 1, 0, none⟩ = some (.int .u8 0) from hap.1.cell 0 _ rfl)
    clear hap y0 y1 y2 y3 y4 HHT
    generalize (((w9.alloc (Obj.cells #[Value.int IntKind.u8 0] 5)).alloc (Obj.cells (#[Value.int IntKind.u8 0] ++ (Builtin.zeroCells #[Value.int IntKind.u8 0] (cc - 1))) 5)).drew) = X10 at HH10 HCB ⊢
    generalize w9.heap.size + 1 = cb at HCB ⊢
    go_wp2
    rw [rounds_succ]
    obtain ⟨x0, x1, x2⟩ := frcell (HH10.out.get L.length (app_new 0 (HLS.out _) rfl))
    have q0 := HCB.out
    go_upto_region 20 with (fail)
    have hcv : (convert 35 9 (.slice (some ⟨cb, 0, none⟩) 1 cc)).run Tryz.prog X10 = .ok (.string ⟨#[0]⟩) X10 := run_convert_bytes_back X10 35 9 5 ⟨cb, 0, none⟩ cc [0] Tryz.underlying35 Tryz.underlying5 Tryz.underlying9 (fun k hk => by
      have hk1 : k = 0 := by have : k < 1 := hk; omega
      subst hk1
      exact HCB.out)
    have HS10 := Lib.hid (HSY.out X10 _ (hashO a) HH10.out)
    go_upto_region 21 with (first
      | (go_at_call 80; (with_reducible refine (HS10.out).mono ?_); rintro e w11 ⟨rfl, hh⟩; have HH11 := Lib.hid (show Held w11 ((subN L j2 j0 nx tp rt (hashO a)).set i6 (ci, connO wait came (said ++ toB (frB 9 0 suakB))) ++ ([(xb, (Obj.cells #[.int .u32 1, .slice none 0 0, .slice (some ad) 1 sc] 86)), (a3, (Obj.cells #[.string ⟨#[35]⟩, .int .u8 0, .bool false, .bool false, .int .u8 0] 83)), (kb, (Obj.cells #[.string ⟨#[35]⟩, .int .u8 0, .bool false, .bool false, .int .u8 0, .int .u32 0] 147))] ++ subNW a)) from by have h := hh; rw [set_app (HL6.out _)] at h; exact h); clear hh))
    have HOF := Lib.hid (offer0_calls (w := w11) (hb := hb))
    go_wp2_with (first
      | (go_at_call 159; (with_reducible refine (HOF.out).mono ?_); rintro e w12 ⟨rfl, hw⟩; have hw := hw.symm; subst hw))
    go_end0
    exact ⟨a, rfl, HH11.out.sub (List.Sublist.append_left (List.sublist_append_right _ _) _)⟩
theorem ta88_45 (u : Value) (w : World) : (Instr.typeAssert (.iface 88 u) 81 45 true).run Tryz.prog w = .ok (.tuple #[.agg #[.bool false, .bool false, .int .u8 0, .int .u32 0, .slice none 0 0, .string ⟨#[]⟩, .string ⟨#[]⟩], .bool false]) w := by kernel_rfl
theorem ta88_202 (u : Value) (w : World) : (Instr.typeAssert (.iface 88 u) 81 202 true).run Tryz.prog w = .ok (.tuple #[.agg #[.int .i64 0, .int .u32 0, .int .u8 0, .slice none 0 0], .bool false]) w := by kernel_rfl
theorem ta88_88 (u : Value) (w : World) : (Instr.typeAssert (.iface 88 u) 81 88 true).run Tryz.prog w = .ok (.tuple #[u, .bool true]) w := by kernel_rfl
theorem receive_sub {w : World} {L : List (Nat × Obj)} {hb l rd tb k s il i0 i2 sc : Nat} {ad : Addr} {lo : Nat → Nat} {es : Array MapEntry} (H : Held w L) (P1 : World → Prop) (h0 : L[i0]? = some (hb, brO lo)) (hl : L[il]? = some (l, linO 1 rd tb subS true)) (h2 : L[i2]? = some (lo 3, .map es k)) (hes : FStr es subS (.pointer (some ⟨s, 0, none⟩)))
    (aR : ∀ W, Below w.heap.size w W → Calls Tryz.prog 112 #[.pointer (some ⟨hb, 0, none⟩), .pointer (some ⟨l, 0, none⟩), suV ad sc] W (RetP (.tuple #[]) P1)) :
    Calls Tryz.prog 75 #[.pointer (some ⟨hb, 0, none⟩), .pointer (some ⟨l, 0, none⟩), .iface 88 (suV ad sc)] w (RetP (.tuple #[]) P1) := by
  obtain ⟨b5, b6, b7, b8, b9, b10, b11, b12, b13, b3, b4, b1, b0⟩ := brcells (H.get i0 h0)
  clear b5 b6 b8 b9 b10 b11 b12 b13 b3 b4 b1 b0
  obtain ⟨l0, l1, l2, l3, l4, l5⟩ := sixcell (H.get il hl)
  obtain ⟨q, hq⟩ := hes
  have hlk := look_h0 (w := w.drew) (mt := 100) (key := .string subS) Tryz.underlying100 Tryz.underlying9 (by simp [MapKept.IsKey]) (H.get i2 h2) hq
  have HR := Lib.hid aR
  unfold RetP at HR
  clear H h0 hl h2 hq aR
  unfold suV at HR ⊢
  go_enter Tryz.func75, Tryz.ntmps75
  go_upto_region 0 with (fail)
  go_region
  have HB := Lib.hid (Below.refl w.heap.size w).drew
  clear b7 l0 l1 l2 l3 l4 l5 hlk
  generalize w.drew = X at HB ⊢
  have hta := ta88_45 (suV ad sc) X
  have htb := ta88_202 (suV ad sc) X
  have htc := ta88_88 (suV ad sc) X
  unfold suV at hta htb htc
  go_upto_region 12 with (fail)
  have HX := Lib.hid (heap_alloc_new X (Obj.cells #[.int .u32 1, .slice none 0 0, .slice (some ad) 1 sc] 88))
  have HB2 := Lib.hid (Below.into HB.out (bel1 X (Obj.cells #[.int .u32 1, .slice none 0 0, .slice (some ad) 1 sc] 88)))
  clear hta htb htc
  generalize X.alloc (Obj.cells #[.int .u32 1, .slice none 0 0, .slice (some ad) 1 sc] 88) = Y at HX HB2 ⊢
  generalize X.heap.size = b at HX ⊢
  obtain ⟨x0, x1, x2⟩ := frcell HX.out
  go_wp2_with (first
    | (go_at_call 112; (with_reducible refine (HR.out _ HB2.out).mono ?_); rintro e w4 ⟨rfl, hp⟩; have HP4 := Lib.hid hp; clear hp))
  go_end0
  exact ⟨rfl, HP4.out⟩
def winO0 (pool : Nat) : Obj := .cells #[.pointer (some ⟨pool, 0, none⟩), .slice none 0 0, .int .i64 0] 345
theorem snew_held {w : World} {L : List (Nat × Obj)} (H : Held w L) (id : ByteArray) : Held (snewW w id) (L ++ [(w.heap.size + 5, winO0 (w.heap.size + 4)), (w.heap.size + 6, queO (.slice none 0 0)), (w.heap.size + 7, sessO id (w.heap.size + 2) (w.heap.size + 5) (w.heap.size + 6))]) := by
  have hb1 : Below w.heap.size w (w.alloc (Obj.cells #[.int .i64 40, .int .i64 30] 225)).drew := (bel1 w (Obj.cells #[.int .i64 40, .int .i64 30] 225)).drew
  have hb2 := Below.into hb1 (innew_below ((w.alloc (Obj.cells #[.int .i64 40, .int .i64 30] 225)).drew))
  have hb3 : Below w.heap.size w (idnewW (innewW (w.alloc (Obj.cells #[.int .i64 40, .int .i64 30] 225)).drew)) := bel_alloc (bel_alloc hb2)
  have hs : (idnewW (innewW (w.alloc (Obj.cells #[.int .i64 40, .int .i64 30] 225)).drew)).heap.size = w.heap.size + 5 := by simp [idnewW, innewW]
  have hs2 : (innewW (w.alloc (Obj.cells #[.int .i64 40, .int .i64 30] 225)).drew).heap.size = w.heap.size + 3 := by simp [innewW]
  have h1 := (H.below hb3).alloc (winO0 (w.heap.size + 4)) rfl
  have h2 := h1.alloc (queO (.slice none 0 0)) rfl
  have h3 := h2.alloc (sessO id (w.heap.size + 2) (w.heap.size + 5) (w.heap.size + 6)) rfl
  simp only [List.append_assoc, List.cons_append, List.nil_append, World.size_alloc, hs] at h3
  have hw : snewW w id = (((idnewW (innewW (w.alloc (Obj.cells #[.int .i64 40, .int .i64 30] 225)).drew)).alloc (winO0 (w.heap.size + 4))).alloc (queO (.slice none 0 0))).alloc (sessO id (w.heap.size + 2) (w.heap.size + 5) (w.heap.size + 6)) := by
    unfold snewW qunewW wdnewW winO0 queO
    rw [hs2]
  rw [hw]
  exact h3
theorem snew_below (w : World) (id : ByteArray) : Below w.heap.size w (snewW w id) := by
  unfold snewW
  exact bel_alloc (Below.into (Below.into (Below.into (bel1 w _).drew (innew_below _)) (wdnew_below _)) (qunew_below _))
def conV (id : ByteArray) : Value := .agg #[.bool false, .int .u32 0, .slice none 0 0, .string id, .bool false, .slice none 0 0, .string ⟨#[]⟩, .string ⟨#[]⟩, .int .u8 0, .bool false, .bool false, .bool false, .string ⟨#[]⟩, .string ⟨#[]⟩]
def conO (id : ByteArray) : Obj := .cells #[.bool false, .int .u32 0, .slice none 0 0, .string id, .bool false, .slice none 0 0, .string ⟨#[]⟩, .string ⟨#[]⟩, .int .u8 0, .bool false, .bool false, .bool false, .string ⟨#[]⟩, .string ⟨#[]⟩] 72
theorem concells {w : World} {b : Nat} {id : ByteArray} (h : w.heap[b]? = some (conO id)) : w.cell? ⟨b, 0, none⟩ = some (.bool false) ∧ w.cell? ⟨b, 1, none⟩ = some (.int .u32 0) ∧ w.cell? ⟨b, 2, none⟩ = some (.slice none 0 0) ∧ w.cell? ⟨b, 3, none⟩ = some (.string id) ∧ w.cell? ⟨b, 4, none⟩ = some (.bool false) :=
  ⟨(blk_cell h 0).trans rfl, (blk_cell h 1).trans rfl, (blk_cell h 2).trans rfl, (blk_cell h 3).trans rfl, (blk_cell h 4).trans rfl⟩
def tmO (m : Nat) : Obj := .cells #[.map (some m)] 160
def wlO (m t : Nat) : Obj := .cells #[.map (some m), .pointer (some ⟨t, 0, none⟩)] 157
theorem puts_2 {id n : Nat} (h : id < 128) (h0 : 0 < id) (hk : kindOf (id : Int) = 2) : putsB ⟨id, n, ⟨#[]⟩, ⟨#[]⟩⟩ = UInt8.ofNat id :: be2 (n % 65536) := by
  have hkk : PR.k ⟨id, n, ⟨#[]⟩, ⟨#[]⟩⟩ = 2 := hk
  unfold putsB propB
  rw [hkk, if_pos ⟨h0, by decide⟩, varU_lt h]
  rfl
theorem puts_3 {id n : Nat} (h : id < 128) (h0 : 0 < id) (hk : kindOf (id : Int) = 3) : putsB ⟨id, n, ⟨#[]⟩, ⟨#[]⟩⟩ = UInt8.ofNat id :: be4 n := by
  have hkk : PR.k ⟨id, n, ⟨#[]⟩, ⟨#[]⟩⟩ = 3 := hk
  unfold putsB propB
  rw [hkk, if_pos ⟨h0, by decide⟩, varU_lt h]
  rfl
theorem ckL_b : propsB ckL = [33, 0, 30, 39, 0, 0, 7, 208, 34, 0, 9] := by
  unfold propsB ckL
  rw [List.flatMap_cons, List.flatMap_cons, List.flatMap_cons, List.flatMap_nil, puts_2 (by decide) (by decide) (by kernel_rfl), puts_3 (by decide) (by decide) (by kernel_rfl), puts_2 (by decide) (by decide) (by kernel_rfl)]
  decide
theorem kindNe {i : Int} {a : Nat} (h : kindOf i = a) (h4 : a ≠ 4) : kindOf i ≠ 4 := h ▸ h4
theorem pr_ok {id n : Nat} (h : id ≤ 268435455) (h2 : n ≤ 4294967295) (h4 : kindOf (id : Int) ≠ 4) : PR.Ok ⟨id, n, ⟨#[]⟩, ⟨#[]⟩⟩ := ⟨h, h2, fun e => absurd e h4, Nat.zero_le _, Nat.zero_le _⟩
theorem ckL_ok : LOk ckL := by
  refine ⟨fun p hp => ?_, by rw [ckL_b]; decide, by decide⟩
  rcases List.mem_cons.1 hp with rfl | hp
  · exact pr_ok (by decide) (by decide) (kindNe (a := 2) (by kernel_rfl) (by decide))
  rcases List.mem_cons.1 hp with rfl | hp
  · exact pr_ok (by decide) (by decide) (kindNe (a := 3) (by kernel_rfl) (by decide))
  rcases List.mem_cons.1 hp with rfl | hp
  · exact pr_ok (by decide) (by decide) (kindNe (a := 2) (by kernel_rfl) (by decide))
  cases hp
theorem ck_frame {w : World} {B c : Nat} (hp : PL w (some ⟨B, 0, none⟩) ckL) (hc : 3 ≤ c) : FrameIs w 78 (ckV B c) 2 0 ckB 393 := fun W hb => ckframe (Lib.hid (fun W2 hb2 => cktext_calls ckD (some ⟨B, 0, none⟩) c ⟨by decide, ckL_ok⟩ hc (hp.to (hb.trans (hb2.mono hb.size)))))
theorem ckB_size : ckB.size = 14 := by
  unfold ckB
  rw [toB_size]
  unfold CD.body putB ckD
  rw [ckL_b, varU_lt (by decide)]
  rfl
theorem ck_len : (frB 2 0 ckB).length = 16 := by
  unfold frB
  rw [ckB_size, varU_lt (by decide), List.length_cons, List.length_append, ← Lib.size_eq, ckB_size]
  rfl
theorem ck_text {w : World} {B c : Nat} (hp : PL w (some ⟨B, 0, none⟩) ckL) (hc : 3 ≤ c) : Calls Tryz.prog 22 #[.iface 78 (ckV B c)] w (RB (.string (toB (frB 2 0 ckB))) w) := text_95 _ 2 0 _ (by decide) (by decide) (by rw [ckB_size]; decide) (ck_frame hp hc)
theorem app_set {L M : List (Nat × Obj)} (n : Nat) (x : Nat × Obj) : (L ++ M).set (L.length + n) x = L ++ M.set n x := by
  rw [List.set_append_right _ _ (Nat.le_add_right _ _), Nat.add_sub_cancel_left]
def ConnectP (L : List (Nat × Obj)) (i2 i3 il i6 k2 k3 l rd tb ci came : Nat) (lo : Nat → Nat) (es2 es3 : Array MapEntry) (c : Int) (id wait said : ByteArray) (e : Ending) (w' : World) : Prop := ∃ inn win pool que s : Nat, e = .returned (.tuple #[]) ∧ Held w' (((((L.set i2 (lo 3, .map (es2.push ⟨.string id, .pointer (some ⟨s, 0, none⟩), k2⟩) (k2 + 1))).set il (l, linO c rd tb id true)).set i3 (lo 4, .map (es3.push ⟨.string id, .pointer (some ⟨l, 0, none⟩), k3⟩) (k3 + 1))).set i6 (ci, connO wait came (said ++ toB (frB 2 0 ckB)))) ++ [(win, winO pool), (que, queO (.slice none 0 0)), (s, sesO id inn win que)])
theorem connect_calls {w : World} {L : List (Nat × Obj)} {hb l rd tb k2 k3 tm wm tu tum nm kN ci came : Nat} {lo : Nat → Nat} {es2 es3 esN : Array MapEntry} {c : Int} {id wait said : ByteArray} (H : Held w L) {i0 il i2 i3 it jt iw jw iu ju i4 i5 i6 : Nat}
    (h0 : L[i0]? = some (hb, brO lo)) (hl : L[il]? = some (l, linO c rd tb ⟨#[]⟩ false)) (h2 : L[i2]? = some (lo 3, .map es2 k2)) (hf2 : Instr.findNow .string (.string id) es2.toList 0 = some none) (hp2 : ∀ v, FStr (es2.push ⟨.string id, v, k2⟩) id v) (h3 : L[i3]? = some (lo 4, .map es3 k3)) (hf3 : Instr.findNow .string (.string id) es3.toList 0 = some none)
    (ht : L[it]? = some (lo 10 + 1, tmO tm)) (htm : L[jt]? = some (tm, .map #[] 0)) (hwl : L[iw]? = some (lo 9 + 3, wlO wm tu)) (hu : L[iu]? = some (tu, tmO tum)) (hum : L[ju]? = some (tum, .map #[] 0)) (hwm : L[jw]? = some (wm, .map #[] 0))
    (h4 : L[i4]? = some (lo 1 + 1, netO nm)) (h5 : L[i5]? = some (nm, .map esN kN)) (hN : FInt esN c (.pointer (some ⟨ci, 0, none⟩))) (h6 : L[i6]? = some (ci, connO wait came said))
    (hid : id.toList.isEmpty = false) (hsz : id.size ≤ 100) (hz : said.size ≤ 100000)
    (n23 : i2 ≠ i3) (n2t : i2 ≠ jt) (n3t : i3 ≠ jt) (n2w : i2 ≠ jw) (n3w : i3 ≠ jw) (n2u : i2 ≠ ju) (n3u : i3 ≠ ju) (n25 : i2 ≠ i5) (n35 : i3 ≠ i5) :
    Calls Tryz.prog 74 #[.pointer (some ⟨hb, 0, none⟩), .pointer (some ⟨l, 0, none⟩), conV id] w (ConnectP L i2 i3 il i6 k2 k3 l rd tb ci came lo es2 es3 c id wait said) := by
  unfold conV
  have HH := Lib.hid (show Held (w.alloc (Obj.cells #[.bool false, .int .u32 0, .slice none 0 0, .string id, .bool false, .slice none 0 0, .string ⟨#[]⟩, .string ⟨#[]⟩, .int .u8 0, .bool false, .bool false, .bool false, .string ⟨#[]⟩, .string ⟨#[]⟩] 72)) (L ++ [(w.heap.size, conO id)]) from H.alloc (Obj.cells #[.bool false, .int .u32 0, .slice none 0 0, .string id, .bool false, .slice none 0 0, .string ⟨#[]⟩, .string ⟨#[]⟩, .int .u8 0, .bool false, .bool false, .bool false, .string ⟨#[]⟩, .string ⟨#[]⟩] 72) rfl)
  have HI0 := Lib.hid h0
  have HIL := Lib.hid hl
  have HI2 := Lib.hid h2
  have HI3 := Lib.hid h3
  have HF2 := Lib.hid hf2
  have HF3 := Lib.hid hf3
  have HG := Lib.hid (fun W => getn_calls (w := W) 21)
  unfold RB prop0 at HG
  clear H h0 hl h2 h3 hf2 hf3
  go_enter Tryz.func74, Tryz.ntmps74
  go_upto_region 1 with (fail)
  generalize w.alloc (Obj.cells #[.bool false, .int .u32 0, .slice none 0 0, .string id, .bool false, .slice none 0 0, .string ⟨#[]⟩, .string ⟨#[]⟩, .int .u8 0, .bool false, .bool false, .bool false, .string ⟨#[]⟩, .string ⟨#[]⟩] 72) = X at HH ⊢
  generalize w.heap.size = b at HH ⊢
  obtain ⟨x0, x1, x2, x3, x4⟩ := concells (HH.out.get L.length (app_new 0 rfl rfl))
  go_upto_region 2 with (first
    | (go_at_call 12; (with_reducible refine (HG.out _).mono ?_); rintro e w2 ⟨rfl, hb⟩; have hk := bel_alloc (o := (Obj.cells #[.int .i64 0, .int .u32 0, .string ⟨#[]⟩, .string ⟨#[]⟩] 38)) hb; have HH2 := Lib.hid (HH.out.below hk); clear hb hk))
  clear x0 x1 x2 x3 x4 HH HG
  generalize w2.alloc (Obj.cells #[.int .i64 0, .int .u32 0, .string ⟨#[]⟩, .string ⟨#[]⟩] 38) = Y at HH2 ⊢
  obtain ⟨x0, x1, x2, x3, x4⟩ := concells (HH2.out.get L.length (app_new 0 rfl rfl))
  obtain ⟨b5, b6, b7, b8, b9, b10, b11, b12, b13, b3, b4, b1, b0⟩ := brcells (HH2.out.get i0 (app_get HI0.out))
  clear b5 b6 b9 b10 b11 b12 b13 b3 b4
  have hlk := look_m0 (w := Y) (mt := 101) (key := .string id) Tryz.underlying101 Tryz.underlying9 (by simp [MapKept.IsKey]) (Tryz.zeroValue120 Y) (HH2.out.get i3 (app_get HI3.out)) HF3.out
  have hlk2 := look_m0 (w := Y) (mt := 100) (key := .string id) Tryz.underlying100 Tryz.underlying9 (by simp [MapKept.IsKey]) (Tryz.zeroValue189 Y) (HH2.out.get i2 (app_get HI2.out)) HF2.out
  go_upto_region 20 with (fail)
  have HHD := Lib.hid (HH2.out.below (Below.refl Y.heap.size Y).drew)
  have HSN := Lib.hid (snew_calls (w := Y.drew) id)
  have HSB := Lib.hid (snew_below Y.drew id)
  obtain ⟨bw, HBW⟩ : ∃ bw, Hid (bw = Y.heap.size + 5) := ⟨_, Lib.hid rfl⟩
  have HH4 := Lib.hid (show Held (snewW Y.drew id) (L ++ [(b, conO id), (bw, winO0 (bw - 1)), (bw + 1, queO (.slice none 0 0)), (bw + 2, sessO id (bw - 3) bw (bw + 1))]) from by have h := snew_held HHD.out id; simp only [List.append_assoc, List.cons_append, List.nil_append] at h; rw [HBW.out]; exact h)
  have HBX := Lib.hid (show Y.drew.heap.size + 7 = bw + 2 from by rw [HBW.out]; rfl)
  clear hlk hlk2 x0 x1 x2 x3 x4 b7 b8 HH2
  go_region_held3 (fun w' => w'.cell? ⟨hb, 0, none⟩ = some (.int .i64 40) ∧ w'.cell? ⟨hb, 1, none⟩ = some (.int .i64 30)) (first | exact ⟨b0, b1⟩ | exact ⟨c0, c1⟩ | go_keep) (first
    | (go_at_call 102; (with_reducible refine (HSN.out).mono ?_); rintro e w3 ⟨rfl, hw⟩; have hw := hw.symm; subst hw; obtain ⟨c5, c6, c7, c8, c9, c10, c11, c12, c13, c3, c4, c1, c0⟩ := brcells (HH4.out.get i0 (app_get HI0.out)); clear c5 c6 c7 c8 c9 c10 c11 c12 c13 c3 c4; rw [HBX.out]))
  clear b0 b1 c0 c1 HSN HSB HHD HBX HBW
  generalize snewW Y.drew id = Z at HH4 ⊢
  obtain ⟨b5, b6, b7, b8, b9, b10, b11, b12, b13, b3, b4, b1, b0⟩ := brcells (HH4.out.get i0 (app_get HI0.out))
  clear b5 b6 b8 b9 b10 b11 b12 b13 b3 b4 b1 b0
  have hput := put_new (w := Z) (mt := 100) (key := .string id) (v := .pointer (some ⟨bw + 2, 0, none⟩)) Tryz.underlying100 Tryz.underlying9 (by simp [MapKept.IsKey]) (HH4.out.get i2 (app_get HI2.out)) HF2.out
  have HL2 := Lib.hid (List.getElem?_eq_some_iff.1 HI2.out).1
  obtain ⟨L1, HL1⟩ : ∃ L1, Hid (L1 = L.set i2 (lo 3, (Obj.map (es2.push ⟨.string id, .pointer (some ⟨bw + 2, 0, none⟩), k2⟩) (k2 + 1)))) := ⟨_, Lib.hid rfl⟩
  have HH5 := Lib.hid (show Held (ChangeMaps.setBlock Z (lo 3) (Obj.map (es2.push ⟨.string id, .pointer (some ⟨bw + 2, 0, none⟩), k2⟩) (k2 + 1))) (L1 ++ [(b, conO id), (bw, winO0 (bw - 1)), (bw + 1, queO (.slice none 0 0)), (bw + 2, sessO id (bw - 3) bw (bw + 1))]) from by have h := HH4.out.set i2 (app_get HI2.out) (setB_chg Z (lo 3) (Obj.map (es2.push ⟨.string id, .pointer (some ⟨bw + 2, 0, none⟩), k2⟩) (k2 + 1))) (setB_at _ (HH4.out.get i2 (app_get HI2.out))); rw [set_app HL2.out, ← HL1.out] at h; exact h)
  go_upto_region 22 with (fail)
  clear hput b7 HH4
  generalize ChangeMaps.setBlock Z (lo 3) (Obj.map (es2.push ⟨.string id, .pointer (some ⟨bw + 2, 0, none⟩), k2⟩) (k2 + 1)) = V at HH5 ⊢
  have HV0 := Lib.hid (HH5.out.below (Below.refl V.heap.size V).drew)
  have HNU := Lib.hid (fun W k d => num_calls (w := W) k d)
  unfold RB at HNU
  have HST := Lib.hid (fun W (h : Held W (L1 ++ [(b, conO id), (bw, winO0 (bw - 1)), (bw + 1, queO (.slice none 0 0)), (bw + 2, sessO id (bw - 3) bw (bw + 1))])) => show Calls Tryz.prog 103 #[.pointer (some ⟨bw + 2, 0, none⟩), .agg #[.int .i64 (IntKind.i64.wrap 65535), .int .i64 (IntKind.i64.wrap 4294967295), .int .u32 0]] W (StartP W (bw + 2) id 65535 4294967295 0 (bw - 3) bw (bw - 1) (bw + 1)) from start_calls (h.get (L1.length + 3) (app_new 3 rfl rfl)) (h.get (L1.length + 1) (app_new 1 rfl rfl)) 65535 (by decide) 4294967295 0)
  unfold StartP at HST
  obtain ⟨x0, x1, x2, x3, x4⟩ := concells (HV0.out.get L1.length (app_new 0 rfl rfl))
  clear HH5 x0 x1 x3 x4
  go_region_held3 (fun w' => w'.cell? ⟨b, 2, none⟩ = some (.slice none 0 0)) (first | exact x2 | exact y2 | exact z2 | exact u2 | exact v2 | go_keep) (first
    | (go_at_call 104; (with_reducible refine (HNU.out _ _ _).mono ?_); rintro e w4 ⟨rfl, hq⟩; first | (have HV3 := Lib.hid (HV2.out.below hq); obtain ⟨u0, u1, u2, u3, u4⟩ := concells (HV3.out.get L1.length (app_new 0 rfl rfl)); clear u0 u1 u3 u4; have HSR := Lib.hid (HST.out _ HV3.out)) | (have HV2 := Lib.hid (HV1.out.below hq); obtain ⟨z0, z1, z2, z3, z4⟩ := concells (HV2.out.get L1.length (app_new 0 rfl rfl)); clear z0 z1 z3 z4) | (have HV1 := Lib.hid (HV0.out.below hq); obtain ⟨y0, y1, y2, y3, y4⟩ := concells (HV1.out.get L1.length (app_new 0 rfl rfl)); clear y0 y1 y3 y4); clear hq)
    | (go_at_call 103; (with_reducible refine (HSR.out).mono ?_); rintro e w5 ⟨rfl, hse, hwi, hch⟩; have HV4 := Lib.hid (show Held w5 (L1 ++ [(b, conO id), (bw, winO (bw - 1)), (bw + 1, queO (.slice none 0 0)), (bw + 2, sesO id (bw - 3) bw (bw + 1))]) from by have h := HV3.out.set2 (L1.length + 3) (app_new 3 rfl rfl) (L1.length + 1) (by rw [app_set]; exact app_new 1 rfl rfl) hch hse hwi; rw [app_set, app_set] at h; exact h); obtain ⟨v0, v1, v2, v3, v4⟩ := concells (HV4.out.get L1.length (app_new 0 rfl rfl)); clear v0 v1 v3 v4 hse hwi hch))
  clear x2 y2 z2 u2 v2 HNU HST HSR HV0 HV1 HV2 HV3
  obtain ⟨x0, x1, x2, x3, x4⟩ := concells (HV4.out.get L1.length (app_new 0 rfl rfl))
  have HIL1 := Lib.hid (show L1[il]? = some (l, linO c rd tb ⟨#[]⟩ false) from by rw [HL1.out]; exact set_other HIL.out (idx_obj HI2.out HIL.out (by intro h; cases h)))
  have HI01 := Lib.hid (show L1[i0]? = some (hb, brO lo) from by rw [HL1.out]; exact set_other HI0.out (idx_obj HI2.out HI0.out (by intro h; cases h)))
  have HI31 := Lib.hid (show L1[i3]? = some (lo 4, .map es3 k3) from by rw [HL1.out]; exact set_other HI3.out n23)
  have hnl : b ≠ l := fun e => by
    have h1 := HV4.out.get L1.length (app_new 0 rfl rfl)
    have h2 := HV4.out.get il (app_get HIL1.out)
    rw [e, h2] at h1
    injection h1 with h1
    injection h1 with _ h1 _
    exact absurd h1 (by decide)
  have hnl2 := hnl.symm
  have hgl := HV4.out.get il (app_get HIL1.out)
  obtain ⟨l0, l1, l2, l3, l4, l5⟩ := sixcell hgl
  have f3 := blk_frozen hgl 3
  have f4 := blk_frozen hgl 4
  have f5 := blk_frozen hgl 5
  clear hgl
  go_upto_region 23 with (fail)
  go_region
  obtain ⟨L2, HE2⟩ : ∃ L2, Hid (L2 = L1.set il (l, linO c rd tb id true)) := ⟨_, Lib.hid rfl⟩
  have HLL1 := Lib.hid (List.getElem?_eq_some_iff.1 HIL1.out).1
  have HV5 := Lib.hid (show Held ((((w5.setCell ⟨l, 3, none⟩ (.string id)).setCell ⟨l, 4, none⟩ (.bool true)).setCell ⟨l, 5, none⟩ (.int .i64 0)).drew) (L2 ++ [(b, conO id), (bw, winO (bw - 1)), (bw + 1, queO (.slice none 0 0)), (bw + 2, sesO id (bw - 3) bw (bw + 1))]) from by
    have hg := HV4.out.get il (app_get HIL1.out)
    have hch : Chg (fun k => k = l) w5 ((((w5.setCell ⟨l, 3, none⟩ (.string id)).setCell ⟨l, 4, none⟩ (.bool true)).setCell ⟨l, 5, none⟩ (.int .i64 0)).drew) := (((chg_setc' l 3 _).trans (chg_setc' l 4 _)).trans (chg_setc' l 5 _)).drew
    have h := HV4.out.set (o' := linO c rd tb id true) il (app_get HIL1.out) hch (blk_put (blk_put (blk_put hg 3 (.string id) rfl) 4 (.bool true) rfl) 5 (.int .i64 0) rfl)
    rw [set_app HLL1.out, ← HE2.out] at h
    exact h)
  have HX32 := Lib.hid (show il ≠ i3 from idx_obj HIL1.out HI31.out (by intro h; cases h))
  have HI32 := Lib.hid (show L2[i3]? = some (lo 4, .map es3 k3) from by rw [HE2.out]; exact set_other HI31.out HX32.out)
  have HI02 := Lib.hid (show L2[i0]? = some (hb, brO lo) from by rw [HE2.out]; exact set_other HI01.out (idx_obj HIL1.out HI01.out (cells_ne (by decide))))
  generalize ((((w5.setCell ⟨l, 3, none⟩ (.string id)).setCell ⟨l, 4, none⟩ (.bool true)).setCell ⟨l, 5, none⟩ (.int .i64 0)).drew) = V5 at HV5 ⊢
  clear x0 x1 x2 x3 x4 l0 l1 l2 l3 l4 l5 f3 f4 f5 hnl hnl2 HV4
  have hput := put_new (w := V5) (mt := 101) (key := .string id) (v := .pointer (some ⟨l, 0, none⟩)) Tryz.underlying101 Tryz.underlying9 (by simp [MapKept.IsKey]) (HV5.out.get i3 (app_get HI32.out)) HF3.out
  have HLL2 := Lib.hid (List.getElem?_eq_some_iff.1 HI32.out).1
  obtain ⟨L3, HE3⟩ : ∃ L3, Hid (L3 = L2.set i3 (lo 4, (Obj.map (es3.push ⟨.string id, .pointer (some ⟨l, 0, none⟩), k3⟩) (k3 + 1)))) := ⟨_, Lib.hid rfl⟩
  have HV6 := Lib.hid (show Held (ChangeMaps.setBlock V5 (lo 4) (Obj.map (es3.push ⟨.string id, .pointer (some ⟨l, 0, none⟩), k3⟩) (k3 + 1))) (L3 ++ [(b, conO id), (bw, winO (bw - 1)), (bw + 1, queO (.slice none 0 0)), (bw + 2, sesO id (bw - 3) bw (bw + 1))]) from by have h := HV5.out.set i3 (app_get HI32.out) (setB_chg V5 (lo 4) (Obj.map (es3.push ⟨.string id, .pointer (some ⟨l, 0, none⟩), k3⟩) (k3 + 1))) (setB_at _ (HV5.out.get i3 (app_get HI32.out))); rw [set_app HLL2.out, ← HE3.out] at h; exact h)
  obtain ⟨b5, b6, b7, b8, b9, b10, b11, b12, b13, b3, b4, b1, b0⟩ := brcells (HV5.out.get i0 (app_get HI02.out))
  clear b5 b6 b7 b9 b10 b11 b12 b13 b3 b4 b1 b0
  go_upto_region 25 with (fail)
  clear hput b8 HV5
  generalize ChangeMaps.setBlock V5 (lo 4) (Obj.map (es3.push ⟨.string id, .pointer (some ⟨l, 0, none⟩), k3⟩) (k3 + 1)) = V6 at HV6 ⊢
  have get3 : ∀ {i : Nat} {x : Nat × Obj}, L[i]? = some x → i2 ≠ i → il ≠ i → i3 ≠ i → L3[i]? = some x := fun h a1 a2 a3 => by rw [HE3.out]; refine set_other ?_ a3; rw [HE2.out]; refine set_other ?_ a2; rw [HL1.out]; exact set_other h a1
  have G0 := Lib.hid (get3 HI0.out (idx_obj HI2.out HI0.out (by intro h; cases h)) (idx_obj HIL.out HI0.out (cells_ne (by decide))) (idx_obj HI3.out HI0.out (by intro h; cases h)))
  have GT := Lib.hid (get3 ht (idx_obj HI2.out ht (by intro h; cases h)) (idx_obj HIL.out ht (cells_ne (by decide))) (idx_obj HI3.out ht (by intro h; cases h)))
  have GTM := Lib.hid (get3 htm n2t (idx_obj HIL.out htm (by intro h; cases h)) n3t)
  have GW := Lib.hid (get3 hwl (idx_obj HI2.out hwl (by intro h; cases h)) (idx_obj HIL.out hwl (cells_ne (by decide))) (idx_obj HI3.out hwl (by intro h; cases h)))
  have GU := Lib.hid (get3 hu (idx_obj HI2.out hu (by intro h; cases h)) (idx_obj HIL.out hu (cells_ne (by decide))) (idx_obj HI3.out hu (by intro h; cases h)))
  have GUM := Lib.hid (get3 hum n2u (idx_obj HIL.out hum (by intro h; cases h)) n3u)
  have GWM := Lib.hid (get3 hwm n2w (idx_obj HIL.out hwm (by intro h; cases h)) n3w)
  have G4 := Lib.hid (get3 h4 (idx_obj HI2.out h4 (by intro h; cases h)) (idx_obj HIL.out h4 (cells_ne (by decide))) (idx_obj HI3.out h4 (by intro h; cases h)))
  have G5 := Lib.hid (get3 h5 n25 (idx_obj HIL.out h5 (by intro h; cases h)) n35)
  have G6 := Lib.hid (get3 h6 (idx_obj HI2.out h6 (by intro h; cases h)) (idx_obj HIL.out h6 (cells_ne (by decide))) (idx_obj HI3.out h6 (by intro h; cases h)))
  have GL := Lib.hid (show L3[il]? = some (l, linO c rd tb id true) from by rw [HE3.out]; refine set_other ?_ HX32.out.symm; rw [HE2.out]; exact List.getElem?_set_self HLL1.out)
  have G2 := Lib.hid (show L3[i2]? = some (lo 3, (Obj.map (es2.push ⟨.string id, .pointer (some ⟨bw + 2, 0, none⟩), k2⟩) (k2 + 1))) from by rw [HE3.out]; refine set_other ?_ n23.symm; rw [HE2.out]; refine set_other ?_ (idx_obj HIL.out HI2.out (by intro h; cases h)); rw [HL1.out]; exact List.getElem?_set_self HL2.out)
  clear get3 ht htm hwl hu hum hwm h4 h5 h6 n23 n2t n3t n2w n3w n2u n3u n25 n35
  have HV7 := Lib.hid (HV6.out.below (Below.refl V6.heap.size V6).drew)
  have HEK := Lib.hid (endkey_calls (w := V6.drew) id (by omega))
  have HSP := Lib.hid (fun s => stop_calls (w := V6.drew) ⟨HV7.out.get it (app_get GT.out), HV7.out.get jt (app_get GTM.out)⟩ s)
  obtain ⟨b5, b6, b7, b8, b9, b10, b11, b12, b13, b3, b4, b1, b0⟩ := brcells (HV7.out.get i0 (app_get G0.out))
  clear b5 b6 b7 b8 b9 b10 b11 b13 b3 b4 b1 b0 HV6
  go_region_held3 (fun w' => w'.cell? ⟨hb, 12, none⟩ = some (.pointer (some ⟨lo 10 + 1, 0, none⟩))) (first | exact b12 | go_keep) (first
    | (go_at_call 105; (with_reducible refine (HEK.out).mono ?_); rintro e w6 ⟨rfl, hq⟩; have hq := hq.symm; subst hq)
    | (go_at_call 96; (with_reducible refine (HSP.out _).mono ?_); rintro e w7 ⟨rfl, hq⟩; have hq := hq.symm; subst hq))
  clear b12 HEK HSP
  generalize V6.drew = V7 at HV7 ⊢
  have HV8 := Lib.hid (HV7.out.below (Below.refl V7.heap.size V7).drew)
  have HEK := Lib.hid (willkey_calls (w := V7.drew) id (by omega))
  have HSP := Lib.hid (fun s => stop_calls (w := V7.drew) ⟨HV8.out.get it (app_get GT.out), HV8.out.get jt (app_get GTM.out)⟩ s)
  obtain ⟨b5, b6, b7, b8, b9, b10, b11, b12, b13, b3, b4, b1, b0⟩ := brcells (HV8.out.get i0 (app_get G0.out))
  clear b5 b6 b7 b8 b9 b10 b11 b13 b3 b4 b1 b0 HV7
  go_upto_region 26 with (fail)
  go_region_held3 (fun w' => w'.cell? ⟨hb, 12, none⟩ = some (.pointer (some ⟨lo 10 + 1, 0, none⟩))) (first | exact b12 | go_keep) (first
    | (go_at_call 106; (with_reducible refine (HEK.out).mono ?_); rintro e w6 ⟨rfl, hq⟩; have hq := hq.symm; subst hq)
    | (go_at_call 96; (with_reducible refine (HSP.out _).mono ?_); rintro e w7 ⟨rfl, hq⟩; have hq := hq.symm; subst hq))
  clear b12 HEK HSP
  generalize V7.drew = V8 at HV8 ⊢
  have HWD := Lib.hid (wdrop_calls (w := V8) ⟨HV8.out.get iw (app_get GW.out), HV8.out.get jw (app_get GWM.out), ⟨HV8.out.get iu (app_get GU.out), HV8.out.get ju (app_get GUM.out)⟩⟩ id)
  have HV9 := Lib.hid (HV8.out.below (bel1 V8 heldO))
  obtain ⟨b5, b6, b7, b8, b9, b10, b11, b12, b13, b3, b4, b1, b0⟩ := brcells (HV8.out.get i0 (app_get G0.out))
  clear b5 b6 b7 b8 b9 b10 b12 b13 b3 b4 b1 b0 HV8
  go_upto_region 28 with (first
    | (go_at_call 107; (with_reducible refine (HWD.out).mono ?_); rintro e w7 ⟨rfl, hq⟩; have hq := hq.symm; subst hq))
  clear b11 HWD
  generalize V8.alloc heldO = V9 at HV9 ⊢
  obtain ⟨x0, x1, x2, x3, x4⟩ := concells (HV9.out.get L3.length (app_new 0 rfl rfl))
  have HAL := Lib.hid (alive_calls (hb := hb) (HV9.out.get il (app_get GL.out)))
  unfold RB at HAL
  clear x0 x1 x2 x3
  go_upto_region 31 with (first
    | (go_at_call 76; (with_reducible refine (HAL.out).mono ?_); rintro e w7 ⟨rfl, hq⟩; have HVA := Lib.hid (HV9.out.below hq); clear hq))
  clear x4 HAL HV9
  have HOF := Lib.hid (offers_calls (HVA.out.get i0 (app_get G0.out)))
  unfold OffersP at HOF
  have HSAY := Lib.hid (fun W Bk cc (hW : Held W (L3 ++ [(b, conO id), (bw, winO (bw - 1)), (bw + 1, queO (.slice none 0 0)), (bw + 2, sesO id (bw - 3) bw (bw + 1))])) (hpl : PL W (some ⟨Bk, 0, none⟩) ckL) (hcc : 3 ≤ cc) => say_ck hW (app_get G0.out) (app_get GL.out) (app_get G2.out) (hp2 _) (app_new 3 rfl rfl) (app_get G4.out) (app_get G5.out) hN (app_get G6.out) (txt := toB (frB 2 0 ckB)) (by rw [toB_size, ck_len]; omega) (ck_frame hpl hcc) (fun W2 hb2 => ck_text (hpl.to hb2) hcc) (by rw [ckB_size]; decide))
  unfold HeldP ckV at HSAY
  have HRES := Lib.hid (List.getElem?_eq_some_iff.1 G6.out).1
  clear hp2 hN hz hsz
  go_wp2_with (first
    | (go_at_call 109; (with_reducible refine (HOF.out).mono ?_); rintro e w8 ⟨Bk, cc, rfl, hcc, hge, hrow, hq⟩; have HS2 := Lib.hid (HSAY.out w8 Bk cc (HVA.out.below hq) (ck_pl hrow) hcc); clear hge hrow hq)
    | (go_at_call 80; (with_reducible refine (HS2.out).mono ?_); rintro e w9 ⟨rfl, hq⟩; have HFI := Lib.hid hq; clear hq))
  go_end0
  have h := HFI.out
  rw [set_app HRES.out, HE3.out, HE2.out, HL1.out] at h
  exact ⟨bw - 3, bw, bw - 1, bw + 1, bw + 2, rfl, h.sub (List.Sublist.append_left (List.sublist_cons_self _ _) _)⟩
theorem ta74_74 (u : Value) (w : World) : (Instr.typeAssert (.iface 74 u) 81 74 true).run Tryz.prog w = .ok (.tuple #[u, .bool true]) w := by kernel_rfl
theorem frame_74 {w : World} {L : List (Nat × Obj)} {hb l rd tb il k f : Nat} {c : Int} {id cl B : ByteArray} (H : Held w L) (hM : HasM w) (hl : L[il]? = some (l, linO c rd tb cl false)) (P1 : World → Prop)
    (aP : ∀ W, HasM W → Calls Tryz.prog 50 #[fr k f B] W (RB (.tuple #[.iface 74 (conV id), .int .i64 0]) W))
    (aR : ∀ W, Held W L → HasM W → Calls Tryz.prog 74 #[.pointer (some ⟨hb, 0, none⟩), .pointer (some ⟨l, 0, none⟩), conV id] W (RetP (.tuple #[]) P1))
    (aL : ∀ W, P1 W → ∃ cl, W.heap[l]? = some (linO c rd tb cl true)) :
    Calls Tryz.prog 45 #[.pointer (some ⟨hb, 0, none⟩), .pointer (some ⟨l, 0, none⟩), fr k f B] w (RetP (.tuple #[]) P1) := by
  unfold fr at aP ⊢
  have HX := Lib.hid (heap_alloc_new w (Obj.cells #[.int .i64 (k : Nat), .int .i64 (f : Nat), .string B] 128))
  have HH := Lib.hid (H.below (bel1 w (Obj.cells #[.int .i64 (k : Nat), .int .i64 (f : Nat), .string B] 128)))
  have HMM := Lib.hid (hM.to (bel1 w (Obj.cells #[.int .i64 (k : Nat), .int .i64 (f : Nat), .string B] 128)))
  have HP := Lib.hid aP
  have HR := Lib.hid aR
  have HL := Lib.hid aL
  have HLI := Lib.hid hl
  unfold RetP at HR
  unfold RB conV at HP
  unfold conV at HR
  clear H hM hl aP aR aL
  go_enter Tryz.func45, Tryz.ntmps45
  go_upto_region 1 with (fail)
  generalize w.alloc (Obj.cells #[.int .i64 (k : Nat), .int .i64 (f : Nat), .string B] 128) = X at HX HH HMM ⊢
  generalize w.heap.size = b at HX ⊢
  obtain ⟨x0, x1, x2⟩ := frcell HX.out
  go_upto_region 4 with (first
    | (go_at_call 50; (with_reducible refine (HP.out _ HMM.out).mono ?_); rintro e w2 ⟨rfl, hb⟩; have HH2 := Lib.hid (HH.out.below hb); have HM2 := Lib.hid (HMM.out.to hb); clear hb))
  clear x0 x1 x2
  have hta := ta74_74 (conV id) w2
  unfold conV at hta
  go_upto_region 7 with (fail)
  clear hta
  have hz := bel1 w2 (Obj.cells #[.bool false, .int .u32 0, .slice none 0 0, .string id, .bool false, .slice none 0 0, .string ⟨#[]⟩, .string ⟨#[]⟩, .int .u8 0, .bool false, .bool false, .bool false, .string ⟨#[]⟩, .string ⟨#[]⟩] 74)
  have HH3 := Lib.hid (HH2.out.below hz)
  have HM3 := Lib.hid (HM2.out.to hz)
  have HZ3 := Lib.hid (heap_alloc_new w2 (Obj.cells #[.bool false, .int .u32 0, .slice none 0 0, .string id, .bool false, .slice none 0 0, .string ⟨#[]⟩, .string ⟨#[]⟩, .int .u8 0, .bool false, .bool false, .bool false, .string ⟨#[]⟩, .string ⟨#[]⟩] 74))
  clear hz HH HMM HH2 HM2
  generalize w2.alloc (Obj.cells #[.bool false, .int .u32 0, .slice none 0 0, .string id, .bool false, .slice none 0 0, .string ⟨#[]⟩, .string ⟨#[]⟩, .int .u8 0, .bool false, .bool false, .bool false, .string ⟨#[]⟩, .string ⟨#[]⟩] 74) = X3 at HH3 HM3 HZ3 ⊢
  generalize w2.heap.size = zb at HZ3 ⊢
  obtain ⟨l0, l1, l2, l3, l4, l5⟩ := sixcell (HH3.out.get il HLI.out)
  have c0 : X3.cell? ⟨zb, 0, none⟩ = some (.bool false) := (blk_cell HZ3.out 0).trans rfl
  have c1 : X3.cell? ⟨zb, 1, none⟩ = some (.int .u32 0) := (blk_cell HZ3.out 1).trans rfl
  have c2 : X3.cell? ⟨zb, 2, none⟩ = some (.slice none 0 0) := (blk_cell HZ3.out 2).trans rfl
  have c3 : X3.cell? ⟨zb, 3, none⟩ = some (.string id) := (blk_cell HZ3.out 3).trans rfl
  have c4 : X3.cell? ⟨zb, 4, none⟩ = some (.bool false) := (blk_cell HZ3.out 4).trans rfl
  have c5 : X3.cell? ⟨zb, 5, none⟩ = some (.slice none 0 0) := (blk_cell HZ3.out 5).trans rfl
  have c6 : X3.cell? ⟨zb, 6, none⟩ = some (.string ⟨#[]⟩) := (blk_cell HZ3.out 6).trans rfl
  have c7 : X3.cell? ⟨zb, 7, none⟩ = some (.string ⟨#[]⟩) := (blk_cell HZ3.out 7).trans rfl
  have c8 : X3.cell? ⟨zb, 8, none⟩ = some (.int .u8 0) := (blk_cell HZ3.out 8).trans rfl
  have c9 : X3.cell? ⟨zb, 9, none⟩ = some (.bool false) := (blk_cell HZ3.out 9).trans rfl
  have c10 : X3.cell? ⟨zb, 10, none⟩ = some (.bool false) := (blk_cell HZ3.out 10).trans rfl
  have c11 : X3.cell? ⟨zb, 11, none⟩ = some (.bool false) := (blk_cell HZ3.out 11).trans rfl
  have c12 : X3.cell? ⟨zb, 12, none⟩ = some (.string ⟨#[]⟩) := (blk_cell HZ3.out 12).trans rfl
  have c13 : X3.cell? ⟨zb, 13, none⟩ = some (.string ⟨#[]⟩) := (blk_cell HZ3.out 13).trans rfl
  go_wp2_with (first
    | (go_at_call 74; (with_reducible refine (HR.out _ HH3.out HM3.out).mono ?_); rintro e w4 ⟨rfl, hp⟩; have HP4 := Lib.hid hp; have hlx := HL.out _ hp; obtain ⟨cl2, hlx⟩ := hlx; clear l0 l1 l2 l3 l4 l5; obtain ⟨l0, l1, l2, l3, l4, l5⟩ := sixcell hlx; clear hp hlx))
  go_end0
  exact ⟨rfl, HP4.out⟩
def TkP (w : World) (g : Nat) (S : Value → Prop) (L : List PR) (r : ByteArray) (e : Ending) (w' : World) : Prop := ∃ v : Value, e = .returned v ∧ S v ∧ PO w' 0 (fun _ => True) v L ∧ IN w' g r 0 ∧ Chg (fun i => i = g) w w'
def PubXP (w : World) (S : Value → Prop) (L : List PR) (T : ByteArray) (e : Ending) (w' : World) : Prop := ∃ A c, e = .returned (.tuple #[.agg #[.bool false, .bool false, .int .u8 0, .int .u32 0, .slice A L.length c, .string T, .string ⟨#[]⟩], .int .i64 0]) ∧ S (.slice A L.length c) ∧ PO w' 0 (fun _ => True) (.slice A L.length c) L ∧ Below w.heap.size w w'
theorem pubparse_ex {w : World} (T B B2 : ByteArray) (S : Value → Prop) (L : List PR) (hTK : ∀ W g, IN W g B 0 → Calls Tryz.prog 126 #[.pointer (some ⟨g, 0, none⟩)] W (IPost W g (.string T) B2 0)) (hPT : ∀ W g, IN W g B2 0 → Calls Tryz.prog 128 #[.pointer (some ⟨g, 0, none⟩), .int .i64 3, .bool false] W (TkP W g S L ⟨#[]⟩)) :
    Calls Tryz.prog 84 #[.int .i64 0, .string B] w (PubXP w S L T) := by
  have z8 : Go.bits .and .i64 0 8 = 0 := by decide
  have z3 : Go.bits .and .i64 0 3 = 0 := by decide
  have z1 : Go.bits .and .i64 0 1 = 0 := by decide
  have HTK := Lib.hid hTK
  have HPT := Lib.hid hPT
  clear hTK hPT
  have HRS : Hid (∀ W g, IN W g ⟨#[]⟩ 0 → Calls Tryz.prog 70 #[.pointer (some ⟨g, 0, none⟩)] W (IPost W g (.string ⟨#[]⟩) ⟨#[]⟩ 0)) := Lib.hid (fun W g hI => by
    have h := rest_in hI
    rw [rawR_rest] at h
    exact h)
  have HEN : Hid (∀ W g, IN W g ⟨#[]⟩ 0 → Calls Tryz.prog 130 #[.pointer (some ⟨g, 0, none⟩)] W (IPost W g (.int .i64 0) ⟨#[]⟩ 0)) := Lib.hid (fun W g hI => end_in hI)
  have HX0 := Lib.hid (heap_alloc_new w (.cells #[.bool false, .bool false, .int .u8 0, .int .u32 0, .slice none 0 0, .string ⟨#[]⟩, .string ⟨#[]⟩] 42))
  have HW0 := Lib.hid (show Below w.heap.size w (w.alloc (.cells #[.bool false, .bool false, .int .u8 0, .int .u32 0, .slice none 0 0, .string ⟨#[]⟩, .string ⟨#[]⟩] 42)) from (Below.refl _ _).alloc (Nat.le_refl _) _)
  go_enter Tryz.func84, Tryz.ntmps84
  go_upto_region 3 with (first
    | (go_at_call 64; refine (over_in B).mono ?_; rintro e w1 ⟨g, rfl, hi, hg, hb⟩; have HG := Lib.hid (show w.heap.size ≤ g by have := HW0.out.size; omega); have HNX := Lib.hid (show w.heap.size ≠ g by have := blk_lt HX0.out; omega); have HX1 := Lib.hid (hb.block _ (blk_lt HX0.out) |>.trans HX0.out); have HW1 := Lib.hid (HW0.out.trans (hb.mono HW0.out.size)); have HI1 := Lib.hid hi; clear hi hg hb))
  have HNB := Lib.hid (show w1.heap.size ≠ g by have := HI1.out.lt; omega)
  have HXB := Lib.hid (show w.heap.size ≠ w1.heap.size by have := blk_lt HX1.out; omega)
  have HLB := Lib.hid (show w.heap.size ≤ w1.heap.size from HW1.out.size)
  have hba := (Below.refl w1.heap.size w1).alloc (Nat.le_refl _) (.cells #[.bool false, .bool false, .int .u8 0, .int .u32 0, .slice none 0 0, .string ⟨#[]⟩, .string ⟨#[]⟩] 42)
  have HI2 := Lib.hid (HI1.out.below hba)
  have HX2 := Lib.hid (blk_below HX1.out hba)
  have HW2 := Lib.hid (HW1.out.trans (hba.mono HW1.out.size))
  have HB2 := Lib.hid (heap_alloc_new w1 (.cells #[.bool false, .bool false, .int .u8 0, .int .u32 0, .slice none 0 0, .string ⟨#[]⟩, .string ⟨#[]⟩] 42))
  clear hba HI1 HX1 HW1 HX0 HW0 z8 z3 z1
  generalize (w1.alloc (.cells #[.bool false, .bool false, .int .u8 0, .int .u32 0, .slice none 0 0, .string ⟨#[]⟩, .string ⟨#[]⟩] 42)) = W2 at HI2 HX2 HW2 HB2 ⊢
  go_upto_region 4 with (first
    | (go_at_call 126; (with_reducible refine (HTK.out _ _ HI2.out).mono ?_); rintro e w3 ⟨rfl, hi, hc⟩; have fz3 := blk_frozen (hc.blk HB2.out HNB.out) 5; have cz3 := pbcell (hc.blk HB2.out HNB.out); have HI3 := Lib.hid (hi.setc w1.heap.size 5 (.string T) (fun e => HNB.out e.symm)); have HB3 := Lib.hid (blk_put (hc.blk HB2.out HNB.out) 5 (.string T) rfl); have HX3 := Lib.hid (blk_sfar (hc.blk HX2.out HNX.out) 5 (.string T) HXB.out); have HW3 := Lib.hid (bset (HW2.out.trans (hc.to_below HW2.out.size (fun k hk => hk ▸ HG.out))) w1.heap.size 5 (.string T) HLB.out); obtain ⟨c0, c1, c2, c3, c4, c5, c6⟩ := cz3; clear hi hc))
  clear HI2 HX2 HW2 HB2 c0 c1 c2 c3 c4 c5 c6 fz3
  generalize (w3.setCell ⟨w1.heap.size, 5, none⟩ (.string T)) = W3 at HI3 HX3 HW3 HB3 ⊢
  obtain ⟨d0, d1, d2, d3, d4, d5, d6⟩ := pbcell HB3.out
  go_upto_region 6 with (fail)
  clear d0 d1 d2 d3 d4 d5 d6
  unfold TkP at HPT
  go_upto_region 7 with (first
      | (go_at_call 128; (with_reducible refine (HPT.out _ _ HI3.out).mono ?_); rintro e w4 hp; obtain ⟨v, rfl, hS, hpo, hi, hc⟩ := hp; have fz4 := blk_frozen (hc.blk HB3.out HNB.out) 4; have cz4 := pbcell (hc.blk HB3.out HNB.out); have HI4 := Lib.hid (hi.setc w1.heap.size 4 v (fun e => HNB.out e.symm)); have HB4 := Lib.hid (blk_put (hc.blk HB3.out HNB.out) 4 v rfl); have HX4 := Lib.hid (blk_sfar (hc.blk HX3.out HNX.out) 4 v HXB.out); have HW4 := Lib.hid (bset (HW3.out.trans (hc.to_below HW3.out.size (fun k hk => hk ▸ HG.out))) w1.heap.size 4 v HLB.out); have HS := Lib.hid hS; have HO4 := Lib.hid (hpo.setc w1.heap.size 4 v (hc.blk HB3.out HNB.out) (by decide)); obtain ⟨A, cc, rfl, hcc, _⟩ := HO4.out.form; obtain ⟨c0, c1, c2, c3, c4, c5, c6⟩ := cz4; clear hpo hi hc hS))
  clear HI3 HX3 HW3 HB3 c0 c1 c2 c3 c4 c5 c6 fz4
  generalize (w4.setCell ⟨w1.heap.size, 4, none⟩ (.slice A L.length cc)) = W4 at HI4 HX4 HW4 HB4 HO4 ⊢
  go_upto_region 8 with (first
      | (go_at_call 70; (with_reducible refine (HRS.out _ _ HI4.out).mono ?_); rintro e w5 ⟨rfl, hi, hc⟩; have fz5 := blk_frozen (hc.blk HB4.out HNB.out) 6; have cz5 := pbcell (hc.blk HB4.out HNB.out); have HI5 := Lib.hid (hi.setc w1.heap.size 6 (.string ⟨#[]⟩) (fun e => HNB.out e.symm)); have HB5 := Lib.hid (blk_put (hc.blk HB4.out HNB.out) 6 (.string ⟨#[]⟩) rfl); have HX5 := Lib.hid (blk_sfar (hc.blk HX4.out HNX.out) 6 (.string ⟨#[]⟩) HXB.out); have HW5 := Lib.hid (bset (HW4.out.trans (hc.to_below HW4.out.size (fun k hk => hk ▸ HG.out))) w1.heap.size 6 (.string ⟨#[]⟩) HLB.out); have HO5 := Lib.hid ((HO4.out.rd HI4.out hc).setc w1.heap.size 6 (.string ⟨#[]⟩) (hc.blk HB4.out HNB.out) (by decide)); obtain ⟨c0, c1, c2, c3, c4, c5, c6⟩ := cz5; clear hi hc))
  clear HI4 HX4 HW4 HB4 HO4 c0 c1 c2 c3 c4 c5 c6 fz5
  generalize (w5.setCell ⟨w1.heap.size, 6, none⟩ (.string ⟨#[]⟩)) = W5 at HI5 HX5 HW5 HB5 HO5 ⊢
  go_wp2_with (first
        | (go_at_call 130; (with_reducible refine (HEN.out _ _ HI5.out).mono ?_); rintro e w6 ⟨rfl, hi, hc⟩; have HB6 := Lib.hid (hc.blk HB5.out HNB.out); have HX6 := Lib.hid (hc.blk HX5.out HNX.out); have HW6 := Lib.hid (HW5.out.trans (hc.to_below HW5.out.size (fun k hk => hk ▸ HG.out))); have HO6 := Lib.hid (HO5.out.rd HI5.out hc); obtain ⟨c0, c1, c2, c3, c4, c5, c6⟩ := pbcell HB6.out; obtain ⟨r0, r1, r2, r3, r4, r5, r6⟩ := pbcell HX6.out; have f0 := blk_frozen HX6.out 0; have f1 := blk_frozen HX6.out 1; have f2 := blk_frozen HX6.out 2; have f3 := blk_frozen HX6.out 3; have f4 := blk_frozen HX6.out 4; have f5 := blk_frozen HX6.out 5; have f6 := blk_frozen HX6.out 6; clear hi hc))
  have HF := Lib.hid (blk_put (blk_put (blk_put (blk_put (blk_put (blk_put (blk_put HX6.out 0 (.bool false) rfl) 1 (.bool false) rfl) 2 (.int .u8 0) rfl) 3 (.int .u32 0) rfl) 4 (.slice A L.length cc) rfl) 5 (.string T) rfl) 6 (.string ⟨#[]⟩) rfl)
  have HBF := Lib.hid (bset (bset (bset (bset (bset (bset (bset HW6.out w.heap.size 0 (.bool false) (Nat.le_refl _)) w.heap.size 1 (.bool false) (Nat.le_refl _)) w.heap.size 2 (.int .u8 0) (Nat.le_refl _)) w.heap.size 3 (.int .u32 0) (Nat.le_refl _)) w.heap.size 4 (.slice A L.length cc) (Nat.le_refl _)) w.heap.size 5 (.string T) (Nat.le_refl _)) w.heap.size 6 (.string ⟨#[]⟩) (Nat.le_refl _))
  have HOF := Lib.hid (PO.setc (PO.setc (PO.setc (PO.setc (PO.setc (PO.setc (PO.setc HO6.out w.heap.size 0 (.bool false) HX6.out (by decide)) w.heap.size 1 (.bool false) (blk_put HX6.out 0 (.bool false) rfl) (by decide)) w.heap.size 2 (.int .u8 0) (blk_put (blk_put HX6.out 0 (.bool false) rfl) 1 (.bool false) rfl) (by decide)) w.heap.size 3 (.int .u32 0) (blk_put (blk_put (blk_put HX6.out 0 (.bool false) rfl) 1 (.bool false) rfl) 2 (.int .u8 0) rfl) (by decide)) w.heap.size 4 (.slice A L.length cc) (blk_put (blk_put (blk_put (blk_put HX6.out 0 (.bool false) rfl) 1 (.bool false) rfl) 2 (.int .u8 0) rfl) 3 (.int .u32 0) rfl) (by decide)) w.heap.size 5 (.string T) (blk_put (blk_put (blk_put (blk_put (blk_put HX6.out 0 (.bool false) rfl) 1 (.bool false) rfl) 2 (.int .u8 0) rfl) 3 (.int .u32 0) rfl) 4 (.slice A L.length cc) rfl) (by decide)) w.heap.size 6 (.string ⟨#[]⟩) (blk_put (blk_put (blk_put (blk_put (blk_put (blk_put HX6.out 0 (.bool false) rfl) 1 (.bool false) rfl) 2 (.int .u8 0) rfl) 3 (.int .u32 0) rfl) 4 (.slice A L.length cc) rfl) 5 (.string T) rfl) (by decide))
  generalize (((((((w6.setCell ⟨w.heap.size, 0, none⟩ (.bool false)).setCell ⟨w.heap.size, 1, none⟩ (.bool false)).setCell ⟨w.heap.size, 2, none⟩ (.int .u8 0)).setCell ⟨w.heap.size, 3, none⟩ (.int .u32 0)).setCell ⟨w.heap.size, 4, none⟩ (.slice A L.length cc)).setCell ⟨w.heap.size, 5, none⟩ (.string T)).setCell ⟨w.heap.size, 6, none⟩ (.string ⟨#[]⟩)) = WF at HF HBF HOF ⊢
  obtain ⟨o0, o1, o2, o3, o4, o5, o6⟩ := pbcell HF.out
  exact bodyPost_ret (v := .tuple #[.agg #[(.bool false), (.bool false), (.int .u8 0), (.int .u32 0), (.slice A L.length cc), (.string T), (.string ⟨#[]⟩)], .int .i64 0]) (by simp [results, Tryz.results84, go_sem, o0, o1, o2, o3, o4, o5, o6]) rfl ⟨A, cc, rfl, HS.out, HOF.out, HBF.out⟩
def ParXP (w : World) (S : Value → Prop) (L : List PR) (T : ByteArray) (e : Ending) (w' : World) : Prop := ∃ A c, e = .returned (.tuple #[.iface 45 (.agg #[.bool false, .bool false, .int .u8 0, .int .u32 0, .slice A L.length c, .string T, .string ⟨#[]⟩]), .int .i64 0]) ∧ S (.slice A L.length c) ∧ PO w' 0 (fun _ => True) (.slice A L.length c) L ∧ Below w.heap.size w w'
theorem parse_ex {w : World} (T B : ByteArray) (S : Value → Prop) (L : List PR) (hPP : ∀ W, Calls Tryz.prog 84 #[.int .i64 0, .string B] W (PubXP W S L T)) : Calls Tryz.prog 50 #[fr 3 0 B] w (ParXP w S L T) := by
  have HCK := Lib.hid (fun W => chk_calls 3 0 (by decide) (by decide) W)
  rw [show chk 3 0 = 0 from rfl, show ((3 : Nat) : Int) = 3 from rfl, show ((0 : Nat) : Int) = 0 from rfl] at HCK
  unfold fr
  rw [show ((3 : Nat) : Int) = 3 from rfl, show ((0 : Nat) : Int) = 0 from rfl]
  have HPP := Lib.hid hPP
  unfold PubXP at HPP
  clear hPP
  have HX := Lib.hid (heap_alloc_new w (.cells #[.int .i64 3, .int .i64 0, .string B] 128))
  have HB := Lib.hid (show Below w.heap.size w (w.alloc (.cells #[.int .i64 3, .int .i64 0, .string B] 128)) from (Below.refl _ _).alloc (Nat.le_refl _) _)
  go_enter Tryz.func50, Tryz.ntmps50
  go_wp2_with (first
    | (go_at_call 62; refine (HCK.out _).mono ?_; rintro e w1 ⟨rfl, hb⟩; have HX1 := Lib.hid (hb.block _ (blk_lt HX.out) |>.trans HX.out); have HB1 := Lib.hid (HB.out.trans (hb.mono HB.out.size)); obtain ⟨x0, x1, x2⟩ := frcell HX1.out; have HX2 := Lib.hid (fun t cs => blk_alloc HX1.out (.cells cs t)); have HB2 := Lib.hid (fun t cs => HB1.out.alloc HB1.out.size (.cells cs t)); have y0 := fun t cs => (frcell (HX2.out t cs)).1; have y1 := fun t cs => (frcell (HX2.out t cs)).2.1; have y2 := fun t cs => (frcell (HX2.out t cs)).2.2; clear hb)
    | (go_at_call 84; refine (HPP.out _).mono ?_; rintro e w2 ⟨A, c, rfl, hS, hpo, hb⟩; have HS := Lib.hid hS; have HPO := Lib.hid hpo; have HXB := Lib.hid (hb.block _ (blk_lt (heap_alloc_new w1 _)) |>.trans (heap_alloc_new w1 _)); have HB3 := Lib.hid ((HB2.out _ _).trans (hb.mono (HB2.out _ _).size)); have f0 := blk_frozen HXB.out 0; have f1 := blk_frozen HXB.out 1; have f2 := blk_frozen HXB.out 2; have f3 := blk_frozen HXB.out 3; have f4 := blk_frozen HXB.out 4; have f5 := blk_frozen HXB.out 5; have f6 := blk_frozen HXB.out 6; obtain ⟨r0, r1, r2, r3, r4, r5, r6⟩ := pbcell HXB.out; clear hb hS hpo))
  have hle : w.heap.size ≤ w1.heap.size := HB1.out.size
  have HXF := HXB.out
  go_ret2
  refine ⟨A, c, rfl, HS.out, ?_, ?_⟩
  · exact PO.setc (PO.setc (PO.setc (PO.setc (PO.setc (PO.setc (PO.setc HPO.out _ 0 (.bool false) HXF (by decide)) _ 1 (.bool false) (blk_put HXF 0 (.bool false) rfl) (by decide)) _ 2 (.int .u8 0) (blk_put (blk_put HXF 0 (.bool false) rfl) 1 (.bool false) rfl) (by decide)) _ 3 (.int .u32 0) (blk_put (blk_put (blk_put HXF 0 (.bool false) rfl) 1 (.bool false) rfl) 2 (.int .u8 0) rfl) (by decide)) _ 4 (.slice A L.length c) (blk_put (blk_put (blk_put (blk_put HXF 0 (.bool false) rfl) 1 (.bool false) rfl) 2 (.int .u8 0) rfl) 3 (.int .u32 0) rfl) (by decide)) _ 5 (.string T) (blk_put (blk_put (blk_put (blk_put (blk_put HXF 0 (.bool false) rfl) 1 (.bool false) rfl) 2 (.int .u8 0) rfl) 3 (.int .u32 0) rfl) 4 (.slice A L.length c) rfl) (by decide)) _ 6 (.string ⟨#[]⟩) (blk_put (blk_put (blk_put (blk_put (blk_put (blk_put HXF 0 (.bool false) rfl) 1 (.bool false) rfl) 2 (.int .u8 0) rfl) 3 (.int .u32 0) rfl) 4 (.slice A L.length c) rfl) 5 (.string T) rfl) (by decide)
  · exact below_set (below_set (below_set (below_set (below_set (below_set (below_set HB3.out _ _ _ hle) _ _ _ hle) _ _ _ hle) _ _ _ hle) _ _ _ hle) _ _ _ hle) _ _ _ hle
theorem tk_dat {B2 : ByteArray} {l : List UInt8} (T : ByteArray) (hT : Asc T) (hz : T.size ≤ 65535) (hl : B2 = toB l) : ∀ W g, IN W g (toB (dat T ++ l)) 0 → Calls Tryz.prog 126 #[.pointer (some ⟨g, 0, none⟩)] W (IPost W g (.string T) B2 0) := fun W g hI => by
  have h := wtake_in hI
  rw [data_app _ hz] at h
  refine h.mono ?_
  rintro e w' ⟨b, hg, rfl, hi, hc⟩
  obtain rfl := good_asc hg hT
  exact ⟨rfl, hl ▸ hi, hc⟩
theorem pt_nil (W : World) (g : Nat) (hI : IN W g (toB [0]) 0) (k : Int) : Calls Tryz.prog 128 #[.pointer (some ⟨g, 0, none⟩), .int .i64 k, .bool false] W (TkP W g (fun v => v = .slice none 0 0) [] ⟨#[]⟩) := by
  have h := take_nil (r := ⟨#[]⟩) hI (by
    have h := var_app 0 (by decide) []
    rw [varU_lt (by decide)] at h
    exact h) k false
  refine h.mono ?_
  rintro e w' ⟨rfl, hi, hc⟩
  exact ⟨_, rfl, rfl, PO.nil _ _ _, hi, hc⟩
def PbEx (w : World) (v : Value) (e : Ending) (w' : World) : Prop := e = .returned (.tuple #[v, .int .i64 0]) ∧ Below w.heap.size w w'
theorem parse_pub0 {w : World} (n : ByteArray) (hn : Asc n) (hz : n.size ≤ 100) : Calls Tryz.prog 50 #[fr 3 0 (pubB n)] w (PbEx w (.iface 45 (pubV 0 n))) := by
  refine (parse_ex n (pubB n) (fun v => v = .slice none 0 0) [] (fun W => pubparse_ex n (pubB n) (toB [0]) _ [] (tk_dat n hn (by omega) rfl) (fun W g hI => pt_nil W g hI 3))).mono ?_
  rintro e w' ⟨A, c, rfl, hS, hpo, hb⟩
  have hS : Value.slice A 0 c = .slice none 0 0 := hS
  injection hS with h1 _ h2
  subst h1
  subst h2
  exact ⟨rfl, hb⟩
theorem al_num (a : Nat) (ha : 1 ≤ a ∧ a ≤ 9) : NumOk 8 (alP a) := by
  have h : ∀ a : Fin 10, 1 ≤ a.1 → decide (((a.1 : Nat) : Int) < (ruleOf 35).2.2.1) = false ∧ decide ((ruleOf 35).2.2.2.1 < ((a.1 : Nat) : Int)) = false := by decide +kernel
  have h2 := h ⟨a, by omega⟩ ha.1
  exact ⟨⟨by show 0 < 35; decide, by show 35 ≤ 268435455; decide⟩, rfl, rfl, .inl ⟨(by kernel_rfl : kindOf 35 = 2), by show a < 65536; omega⟩, (by decide +kernel : (Go.bits .and .i64 (ruleOf 35).2.1 8 == 0) = false), h2.1, h2.2⟩
theorem al_b (a : Nat) (ha : 1 ≤ a ∧ a ≤ 9) : propsB [alP a] = 35 :: be2 (a % 65536) := by
  unfold propsB alP
  rw [List.flatMap_cons, List.flatMap_nil, puts_2 (by decide) (by decide) (by kernel_rfl), List.append_nil]
  rfl
theorem al_put (a : Nat) (ha : 1 ≤ a ∧ a ≤ 9) : putB [alP a] = 3 :: 35 :: be2 (a % 65536) := by
  unfold putB
  rw [al_b a ha, show (35 :: be2 (a % 65536)).length = 3 from rfl, varU_lt (by decide)]
  rfl
theorem miss_nil (a : Int) : Miss [] a := ⟨1, 0, 0, ⟨#[]⟩, ⟨#[]⟩, by simp [prop_List_Get.f, prop_List_Get.l0]⟩
theorem one_split {p x : PR} {L1 L2 : List PR} (h : [x] = L1 ++ p :: L2) : L1 = [] ∧ p = x := by
  cases L1 with
  | nil => injection h with h1 h2; exact ⟨rfl, h1.symm⟩
  | cons y L => injection h with h1 h2; cases L <;> cases h2
def alB (T : ByteArray) (a : Nat) : ByteArray := toB (dat T ++ putB [alP a])
theorem pt_al (a : Nat) (ha : 1 ≤ a ∧ a ≤ 9) (W : World) (g : Nat) (hI : IN W g (toB (putB [alP a])) 0) : Calls Tryz.prog 128 #[.pointer (some ⟨g, 0, none⟩), .int .i64 3, .bool false] W (TkP W g (fun _ => True) [alP a] ⟨#[]⟩) := by
  have h := take_ex (r := ⟨#[]⟩) [alP a] (show IN W g (toB (putB [alP a] ++ [])) 0 from by rw [List.append_nil]; exact hI) (by rw [al_b a ha]; show 3 ≤ 100000; decide) 3 8 (by kernel_rfl) (fun p hp => by
    obtain rfl := List.mem_singleton.1 hp
    exact al_num a ha) (fun L1 p L2 h => by
    obtain ⟨rfl, rfl⟩ := one_split h
    exact miss_nil _) (by show 1 ≤ 1000; decide)
  refine h.mono ?_
  rintro e w' ⟨v, rfl, hpo, hi, hc⟩
  exact ⟨v, rfl, trivial, hpo.zero, hi, hc⟩
def AlP (w : World) (T : ByteArray) (a : Nat) (e : Ending) (w' : World) : Prop := ∃ u, e = .returned (.tuple #[.iface 45 u, .int .i64 0]) ∧ (∃ A c, u = pbV A c T ∧ PO w' 0 (fun _ => True) (.slice A 1 c) [alP a]) ∧ Below w.heap.size w w'
theorem parse_al {w : World} (T : ByteArray) (hT : Asc T) (hz : T.size ≤ 100) (a : Nat) (ha : 1 ≤ a ∧ a ≤ 9) : Calls Tryz.prog 50 #[fr 3 0 (alB T a)] w (AlP w T a) := by
  refine (parse_ex T (alB T a) (fun _ => True) [alP a] (fun W => pubparse_ex T (alB T a) (toB (putB [alP a])) _ [alP a] (tk_dat T hT (by omega) rfl) (fun W g hI => pt_al a ha W g hI))).mono ?_
  rintro e w' ⟨A, c, rfl, _, hpo, hb⟩
  exact ⟨_, rfl, ⟨A, c, rfl, hpo⟩, hb⟩
theorem alB_size (T : ByteArray) (a : Nat) (ha : 1 ≤ a ∧ a ≤ 9) : (alB T a).size = T.size + 6 := by
  unfold alB
  rw [toB_size, List.length_append, dat_len, al_put a ha]
  show 2 + T.size + 4 = _
  omega
theorem al_ok (a : Nat) (ha : 1 ≤ a ∧ a ≤ 9) : LOk [alP a] := ⟨fun p hp => by
  obtain rfl := List.mem_singleton.1 hp
  exact pr_ok (by show 35 ≤ _; decide) (by show a ≤ _; omega) (kindNe (a := 2) (by kernel_rfl) (by decide)), by rw [al_b a ha]; show 3 ≤ 100000; decide, by show 1 ≤ 1000000; decide⟩
theorem al_text {w : World} {A : Option Addr} {c : Nat} (T : ByteArray) (hz : T.size ≤ 100) (a : Nat) (ha : 1 ≤ a ∧ a ≤ 9) (hp : PL w A [alP a]) (hc : 1 ≤ c) : Calls Tryz.prog 22 #[.iface 45 (pbV A c T)] w (RB (.string (toB (frB 3 0 (alB T a)))) w) := by
  refine text_pub (pbV A c T) 3 0 (alB T a) (by decide) (by decide) (by rw [alB_size T a ha]; omega) (fun W hb => ?_)
  have h := pubframe_calls (w := W) (⟨false, false, 0, 0, [alP a], T, ⟨#[]⟩⟩ : PD) A c ⟨by show 0 < 4; decide, by show 0 ≤ 4294967295; decide, al_ok a ha, by show T.size ≤ 65535; omega, Nat.zero_le _⟩ hc (hp.to hb)
  have hbo : (⟨false, false, 0, 0, [alP a], T, ⟨#[]⟩⟩ : PD).body = dat T ++ putB [alP a] := by
    unfold PD.body
    simp
  rw [hbo] at h
  exact h
theorem byteR_app (x : UInt8) (l : List UInt8) : byteR (toB (x :: l)) 0 = (((x.toNat : Nat) : Int), toB l, 0) := by
  have hz : (toB (x :: l)).size = l.length + 1 := by rw [toB_size, List.length_cons]
  unfold byteR
  rw [if_neg (by decide), if_neg (by omega), toB_extract, hz]
  have h2 : ((x :: l).drop 1).take (l.length + 1 - 1) = l := by
    show l.take (l.length + 1 - 1) = l
    rw [Nat.add_sub_cancel, List.take_length]
  rw [h2]
  have hb : bt (toB (x :: l)) 0 = ((x.toNat : Nat) : Int) := by
    unfold bt
    rw [dif_pos (show (0 : Int).toNat < (toB (x :: l)).size by rw [hz]; show 0 < _; omega)]
    rfl
  rw [hb]
theorem by_x (x : UInt8) (l : List UInt8) (W : World) (g : Nat) (hI : IN W g (toB (x :: l)) 0) : Calls Tryz.prog 92 #[.pointer (some ⟨g, 0, none⟩)] W (IPost W g (.int .u8 (x.toNat : Nat)) (toB l) 0) := by
  have h := byte_in hI
  rw [byteR_app] at h
  exact h
theorem two_x (n : Nat) (hn : n < 65536) (l : List UInt8) (W : World) (g : Nat) (hI : IN W g (toB (be2 (n % 65536) ++ l)) 0) : Calls Tryz.prog 127 #[.pointer (some ⟨g, 0, none⟩)] W (IPost W g (.int .u32 (n : Nat)) (toB l) 0) := by
  have h := two_in hI
  obtain ⟨h1, h2⟩ := num_two n hn l
  rw [h1, h2] at h
  exact h
theorem nil_x (k : Int) (l : List UInt8) (W : World) (g : Nat) (hI : IN W g (toB (0 :: l)) 0) : Calls Tryz.prog 128 #[.pointer (some ⟨g, 0, none⟩), .int .i64 k, .bool false] W (IPost W g (.slice none 0 0) (toB l) 0) := by
  have h := take_nil (r := toB l) hI (by
    have h := var_app 0 (by decide) l
    rw [varU_lt (by decide)] at h
    exact h) k false
  exact h
theorem end_x (W : World) (g : Nat) (hI : IN W g ⟨#[]⟩ 0) : Calls Tryz.prog 130 #[.pointer (some ⟨g, 0, none⟩)] W (IPost W g (.int .i64 0) ⟨#[]⟩ 0) := end_in hI
theorem err_x {s : ByteArray} (W : World) (g : Nat) (hI : IN W g s 0) : Calls Tryz.prog 66 #[.pointer (some ⟨g, 0, none⟩)] W (IPost W g (.int .i64 0) s 0) := err_in hI
def mqS : ByteArray := ⟨#[77, 81, 84, 84]⟩
theorem mq_asc : Asc mqS := by
  intro x hx
  have h : x ∈ ([77, 81, 84, 84] : List UInt8) := hx
  simp only [List.mem_cons, List.not_mem_nil, or_false] at h
  rcases h with rfl | rfl | rfl | rfl <;> decide
def conB (id : ByteArray) : ByteArray := toB (dat mqS ++ (5 :: 0 :: (be2 (0 % 65536) ++ (0 :: (dat id ++ [])))))
def PartsX (w : World) (bp g : Nat) (id : ByteArray) (e : Ending) (w' : World) : Prop := e = .returned (.tuple #[]) ∧ w'.heap[bp]? = some (.cells #[.bool false, .int .u32 0, .slice none 0 0, .string id, .bool false, .slice none 0 0, .string ⟨#[]⟩, .string ⟨#[]⟩, .int .u8 0, .bool false, .bool false, .bool false, .string ⟨#[]⟩, .string ⟨#[]⟩] 72) ∧ IN w' g ⟨#[]⟩ 0 ∧ Chg (fun i => i = g ∨ i = bp) w w'
theorem parts_x {w : World} {bp g : Nat} {id : ByteArray} (hB : w.heap[bp]? = some (.cells #[.bool false, .int .u32 0, .slice none 0 0, .string ⟨#[]⟩, .bool false, .slice none 0 0, .string ⟨#[]⟩, .string ⟨#[]⟩, .int .u8 0, .bool false, .bool false, .bool false, .string ⟨#[]⟩, .string ⟨#[]⟩] 72)) (h : IN w g (toB (dat id ++ [])) 0) (hid : Asc id) (hz : id.size ≤ 100) : Calls Tryz.prog 129 #[.pointer (some ⟨bp, 0, none⟩), .pointer (some ⟨g, 0, none⟩)] w (PartsX w bp g id) := by
  have HNB := Lib.hid (show bp ≠ g from fun e => blk_ne h hB (by decide) e.symm)
  have HI0 := Lib.hid h
  have HB0 := Lib.hid hB
  have HC0 := Lib.hid (Chg.refl (fun i => i = g ∨ i = bp) w)
  have HTK := Lib.hid (tk_dat (B2 := ⟨#[]⟩) (l := []) id hid (by omega) rfl)
  clear h hB hid hz
  go_enter Tryz.func129, Tryz.ntmps129
  obtain ⟨n0, n1, n2, n3, n4, n5, n6, n7, n8, n9, n10, n11, n12, n13⟩ := ncell HB0.out
  go_upto_region 1 with (first | (go_at_call 126; (with_reducible refine (HTK.out _ _ HI0.out).mono ?_); rintro e w1 ⟨rfl, hi, hc⟩; have fz := blk_frozen (hc.blk HB0.out HNB.out) 3; have cz := ncell (hc.blk HB0.out HNB.out); have HI1 := Lib.hid (hi.setc bp 3 (.string id) (fun e => HNB.out e.symm)); have HB1 := Lib.hid (blk_put (hc.blk HB0.out HNB.out) 3 (.string id) rfl); have HC1 := Lib.hid (chg_both HC0.out hc 3 (.string id)); obtain ⟨m0, m1, m2, m3, m4, m5, m6, m7, m8, m9, m10, m11, m12, m13⟩ := cz; clear hi hc))
  clear HI0 HB0 HC0 fz m0 m1 m2 m3 m4 m5 m6 m7 m8 m9 m10 m11 m12 m13 n0 n1 n2 n3 n4 n5 n6 n7 n8 n9 n10 n11 n12 n13
  generalize (w1.setCell ⟨bp, 3, none⟩ (.string id)) = W1 at HI1 HB1 HC1 ⊢
  obtain ⟨n0, n1, n2, n3, n4, n5, n6, n7, n8, n9, n10, n11, n12, n13⟩ := ncell HB1.out
  go_wp2_with (fail)
  go_end0
  exact ⟨rfl, HB1.out, HI1.out, HC1.out⟩
theorem conparse_x {w : World} {id : ByteArray} (hid : Asc id) (hz : id.size ≤ 100) : Calls Tryz.prog 82 #[.string (conB id)] w (PbEx w (conV id)) := by
  have HTK := Lib.hid (tk_dat (B2 := toB (5 :: 0 :: (be2 (0 % 65536) ++ (0 :: (dat id ++ []))))) mqS mq_asc (by decide) rfl)
  have HB5 := Lib.hid (by_x 5 (0 :: (be2 (0 % 65536) ++ (0 :: (dat id ++ [])))))
  have HB0 := Lib.hid (by_x 0 (be2 (0 % 65536) ++ (0 :: (dat id ++ []))))
  have HTW := Lib.hid (two_x 0 (by decide) (0 :: (dat id ++ [])))
  have HPT := Lib.hid (nil_x 1 (dat id ++ []))
  have HPA := Lib.hid (fun W bp g h1 h2 => parts_x (w := W) (bp := bp) (g := g) h1 h2 hid hz)
  rw [show ((5 : UInt8).toNat : Int) = 5 from rfl] at HB5
  rw [show ((0 : UInt8).toNat : Int) = 0 from rfl] at HB0
  rw [show ((0 : Nat) : Int) = 0 from rfl] at HTW
  unfold PartsX at HPA
  unfold conV
  have HBB : Hid (conB id = toB (dat mqS ++ (5 :: 0 :: (be2 (0 % 65536) ++ (0 :: (dat id ++ [])))))) := Lib.hid rfl
  rw [← HBB.out] at HTK
  clear HBB hid hz
  generalize toB (5 :: 0 :: (be2 (0 % 65536) ++ (0 :: (dat id ++ [])))) = B1 at HTK HB5
  generalize toB (0 :: (be2 (0 % 65536) ++ (0 :: (dat id ++ [])))) = B2 at HB5 HB0
  generalize toB (be2 (0 % 65536) ++ (0 :: (dat id ++ []))) = B3 at HB0 HTW
  generalize toB (0 :: (dat id ++ [])) = B4 at HTW HPT
  generalize toB (dat id ++ []) = B5 at HPT HPA
  generalize conB id = B at HTK ⊢
  unfold mqS at HTK
  have HX0 := Lib.hid (heap_alloc_new w (.cells #[.bool false, .int .u32 0, .slice none 0 0, .string ⟨#[]⟩, .bool false, .slice none 0 0, .string ⟨#[]⟩, .string ⟨#[]⟩, .int .u8 0, .bool false, .bool false, .bool false, .string ⟨#[]⟩, .string ⟨#[]⟩] 72))
  have HW0 := Lib.hid (show Below w.heap.size w (w.alloc (.cells #[.bool false, .int .u32 0, .slice none 0 0, .string ⟨#[]⟩, .bool false, .slice none 0 0, .string ⟨#[]⟩, .string ⟨#[]⟩, .int .u8 0, .bool false, .bool false, .bool false, .string ⟨#[]⟩, .string ⟨#[]⟩] 72)) from (Below.refl _ _).alloc (Nat.le_refl _) _)
  have z1 : Go.bits .and .u8 0 1 = 0 := by decide
  have z2 : Go.bits .and .u8 0 2 = 0 := by decide
  have z3 : Go.bits .and .u8 0 3 = 0 := by decide
  have z4 : Go.bits .and .u8 0 4 = 0 := by decide
  have z32 : Go.bits .and .u8 0 32 = 0 := by decide
  have z56 : Go.bits .and .u8 0 56 = 0 := by decide
  have z64 : Go.bits .and .u8 0 64 = 0 := by decide
  have z128 : Go.bits .and .u8 0 128 = 0 := by decide
  go_enter Tryz.func82, Tryz.ntmps82
  go_upto_region 3 with (first
    | (go_at_call 64; refine (over_in B).mono ?_; rintro e w1 ⟨g, rfl, hi, hg, hb⟩; have HG := Lib.hid (show w.heap.size ≤ g by have := HW0.out.size; omega); have HNX := Lib.hid (show w.heap.size ≠ g by have := blk_lt HX0.out; omega); have HX1 := Lib.hid (hb.block _ (blk_lt HX0.out) |>.trans HX0.out); have HW1 := Lib.hid (HW0.out.trans (hb.mono HW0.out.size)); have HI1 := Lib.hid hi; clear hi hg hb HX0)
    | (go_at_call 126; refine (HTK.out _ _ HI1.out).mono ?_; rintro e w2 ⟨rfl, hi, hc⟩; have HX2 := Lib.hid (hc.blk HX1.out HNX.out); have HW2 := Lib.hid (HW1.out.trans (hc.to_below HW1.out.size (fun k hk => hk ▸ HG.out))); have HI2 := Lib.hid hi; clear hi hc HI1 HX1))
  go_upto_region 5 with (first
    | (go_at_call 66; (with_reducible refine (err_x _ _ HI2.out).mono ?_); rintro e w3 ⟨rfl, hi, hc⟩; have HX3 := Lib.hid (hc.blk HX2.out HNX.out); have HW3 := Lib.hid (HW2.out.trans (hc.to_below HW2.out.size (fun k hk => hk ▸ HG.out))); have HI3 := Lib.hid hi; clear hi hc HI2 HX2))
  go_upto_region 9 with (first
    | (go_at_call 92; (with_reducible refine (HB5.out _ _ HI3.out).mono ?_); rintro e w4 ⟨rfl, hi, hc⟩; have HX4 := Lib.hid (hc.blk HX3.out HNX.out); have HW4 := Lib.hid (HW3.out.trans (hc.to_below HW3.out.size (fun k hk => hk ▸ HG.out))); have HI4 := Lib.hid hi; clear hi hc HI3 HX3)
    | (go_at_call 66; (with_reducible refine (err_x _ _ HI4.out).mono ?_); rintro e w5 ⟨rfl, hi, hc⟩; have HX5 := Lib.hid (hc.blk HX4.out HNX.out); have HW5 := Lib.hid (HW4.out.trans (hc.to_below HW4.out.size (fun k hk => hk ▸ HG.out))); have HI5 := Lib.hid hi; clear hi hc HI4 HX4)
    | (go_at_call 92; (with_reducible refine (HB0.out _ _ HI5.out).mono ?_); rintro e w6 ⟨rfl, hi, hc⟩; have HX6 := Lib.hid (hc.blk HX5.out HNX.out); have HW6 := Lib.hid (HW5.out.trans (hc.to_below HW5.out.size (fun k hk => hk ▸ HG.out))); have HI6 := Lib.hid hi; clear hi hc HI5 HX5))
  have HNB := Lib.hid (show w6.heap.size ≠ g by have := HI6.out.lt; omega)
  have HXB := Lib.hid (show w.heap.size ≠ w6.heap.size by have := blk_lt HX6.out; omega)
  have HLB := Lib.hid (show w.heap.size ≤ w6.heap.size from HW6.out.size)
  have hba := (Below.refl w6.heap.size w6).alloc (Nat.le_refl _) (.cells #[.bool false, .int .u32 0, .slice none 0 0, .string ⟨#[]⟩, .bool false, .slice none 0 0, .string ⟨#[]⟩, .string ⟨#[]⟩, .int .u8 0, .bool false, .bool false, .bool false, .string ⟨#[]⟩, .string ⟨#[]⟩] 72)
  have HI7 := Lib.hid (HI6.out.below hba)
  have HX7 := Lib.hid (blk_below HX6.out hba)
  have HW7 := Lib.hid (HW6.out.trans (hba.mono HW6.out.size))
  have HB7 := Lib.hid (heap_alloc_new w6 (.cells #[.bool false, .int .u32 0, .slice none 0 0, .string ⟨#[]⟩, .bool false, .slice none 0 0, .string ⟨#[]⟩, .string ⟨#[]⟩, .int .u8 0, .bool false, .bool false, .bool false, .string ⟨#[]⟩, .string ⟨#[]⟩] 72))
  clear hba HI6 HX6
  go_upto_region 10 with (fail)
  generalize (w6.alloc (.cells #[.bool false, .int .u32 0, .slice none 0 0, .string ⟨#[]⟩, .bool false, .slice none 0 0, .string ⟨#[]⟩, .string ⟨#[]⟩, .int .u8 0, .bool false, .bool false, .bool false, .string ⟨#[]⟩, .string ⟨#[]⟩] 72)) = W7 at HI7 HX7 HW7 HB7 ⊢
  obtain ⟨n0, n1, n2, n3, n4, n5, n6, n7, n8, n9, n10, n11, n12, n13⟩ := ncell HB7.out
  have fz8 := blk_frozen HB7.out 8
  have fz9 := blk_frozen HB7.out 9
  go_upto_region 13 with (fail)
  clear fz8 fz9 n0 n1 n2 n3 n4 n5 n6 n7 n8 n9 n10 n11 n12 n13
  have HB8 := Lib.hid (blk_put (blk_put HB7.out 8 (.int .u8 0) rfl) 9 (.bool false) rfl)
  have HX8 := Lib.hid (blk_sfar (blk_sfar HX7.out 8 (.int .u8 0) HXB.out) 9 (.bool false) HXB.out)
  have HI8 := Lib.hid ((HI7.out.setc w6.heap.size 8 (.int .u8 0) (fun e => HNB.out e.symm)).setc w6.heap.size 9 (.bool false) (fun e => HNB.out e.symm))
  have HW8 := Lib.hid (bset (bset HW7.out w6.heap.size 8 (.int .u8 0) HLB.out) w6.heap.size 9 (.bool false) HLB.out)
  clear HB7 HX7 HI7 HW7
  generalize ((W7.setCell ⟨w6.heap.size, 8, none⟩ (.int .u8 0)).setCell ⟨w6.heap.size, 9, none⟩ (.bool false)) = W8 at HI8 HX8 HW8 HB8 ⊢
  obtain ⟨n0, n1, n2, n3, n4, n5, n6, n7, n8, n9, n10, n11, n12, n13⟩ := ncell HB8.out
  go_upto_region 14 with (first
    | (go_at_call 127; (with_reducible refine (HTW.out _ _ HI8.out).mono ?_); rintro e w9 ⟨rfl, hi, hc⟩; have fz1 := blk_frozen (hc.blk HB8.out HNB.out) 1; have cz := ncell (hc.blk HB8.out HNB.out); have HI9 := Lib.hid (hi.setc w6.heap.size 1 (.int .u32 0) (fun e => HNB.out e.symm)); have HB9 := Lib.hid (blk_put (hc.blk HB8.out HNB.out) 1 (.int .u32 0) rfl); have HX9 := Lib.hid (blk_sfar (hc.blk HX8.out HNX.out) 1 (.int .u32 0) HXB.out); have HW9 := Lib.hid (bset (HW8.out.trans (hc.to_below HW8.out.size (fun k hk => hk ▸ HG.out))) w6.heap.size 1 (.int .u32 0) HLB.out); obtain ⟨m0, m1, m2, m3, m4, m5, m6, m7, m8, m9, m10, m11, m12, m13⟩ := cz; clear hi hc))
  clear HI8 HX8 HW8 HB8 fz1 n0 n1 n2 n3 n4 n5 n6 n7 n8 n9 n10 n11 n12 n13 m0 m1 m2 m3 m4 m5 m6 m7 m8 m9 m10 m11 m12 m13
  generalize (w9.setCell ⟨w6.heap.size, 1, none⟩ (.int .u32 0)) = W9 at HI9 HX9 HW9 HB9 ⊢
  obtain ⟨n0, n1, n2, n3, n4, n5, n6, n7, n8, n9, n10, n11, n12, n13⟩ := ncell HB9.out
  go_upto_region 15 with (first
    | (go_at_call 128; (with_reducible refine (HPT.out _ _ HI9.out).mono ?_); rintro e w10 ⟨rfl, hi, hc⟩; have fz2 := blk_frozen (hc.blk HB9.out HNB.out) 2; have cz := ncell (hc.blk HB9.out HNB.out); have HIA := Lib.hid (hi.setc w6.heap.size 2 (.slice none 0 0) (fun e => HNB.out e.symm)); have HBA := Lib.hid (blk_put (hc.blk HB9.out HNB.out) 2 (.slice none 0 0) rfl); have HXA := Lib.hid (blk_sfar (hc.blk HX9.out HNX.out) 2 (.slice none 0 0) HXB.out); have HWA := Lib.hid (bset (HW9.out.trans (hc.to_below HW9.out.size (fun k hk => hk ▸ HG.out))) w6.heap.size 2 (.slice none 0 0) HLB.out); obtain ⟨m0, m1, m2, m3, m4, m5, m6, m7, m8, m9, m10, m11, m12, m13⟩ := cz; clear hi hc))
  clear HI9 HX9 HW9 HB9 fz2 n0 n1 n2 n3 n4 n5 n6 n7 n8 n9 n10 n11 n12 n13 m0 m1 m2 m3 m4 m5 m6 m7 m8 m9 m10 m11 m12 m13
  generalize (w10.setCell ⟨w6.heap.size, 2, none⟩ (.slice none 0 0)) = WA at HIA HXA HWA HBA ⊢
  go_upto_region 16 with (first
    | (go_at_call 129; (with_reducible refine (HPA.out _ _ _ HBA.out HIA.out).mono ?_); rintro e w11 ⟨rfl, hb, hi, hc⟩; have HBC := Lib.hid hb; have HIC := Lib.hid hi; have HNY := Lib.hid (show ¬ (w.heap.size = g ∨ w.heap.size = w6.heap.size) from fun h => h.elim HNX.out HXB.out); have HXC := Lib.hid (hc.blk HXA.out HNY.out); have HWC := Lib.hid (HWA.out.trans (hc.to_below HWA.out.size (fun k hk => hk.elim (fun h => h ▸ HG.out) (fun h => h ▸ HLB.out)))); clear hb hi hc))
  clear HIA HXA HWA HBA
  go_wp2_with (first | (go_at_call 130; (with_reducible refine (end_x _ _ HIC.out).mono ?_); rintro e w12 ⟨rfl, hi, hc⟩; have HBB := Lib.hid (hc.blk HBC.out HNB.out); have HXB2 := Lib.hid (hc.blk HXC.out HNX.out); have HWB := Lib.hid (HWC.out.trans (hc.to_below HWC.out.size (fun k hk => hk ▸ HG.out))); obtain ⟨c0, c1, c2, c3, c4, c5, c6, c7, c8, c9, c10, c11, c12, c13⟩ := ncell HBB.out; obtain ⟨r0, r1, r2, r3, r4, r5, r6, r7, r8, r9, r10, r11, r12, r13⟩ := ncell HXB2.out; have fz0 := blk_frozen HXB2.out 0; have fz1 := blk_frozen HXB2.out 1; have fz2 := blk_frozen HXB2.out 2; have fz3 := blk_frozen HXB2.out 3; have fz4 := blk_frozen HXB2.out 4; have fz5 := blk_frozen HXB2.out 5; have fz6 := blk_frozen HXB2.out 6; have fz7 := blk_frozen HXB2.out 7; have fz8 := blk_frozen HXB2.out 8; have fz9 := blk_frozen HXB2.out 9; have fz10 := blk_frozen HXB2.out 10; have fz11 := blk_frozen HXB2.out 11; have fz12 := blk_frozen HXB2.out 12; have fz13 := blk_frozen HXB2.out 13; clear hi hc))
  obtain ⟨WF, hWF, hF, hB, hP⟩ := set14 HXB2.out (by decide) (.bool false) (.int .u32 0) (.slice none 0 0) (.string id) (.bool false) (.slice none 0 0) (.string ⟨#[]⟩) (.string ⟨#[]⟩) (.int .u8 0) (.bool false) (.bool false) (.bool false) (.string ⟨#[]⟩) (.string ⟨#[]⟩)
  rw [← hWF]
  have HBF := Lib.hid (hB _ _ HWB.out (Nat.le_refl _))
  obtain ⟨o0, o1, o2, o3, o4, o5, o6, o7, o8, o9, o10, o11, o12, o13⟩ := ncell hF
  exact bodyPost_ret (v := .tuple #[.agg #[.bool false, .int .u32 0, .slice none 0 0, .string id, .bool false, .slice none 0 0, .string ⟨#[]⟩, .string ⟨#[]⟩, .int .u8 0, .bool false, .bool false, .bool false, .string ⟨#[]⟩, .string ⟨#[]⟩], .int .i64 0]) (by simp [results, Tryz.results82, go_sem, o0, o1, o2, o3, o4, o5, o6, o7, o8, o9, o10, o11, o12, o13]) rfl ⟨rfl, HBF.out⟩
theorem parse_con {w : World} {id : ByteArray} (hid : Asc id) (hz : id.size ≤ 100) : Calls Tryz.prog 50 #[fr 1 0 (conB id)] w (RB (.tuple #[.iface 74 (conV id), .int .i64 0]) w) := by
  have HCK := Lib.hid (fun W => chk_calls 1 0 (by decide) (by decide) W)
  rw [show chk 1 0 = 0 from rfl, show ((1 : Nat) : Int) = 1 from rfl, show ((0 : Nat) : Int) = 0 from rfl] at HCK
  unfold fr
  rw [show ((1 : Nat) : Int) = 1 from rfl, show ((0 : Nat) : Int) = 0 from rfl]
  have HPP := Lib.hid (fun W => conparse_x (w := W) hid hz)
  unfold PbEx conV at HPP
  unfold conV
  generalize conB id = B at HPP ⊢
  clear hid hz
  have HX := Lib.hid (heap_alloc_new w (.cells #[.int .i64 1, .int .i64 0, .string B] 128))
  have HB := Lib.hid (show Below w.heap.size w (w.alloc (.cells #[.int .i64 1, .int .i64 0, .string B] 128)) from (Below.refl _ _).alloc (Nat.le_refl _) _)
  go_enter Tryz.func50, Tryz.ntmps50
  go_upto_region 11 with (first
    | (go_at_call 62; refine (HCK.out _).mono ?_; rintro e w1 ⟨rfl, hb⟩; have HX1 := Lib.hid (hb.block _ (blk_lt HX.out) |>.trans HX.out); have HB1 := Lib.hid (HB.out.trans (hb.mono HB.out.size)); obtain ⟨x0, x1, x2⟩ := frcell HX1.out; have HX2 := Lib.hid (fun t cs => blk_alloc HX1.out (.cells cs t)); have HB2 := Lib.hid (fun t cs => HB1.out.alloc HB1.out.size (.cells cs t)); have y0 := fun t cs => (frcell (HX2.out t cs)).1; have y1 := fun t cs => (frcell (HX2.out t cs)).2.1; have y2 := fun t cs => (frcell (HX2.out t cs)).2.2; clear hb)
    | (go_at_call 82; (with_reducible refine (HPP.out _).mono ?_); rintro e w2 ⟨rfl, hb⟩; have HXB := Lib.hid (hb.block _ (blk_lt (heap_alloc_new w1 _)) |>.trans (heap_alloc_new w1 _)); have HB3 := Lib.hid ((HB2.out _ _).trans (hb.mono (HB2.out _ _).size)); have f0 := blk_frozen HXB.out 0; have f1 := blk_frozen HXB.out 1; have f2 := blk_frozen HXB.out 2; have f3 := blk_frozen HXB.out 3; have f4 := blk_frozen HXB.out 4; have f5 := blk_frozen HXB.out 5; have f6 := blk_frozen HXB.out 6; have f7 := blk_frozen HXB.out 7; have f8 := blk_frozen HXB.out 8; have f9 := blk_frozen HXB.out 9; have f10 := blk_frozen HXB.out 10; have f11 := blk_frozen HXB.out 11; have f12 := blk_frozen HXB.out 12; have f13 := blk_frozen HXB.out 13; obtain ⟨r0, r1, r2, r3, r4, r5, r6, r7, r8, r9, r10, r11, r12, r13⟩ := ncell HXB.out; clear hb))
  have hle : w.heap.size ≤ w1.heap.size := HB1.out.size
  obtain ⟨WF, hWF, hF, hB, _⟩ := set14 HXB.out (by decide) (.bool false) (.int .u32 0) (.slice none 0 0) (.string id) (.bool false) (.slice none 0 0) (.string ⟨#[]⟩) (.string ⟨#[]⟩) (.int .u8 0) (.bool false) (.bool false) (.bool false) (.string ⟨#[]⟩) (.string ⟨#[]⟩)
  rw [← hWF]
  have HBF := Lib.hid (hB _ _ HB3.out hle)
  obtain ⟨o0, o1, o2, o3, o4, o5, o6, o7, o8, o9, o10, o11, o12, o13⟩ := ncell hF
  clear r0 r1 r2 r3 r4 r5 r6 r7 r8 r9 r10 r11 r12 r13 f0 f1 f2 f3 f4 f5 f6 f7 f8 f9 f10 f11 f12 f13 hF hB hWF
  go_upto_region 35 with (fail)
  go_wp2
  go_ret2
  exact ⟨rfl, HBF.out⟩
def conD (id : ByteArray) : ND := ⟨false, 0, [], false, 0, false, false, false, ⟨id, [], ⟨#[]⟩, ⟨#[]⟩, ⟨#[]⟩, ⟨#[]⟩⟩⟩
theorem con_body (id : ByteArray) : toB (conD id).body = conB id := by
  unfold ND.body conB conD
  rw [show flU false false false false false 0 = 0 from rfl]
  simp only [putB_nil, if_false, Bool.false_eq_true, List.append_nil, List.nil_append, List.append_assoc]
  rfl
theorem conB_size (id : ByteArray) : (conB id).size = id.size + 13 := by
  unfold conB
  rw [toB_size]
  simp only [List.length_append, List.length_cons, List.length_nil, dat_len]
  show 2 + 4 + (2 + (2 + id.size + 0 + 1) + 1 + 1) = id.size + 13
  omega
theorem con_text {w : World} {id : ByteArray} (hz : id.size ≤ 100) : Calls Tryz.prog 22 #[.iface 74 (conV id)] w (RB (.string (toB (frB 1 0 (conB id)))) w) := by
  refine text_89 _ 1 0 _ (by decide) (by decide) (by rw [conB_size]; omega) (fun W1 hb => coframe (Lib.hid (fun W2 hb2 => ?_)))
  have h := cotext_calls (w := W2) (cl := false) (hw := false) (hu := false) (hp := false) (rt := false) (kp := 0) (c := 0) (c' := 0) (q := 0) (A := none) (A' := none) (L := []) (d := ⟨id, [], ⟨#[]⟩, ⟨#[]⟩, ⟨#[]⟩, ⟨#[]⟩⟩) ⟨(by decide : (0 : Nat) < 65536), lok_nil, (by decide : (0 : Nat) < 4), ⟨by show id.size ≤ _; omega, lok_nil, Nat.zero_le _, Nat.zero_le _, Nat.zero_le _, Nat.zero_le _⟩⟩ (Nat.le_refl _) (pl_nil W2) (Nat.le_refl _) (pl_nil W2)
  rw [show (⟨false, 0, [], false, 0, false, false, false, ⟨id, [], ⟨#[]⟩, ⟨#[]⟩, ⟨#[]⟩, ⟨#[]⟩⟩⟩ : ND) = conD id from rfl, con_body] at h
  exact h
theorem may2 : ∃ r, reason_codes.f 20 2 = some r ∧ decide ((0 : Int) ≤ Lib.indexByte r.data.toList ((0 : Int).toNat.toUInt8)) = true := by
  have h : (match reason_codes.f 20 2 with | some r => decide ((0 : Int) ≤ Lib.indexByte r.data.toList ((0 : Int).toNat.toUInt8)) | none => false) = true := by decide +kernel
  cases hr : reason_codes.f 20 2 with
  | none => rw [hr] at h; cases h
  | some r => rw [hr] at h; exact ⟨r, rfl, h⟩
theorem may_x (w : World) : Calls Tryz.prog 131 #[.int .i64 2, .int .u8 0] w (RB (.bool true) w) := by
  obtain ⟨r, hr, hd⟩ := may2
  have HR := Lib.hid hr
  have HI := Lib.hid (fun W => Tryz.strings_IndexByte r 0 W)
  generalize Lib.indexByte r.data.toList ((0 : Int).toNat.toUInt8) = ix at hd HI
  clear hr
  go_enter Tryz.func131, Tryz.ntmps131
  go_wp2_with (first
    | (go_at_call 182; refine (reason_codes.calls 20 2 r _ HR.out).mono ?_; rintro e w1 ⟨rfl, hd⟩; have HB := Lib.hid hd.below; clear hd)
    | (go_at_call 181; refine (HI.out _).mono ?_; rintro e w2 ⟨rfl, rfl⟩))
  go_ret
  exact ⟨rfl, HB.out⟩
theorem ck_num : ∀ p ∈ ckL, NumOk 4 p := by
  intro p hp
  rcases List.mem_cons.1 hp with rfl | hp
  · exact ⟨⟨by decide, by decide⟩, rfl, rfl, .inl ⟨(by kernel_rfl : kindOf 33 = 2), by decide⟩, by decide +kernel, by decide +kernel, by decide +kernel⟩
  rcases List.mem_cons.1 hp with rfl | hp
  · exact ⟨⟨by decide, by decide⟩, rfl, rfl, .inr ⟨(by kernel_rfl : kindOf 39 = 3), by decide⟩, by decide +kernel, by decide +kernel, by decide +kernel⟩
  rcases List.mem_cons.1 hp with rfl | hp
  · exact ⟨⟨by decide, by decide⟩, rfl, rfl, .inl ⟨(by kernel_rfl : kindOf 34 = 2), by decide⟩, by decide +kernel, by decide +kernel, by decide +kernel⟩
  cases hp
theorem miss_1 : Miss [⟨33, 30, ⟨#[]⟩, ⟨#[]⟩⟩] 39 := ⟨5, 0, 0, ⟨#[]⟩, ⟨#[]⟩, by kernel_rfl⟩
theorem miss_2 : Miss [⟨33, 30, ⟨#[]⟩, ⟨#[]⟩⟩, ⟨39, 2000, ⟨#[]⟩, ⟨#[]⟩⟩] 34 := ⟨5, 0, 0, ⟨#[]⟩, ⟨#[]⟩, by kernel_rfl⟩
theorem ck_miss : ∀ L1 p L2, ckL = L1 ++ p :: L2 → Miss L1 p.id := by
  intro L1 p L2 h
  unfold ckL at h
  rcases L1 with _ | ⟨a, _ | ⟨b, _ | ⟨c, _ | ⟨d, L⟩⟩⟩⟩
  · exact miss_nil _
  · injection h with h1 h
    injection h with h2 h
    subst h1
    subst h2
    exact miss_1
  · injection h with h1 h
    injection h with h2 h
    injection h with h3 h
    subst h1
    subst h2
    subst h3
    exact miss_2
  · injection h with h1 h
    injection h with h2 h
    injection h with h3 h
    cases h
  · injection h with h1 h
    injection h with h2 h
    injection h with h3 h
    cases h
def PtCk (w : World) (g : Nat) (e : Ending) (w' : World) : Prop := ∃ A n c, e = .returned (.slice A n c) ∧ IN w' g ⟨#[]⟩ 0 ∧ Chg (fun i => i = g) w w'
theorem pt_ck (W : World) (g : Nat) (hI : IN W g (toB (putB ckL)) 0) : Calls Tryz.prog 128 #[.pointer (some ⟨g, 0, none⟩), .int .i64 2, .bool false] W (PtCk W g) := by
  have h := take_ex (r := ⟨#[]⟩) ckL (show IN W g (toB (putB ckL ++ [])) 0 from by rw [List.append_nil]; exact hI) (by rw [ckL_b]; decide) 2 4 (by kernel_rfl) ck_num ck_miss (by decide)
  refine h.mono ?_
  rintro e w' ⟨v, rfl, hpo, hi, hc⟩
  obtain ⟨A, c, rfl, _, _⟩ := hpo.form
  exact ⟨A, _, c, rfl, hi, hc⟩
def CkP (w : World) (e : Ending) (w' : World) : Prop := ∃ u, e = .returned (.tuple #[.agg #[.bool false, .int .u8 0, u], .int .i64 0]) ∧ (∃ A n c, u = .slice A n c) ∧ Below w.heap.size w w'
theorem ckB_eq : ckB = toB (0 :: 0 :: putB ckL) := rfl
theorem connack_x {w : World} : Calls Tryz.prog 83 #[.string ckB] w (CkP w) := by
  rw [ckB_eq]
  have HB0 := Lib.hid (by_x 0 (0 :: putB ckL))
  have HB1 := Lib.hid (by_x 0 (putB ckL))
  have HPT := Lib.hid pt_ck
  unfold PtCk at HPT
  rw [show ((0 : UInt8).toNat : Int) = 0 from rfl] at HB0 HB1
  have HMAY := Lib.hid may_x
  unfold RB at HMAY
  generalize toB (0 :: 0 :: putB ckL) = s at HB0 ⊢
  generalize toB (0 :: putB ckL) = s1 at HB0 HB1
  generalize toB (putB ckL) = s2 at HB1 HPT
  have HX0 := Lib.hid (heap_alloc_new w (.cells #[.bool false, .int .u8 0, .slice none 0 0] 76))
  have HW0 := Lib.hid (show Below w.heap.size w (w.alloc (.cells #[.bool false, .int .u8 0, .slice none 0 0] 76)) from (Below.refl _ _).alloc (Nat.le_refl _) _)
  go_enter Tryz.func83, Tryz.ntmps83
  go_upto_region 4 with (first
    | (go_at_call 64; refine (over_in s).mono ?_; rintro e w1 ⟨g, rfl, hi, hg, hb⟩; have HG := Lib.hid (show w.heap.size ≤ g by have := HW0.out.size; omega); have HNX := Lib.hid (show w.heap.size ≠ g by have := blk_lt HX0.out; omega); have HX1 := Lib.hid (hb.block _ (blk_lt HX0.out) |>.trans HX0.out); have HW1 := Lib.hid (HW0.out.trans (hb.mono HW0.out.size)); have HI1 := Lib.hid hi; clear hi hg hb HX0)
    | (go_at_call 92; (with_reducible refine (HB0.out _ _ HI1.out).mono ?_); rintro e w2 ⟨rfl, hi, hc⟩; have HX2 := Lib.hid (hc.blk HX1.out HNX.out); have HW2 := Lib.hid (HW1.out.trans (hc.to_below HW1.out.size (fun k hk => hk ▸ HG.out))); have HI2 := Lib.hid hi; clear hi hc HI1 HX1)
    | (go_at_call 92; (with_reducible refine (HB1.out _ _ HI2.out).mono ?_); rintro e w3 ⟨rfl, hi, hc⟩; have HX3 := Lib.hid (hc.blk HX2.out HNX.out); have HW3 := Lib.hid (HW2.out.trans (hc.to_below HW2.out.size (fun k hk => hk ▸ HG.out))); have HI3 := Lib.hid hi; clear hi hc HI2 HX2))
  have HNB := Lib.hid (show w3.heap.size ≠ g by have := HI3.out.lt; omega)
  have HXB := Lib.hid (show w.heap.size ≠ w3.heap.size by have := blk_lt HX3.out; omega)
  have HLB := Lib.hid (show w.heap.size ≤ w3.heap.size from HW3.out.size)
  have hba := (Below.refl w3.heap.size w3).alloc (Nat.le_refl _) (.cells #[.bool false, .int .u8 0, .slice none 0 0] 76)
  have HI4 := Lib.hid (HI3.out.below hba)
  have HX4 := Lib.hid (blk_below HX3.out hba)
  have HW4 := Lib.hid (HW3.out.trans (hba.mono HW3.out.size))
  have HB4 := Lib.hid (heap_alloc_new w3 (.cells #[.bool false, .int .u8 0, .slice none 0 0] 76))
  clear hba HI3 HX3 HW3 HW2 HW1 HW0
  generalize (w3.alloc (.cells #[.bool false, .int .u8 0, .slice none 0 0] 76)) = W4 at HI4 HX4 HW4 HB4 ⊢
  obtain ⟨c0, c1, c2⟩ := frcell HB4.out
  go_upto_region 6 with (first
      | (go_at_call 66; refine (err_same HI4.out).mono ?_; rintro e w49 ⟨rfl, rfl⟩)
      | (go_at_call 131; (with_reducible refine (HMAY.out _).mono ?_); rintro e w5 ⟨rfl, hb⟩; have HI5 := Lib.hid (HI4.out.below hb); have HB5 := Lib.hid (blk_below HB4.out hb); have HX5 := Lib.hid (blk_below HX4.out hb); have HW5 := Lib.hid (HW4.out.trans (hb.mono HW4.out.size)); clear hb))
  clear HI4 HX4 HW4 HB4 c0 c1 c2
  obtain ⟨c0, c1, c2⟩ := frcell HB5.out
  go_upto_region 7 with (first
        | (go_at_call 128; (with_reducible refine (HPT.out _ _ HI5.out).mono ?_); rintro e w7 ⟨A, n, cc, rfl, hi, hc⟩; have fz7 := blk_frozen (hc.blk HB5.out HNB.out) 2; have cz7 := frcell (hc.blk HB5.out HNB.out); have HI7 := Lib.hid (hi.setc w3.heap.size 2 (.slice A n cc) (fun e => HNB.out e.symm)); have HB7 := Lib.hid (blk_put (hc.blk HB5.out HNB.out) 2 (.slice A n cc) rfl); have HX7 := Lib.hid (blk_sfar (hc.blk HX5.out HNX.out) 2 (.slice A n cc) HXB.out); have HW7 := Lib.hid (bset (HW5.out.trans (hc.to_below HW5.out.size (fun k hk => hk ▸ HG.out))) w3.heap.size 2 (.slice A n cc) HLB.out); clear c0 c1 c2; obtain ⟨c0, c1, c2⟩ := cz7; clear hi hc))
  clear HI5 HX5 HW5 HB5 c0 c1 c2 fz7
  generalize (w7.setCell ⟨w3.heap.size, 2, none⟩ (.slice A n cc)) = W7 at HI7 HX7 HW7 HB7 ⊢
  obtain ⟨c0, c1, c2⟩ := frcell HB7.out
  go_wp2_with (first
          | (go_at_call 66; refine (err_same HI7.out).mono ?_; rintro e w79 ⟨rfl, rfl⟩)
          | (go_at_call 130; (with_reducible refine (end_x _ _ HI7.out).mono ?_); rintro e w9 ⟨rfl, hi, hc⟩; have HB9 := Lib.hid (hc.blk HB7.out HNB.out); have HX9 := Lib.hid (hc.blk HX7.out HNX.out); have HW9 := Lib.hid (HW7.out.trans (hc.to_below HW7.out.size (fun k hk => hk ▸ HG.out))); clear c0 c1 c2; obtain ⟨c0, c1, c2⟩ := frcell HB9.out; obtain ⟨r0, r1, r2⟩ := frcell HX9.out; have f0 := blk_frozen HX9.out 0; have f1 := blk_frozen HX9.out 1; have f2 := blk_frozen HX9.out 2; clear hi hc))
  have HF := Lib.hid (blk_put (blk_put (blk_put HX9.out 0 (.bool false) rfl) 1 (.int .u8 0) rfl) 2 (.slice A n cc) rfl)
  have HBF := Lib.hid (bset (bset (bset HW9.out w.heap.size 0 (.bool false) (Nat.le_refl _)) w.heap.size 1 (.int .u8 0) (Nat.le_refl _)) w.heap.size 2 (.slice A n cc) (Nat.le_refl _))
  generalize (((w9.setCell ⟨w.heap.size, 0, none⟩ (.bool false)).setCell ⟨w.heap.size, 1, none⟩ (.int .u8 0)).setCell ⟨w.heap.size, 2, none⟩ (.slice A n cc)) = WF at HF HBF ⊢
  obtain ⟨o0, o1, o2⟩ := frcell HF.out
  exact bodyPost_ret (v := .tuple #[.agg #[.bool false, .int .u8 0, .slice A n cc], .int .i64 0]) (by simp [results, Tryz.results83, go_sem, o0, o1, o2]) rfl ⟨_, rfl, ⟨A, n, cc, rfl⟩, HBF.out⟩
def CkPX (w : World) (e : Ending) (w' : World) : Prop := ∃ u, e = .returned (.tuple #[.iface 78 (.agg #[.bool false, .int .u8 0, u]), .int .i64 0]) ∧ (∃ A n c, u = .slice A n c) ∧ Below w.heap.size w w'
theorem parse_ck {w : World} : Calls Tryz.prog 50 #[fr 2 0 ckB] w (CkPX w) := by
  have HCK := Lib.hid (fun W => chk_calls 2 0 (by decide) (by decide) W)
  rw [show chk 2 0 = 0 from rfl, show ((2 : Nat) : Int) = 2 from rfl, show ((0 : Nat) : Int) = 0 from rfl] at HCK
  unfold fr
  rw [show ((2 : Nat) : Int) = 2 from rfl, show ((0 : Nat) : Int) = 0 from rfl]
  have HPP := Lib.hid (fun W => connack_x (w := W))
  unfold CkP at HPP
  generalize ckB = s at HPP ⊢
  have HX := Lib.hid (heap_alloc_new w (.cells #[.int .i64 2, .int .i64 0, .string s] 128))
  have HB := Lib.hid (show Below w.heap.size w (w.alloc (.cells #[.int .i64 2, .int .i64 0, .string s] 128)) from (Below.refl _ _).alloc (Nat.le_refl _) _)
  go_enter Tryz.func50, Tryz.ntmps50
  go_wp2_with (first
    | (go_at_call 62; refine (HCK.out _).mono ?_; rintro e w1 ⟨rfl, hb⟩; have HX1 := Lib.hid (hb.block _ (blk_lt HX.out) |>.trans HX.out); have HB1 := Lib.hid (HB.out.trans (hb.mono HB.out.size)); obtain ⟨x0, x1, x2⟩ := frcell HX1.out; have HX2 := Lib.hid (fun t cs => blk_alloc HX1.out (.cells cs t)); have HB2 := Lib.hid (fun t cs => HB1.out.alloc HB1.out.size (.cells cs t)); have y0 := fun t cs => (frcell (HX2.out t cs)).1; have y1 := fun t cs => (frcell (HX2.out t cs)).2.1; have y2 := fun t cs => (frcell (HX2.out t cs)).2.2; clear hb)
    | (go_at_call 83; (with_reducible refine (HPP.out _).mono ?_); rintro e w2 ⟨u, rfl, ⟨A, n, c, rfl⟩, hb⟩; have HXB := Lib.hid (hb.block _ (blk_lt (heap_alloc_new w1 _)) |>.trans (heap_alloc_new w1 _)); have HB3 := Lib.hid ((HB2.out _ _).trans (hb.mono (HB2.out _ _).size)); have f0 := blk_frozen HXB.out 0; have f1 := blk_frozen HXB.out 1; have f2 := blk_frozen HXB.out 2; obtain ⟨r0, r1, r2⟩ := frcell HXB.out; clear hb))
  have hle : w.heap.size ≤ w1.heap.size := HB1.out.size
  go_ret2
  exact ⟨.slice A n c, rfl, ⟨A, n, c, rfl⟩, bset (bset (bset HB3.out w1.heap.size 0 _ hle) w1.heap.size 1 _ hle) w1.heap.size 2 _ hle⟩
end Go.Proofs.YtbfgpkogginmjaaGreatDoor
end
