/- subscribe.ParseAck. -/
import Derived.Test.YtljbchghbpmghaaGreatDoorS21
namespace Go.Proofs.YtljbchghbpmghaaGreatDoor
open Go.RowKit Go.Lib Go.Proofs.YtljbchghbpmghaaGreatDoorW.PrintWords Go.Proofs.YtljbchghbpmghaaGreatDoor.PSwitchboardGreat
set_option linter.unusedVariables false
set_option linter.unusedSimpArgs false
theorem w64n (j : Nat) (h : j < 1000000) : wrap64 ((j : Int) + 1) = ((j + 1 : Nat) : Int) := by
  unfold wrap64
  push_cast
  omega
def SackP (w : World) (k : Nat) (b : ByteArray) (e : Ending) (w' : World) : Prop := ∃ (kk id : Nat) (L : List PR) (s : ByteArray) (A : Option Addr) (c : Nat) (er : Int), e = .returned (.tuple #[.agg #[.int .i64 (kk : Nat), .int .u32 (id : Nat), .slice A L.length c, .string s], .int .i64 er]) ∧ Below w.heap.size w w' ∧ (er = 0 → kk = k ∧ id < 65536 ∧ LOk L ∧ PO w' 0 (fun _ => True) (.slice A L.length c) L ∧ s.size ≤ 100000 ∧ 2 + (putB L).length + s.size ≤ b.size)
set_option maxHeartbeats 4000000 in
set_option maxRecDepth 1000000 in
theorem sackparse_calls {w : World} (k : Nat) (hk : k = 9 ∨ k = 11) (s : ByteArray) (hs : s.size ≤ 100000) : Calls Tryz.prog 58 #[.int .i64 (k : Nat), .string s] w (SackP w k s) := by
  have HSS := Lib.hid hs
  have HK := Lib.hid hk
  have HMAY := Lib.hid (fun c W => may_calls k (by omega) c W)
  have HBG := Lib.hid (fun W => begin_calls (w := W) s (k : Nat) hs)
  have HX0 := Lib.hid (heap_alloc_new w (.cells #[.int .i64 0, .int .u32 0, .slice none 0 0, .string ⟨#[]⟩] 136))
  have HW0 := Lib.hid (show Below w.heap.size w (w.alloc (.cells #[.int .i64 0, .int .u32 0, .slice none 0 0, .string ⟨#[]⟩] 136)) from (Below.refl _ _).alloc (Nat.le_refl _) _)
  have kb := fun b W => print_bytes (P := Tryz.prog) 9 42 5 Tryz.underlying9 Tryz.underlying42 Tryz.underlying5 b W
  clear hs hk
  go_enter Tryz.func58, Tryz.ntmps58
  go_upto_region 1 with (fail)
  generalize (w.alloc (.cells #[.int .i64 0, .int .u32 0, .slice none 0 0, .string ⟨#[]⟩] 136)) = W0 at HX0 HW0 ⊢
  go_cut [18] (fun v18 wx => v18 = .bool false ∧ W0 = wx)
  case first =>
    by_cases h9 : k = 9
    · have hq : ((k : Int) != 9) = false := by simp [h9]
      clear h9
      go_wp2
      go_meet
      exact ⟨rfl, rfl⟩
    · have hq : ((k : Int) != 9) = true := by simp; omega
      have hq2 : ((k : Int) != 11) = false := by have := HK.out; simp; omega
      clear h9
      go_wp2
      go_meet
      exact ⟨rfl, rfl⟩
  case rest =>
    obtain ⟨rfl, rfl⟩ := hcut
    go_upto_if 18 with (fail)
    go_upto_region 5 with (first
      | (go_at_call 70; (with_reducible refine (HBG.out _).mono ?_); rintro e w1 ⟨g, id, v, L, s1, e1, rfl, hid, hg, hi, hb, hpo, hok, hE⟩; have HG := Lib.hid (show w.heap.size ≤ g by have := HW0.out.size; omega); have HNX := Lib.hid (show w.heap.size ≠ g by have := blk_lt HX0.out; omega); have HX1 := Lib.hid (blk_below HX0.out hb); have HW1 := Lib.hid (HW0.out.trans (hb.mono HW0.out.size)); have HI1 := Lib.hid hi; have HE1 := Lib.hid hE; have HOK := Lib.hid hok; have HID := Lib.hid hid; obtain ⟨A, cc, rfl, hcc, _⟩ := hpo.form; have HO1 := Lib.hid hpo; have HRC := Lib.hid (rest_calls HI1.out (show e1 = 0 → s1.size ≤ 100000 from fun h => by have h1 := (HE1.out h).2; have h2 := HSS.out; omega)); clear hid hg hi hb hpo hok hE hcc)
      | (go_at_call 29; (with_reducible refine (HRC.out).mono ?_); rintro e w2 ⟨b, s2, e2, rfl, hbs, hi, hc, hE⟩; have HBS := Lib.hid hbs; have HX2 := Lib.hid (hc.blk HX1.out HNX.out); have HW2 := Lib.hid (HW1.out.trans (hc.to_below HW1.out.size (fun k hk => hk ▸ HG.out))); have HI2 := Lib.hid hi; have HE2 := Lib.hid (HE1.out.trans hE); have HO2 := Lib.hid (HO1.out.rd HI1.out hc); clear hi hc hE hbs))
    clear HX0 HW0 HX1 HW1 HI1 HO1 HRC
    have HNB := Lib.hid (show w2.heap.size ≠ g by have := HI2.out.lt; omega)
    have hba := (Below.refl w2.heap.size w2).alloc (Nat.le_refl _) (.cells #[.int .i64 (k : Nat), .int .u32 (id : Nat), .slice A L.length cc, .string b] 136)
    have HI3 := Lib.hid (HI2.out.below hba)
    have HX3 := Lib.hid (blk_below HX2.out hba)
    have HW3 := Lib.hid (HW2.out.trans (hba.mono HW2.out.size))
    have HO3 := Lib.hid (HO2.out.below hba)
    have HB3 := Lib.hid (heap_alloc_new w2 (.cells #[.int .i64 (k : Nat), .int .u32 (id : Nat), .slice A L.length cc, .string b] 136))
    clear hba HI2 HX2 HW2 HO2
    generalize (w2.alloc (.cells #[.int .i64 (k : Nat), .int .u32 (id : Nat), .slice A L.length cc, .string b] 136)) = W3 at HI3 HX3 HW3 HO3 HB3 ⊢
    obtain ⟨c0, c1, c2, c3⟩ := qcell HB3.out
    go_upto_region 6 with (fail)
    have hbw := bytes_below (Below.refl W3.heap.size W3) (Nat.le_refl _) 5 b
    have HC4 := Lib.hid (fun j hj => Lib.bytesWorld_cell W3 5 b j hj)
    have HI4 := Lib.hid (HI3.out.below hbw)
    have HX4 := Lib.hid (blk_below HX3.out hbw)
    have HB4 := Lib.hid (blk_below HB3.out hbw)
    have HO4 := Lib.hid (HO3.out.below hbw)
    have HW4 := Lib.hid (HW3.out.trans (hbw.mono HW3.out.size))
    have HNG := Lib.hid (show W3.heap.size ≠ g by have := HI3.out.lt; omega)
    have HLS := Lib.hid (show W3.heap.size < (Lib.bytesWorld W3 5 b).heap.size by rw [Lib.bytesWorld_size]; omega)
    clear hbw HI3 HX3 HB3 HO3 HW3 kb c0 c1 c2 c3
    generalize Lib.bytesWorld W3 5 b = W4 at HC4 HI4 HX4 HB4 HO4 HW4 HLS ⊢
    generalize grownCap W3 b.size 0 5 = cap
    generalize W3.heap.size = b0 at HC4 HNG HLS ⊢
    go_loopg [37] b.size (fun gh v37 wx => ∃ (j : Nat) (e4 : Int), Hid (j + gh = b.size) ∧ v37 = .int .i64 j ∧ Hid (e4 = 0 → e2 = 0) ∧ Hid (∀ i, i < b.size → wx.cell? ⟨b0, i, none⟩ = some (.int .u8 (b.data.toList.getD i 0).toNat)) ∧ Hid (b0 < wx.heap.size) ∧ Hid (IN wx g s2 e4) ∧ Hid (wx.heap[w.heap.size]? = some (.cells #[.int .i64 0, .int .u32 0, .slice none 0 0, .string ⟨#[]⟩] 136 (0, 0))) ∧ Hid (wx.heap[w2.heap.size]? = some (.cells #[.int .i64 (k : Nat), .int .u32 (id : Nat), .slice A L.length cc, .string b] 136 (0, 0))) ∧ Hid (PO wx 0 (fun _ => True) (.slice A L.length cc) L) ∧ Hid (Below w.heap.size w wx))
    case atStart => exact ⟨0, e2, Lib.hid (Nat.zero_add _), rfl, Lib.hid (fun h => h), HC4, HLS, HI4, HX4, HB4, HO4, HW4⟩
    case round =>
      clear HC4 HLS HI4 HX4 HB4 HO4 HW4
      obtain ⟨j, e4, hj, rfl, HQ5, HC5, HLS, HI5, HX5, HB5, HO5, HW5⟩ := hrel
      cases gk with
      | zero =>
        have hkb := hj.out
        have hlt : ¬ (j : Int) < (b.size : Int) := by omega
        clear hkb hj
        have HEND := Lib.hid (fun (h : endR s2 e4 = 0) => endR_0 h)
        have HCE := Lib.hid (end_in HI5.out)
        generalize endR s2 e4 = er at HEND HCE
        by_cases her : er = 0
        · obtain rfl := her
          have HFIN := Lib.hid (HEND.out rfl)
          have HLEN := Lib.hid (show 2 + (putB L).length + b.size ≤ s.size by
            have h1 := (HE2.out (HQ5.out HFIN.out.1)).2
            omega)
          go_wp2_with (first | (go_at_call 53; (with_reducible refine (HCE.out).mono ?_); rintro e w9 ⟨rfl, hi, hc⟩; have HB9 := Lib.hid (hc.blk HB5.out HNB.out); have HX9 := Lib.hid (hc.blk HX5.out HNX.out); have HW9 := Lib.hid (HW5.out.trans (hc.to_below HW5.out.size (fun k hk => hk ▸ HG.out))); have HO9 := Lib.hid (HO5.out.rd HI5.out hc); obtain ⟨c0, c1, c2, c3⟩ := qcell HB9.out; obtain ⟨r0, r1, r2, r3⟩ := qcell HX9.out; have f0 := blk_frozen HX9.out 0; have f1 := blk_frozen HX9.out 1; have f2 := blk_frozen HX9.out 2; have f3 := blk_frozen HX9.out 3; clear hi hc))
          have HF := Lib.hid (blk_put (blk_put (blk_put (blk_put HX9.out 0 (.int .i64 (k : Nat)) rfl) 1 (.int .u32 (id : Nat)) rfl) 2 (.slice A L.length cc) rfl) 3 (.string b) rfl)
          have HBF := Lib.hid (bset (bset (bset (bset HW9.out w.heap.size 0 (.int .i64 (k : Nat)) (Nat.le_refl _)) w.heap.size 1 (.int .u32 (id : Nat)) (Nat.le_refl _)) w.heap.size 2 (.slice A L.length cc) (Nat.le_refl _)) w.heap.size 3 (.string b) (Nat.le_refl _))
          have HOF := Lib.hid (PO.setc (PO.setc (PO.setc (PO.setc HO9.out w.heap.size 0 (.int .i64 (k : Nat)) HX9.out (by decide)) w.heap.size 1 (.int .u32 (id : Nat)) (blk_put HX9.out 0 (.int .i64 (k : Nat)) rfl) (by decide)) w.heap.size 2 (.slice A L.length cc) (blk_put (blk_put HX9.out 0 (.int .i64 (k : Nat)) rfl) 1 (.int .u32 (id : Nat)) rfl) (by decide)) w.heap.size 3 (.string b) (blk_put (blk_put (blk_put HX9.out 0 (.int .i64 (k : Nat)) rfl) 1 (.int .u32 (id : Nat)) rfl) 2 (.slice A L.length cc) rfl) (by decide))
          generalize ((((w9.setCell ⟨w.heap.size, 0, none⟩ (.int .i64 (k : Nat))).setCell ⟨w.heap.size, 1, none⟩ (.int .u32 (id : Nat))).setCell ⟨w.heap.size, 2, none⟩ (.slice A L.length cc)).setCell ⟨w.heap.size, 3, none⟩ (.string b)) = WF at HF HBF HOF ⊢
          obtain ⟨o0, o1, o2, o3⟩ := qcell HF.out
          exact bodyPost_ret (v := .tuple #[.agg #[(.int .i64 (k : Nat)), (.int .u32 (id : Nat)), (.slice A L.length cc), (.string b)], .int .i64 0]) (by simp [results, Tryz.results58, go_sem, o0, o1, o2, o3]) rfl ⟨k, id, L, b, A, cc, 0, rfl, HBF.out, fun _ => ⟨rfl, HID.out, HOK.out, HOF.out, HBS.out, HLEN.out⟩⟩
        · have hne : (er != 0) = true := by simpa [bne_iff_ne] using her
          have HER := Lib.hid her
          clear her
          go_wp2_with (first | (go_at_call 53; (with_reducible refine (HCE.out).mono ?_); rintro e w9 ⟨rfl, hi, hc⟩; have HB9 := Lib.hid (hc.blk HB5.out HNB.out); have HX9 := Lib.hid (hc.blk HX5.out HNX.out); have HW9 := Lib.hid (HW5.out.trans (hc.to_below HW5.out.size (fun k hk => hk ▸ HG.out))); have HO9 := Lib.hid (HO5.out.rd HI5.out hc); obtain ⟨c0, c1, c2, c3⟩ := qcell HB9.out; obtain ⟨r0, r1, r2, r3⟩ := qcell HX9.out; have f0 := blk_frozen HX9.out 0; have f1 := blk_frozen HX9.out 1; have f2 := blk_frozen HX9.out 2; have f3 := blk_frozen HX9.out 3; clear hi hc))
          have HF := Lib.hid (blk_put (blk_put (blk_put (blk_put HX9.out 0 (.int .i64 0) rfl) 1 (.int .u32 0) rfl) 2 (.slice none 0 0) rfl) 3 (.string ⟨#[]⟩) rfl)
          have HBF := Lib.hid (bset (bset (bset (bset HW9.out w.heap.size 0 (.int .i64 0) (Nat.le_refl _)) w.heap.size 1 (.int .u32 0) (Nat.le_refl _)) w.heap.size 2 (.slice none 0 0) (Nat.le_refl _)) w.heap.size 3 (.string ⟨#[]⟩) (Nat.le_refl _))
          generalize ((((w9.setCell ⟨w.heap.size, 0, none⟩ (.int .i64 0)).setCell ⟨w.heap.size, 1, none⟩ (.int .u32 0)).setCell ⟨w.heap.size, 2, none⟩ (.slice none 0 0)).setCell ⟨w.heap.size, 3, none⟩ (.string ⟨#[]⟩)) = WF at HF HBF ⊢
          obtain ⟨o0, o1, o2, o3⟩ := qcell HF.out
          exact bodyPost_ret (v := .tuple #[.agg #[(.int .i64 0), (.int .u32 0), (.slice none 0 0), (.string ⟨#[]⟩)], .int .i64 er]) (by simp [results, Tryz.results58, go_sem, o0, o1, o2, o3]) rfl ⟨0, 0, [], ⟨#[]⟩, none, 0, er, rfl, HBF.out, fun h => absurd h HER.out⟩
      | succ g1 =>
        have hkb := hj.out
        have hlt : (j : Int) < (b.size : Int) := by omega
        have hlt2 : j < b.size := by omega
        have hcell := HC5.out j hlt2
        have HJ := Lib.hid (show j + g1 + 1 = b.size by omega)
        clear hkb hj
        generalize (b.data.toList.getD j 0).toNat = y at hcell
        go_upto_if 44 with (first | (go_at_call 54; (with_reducible refine (HMAY.out _ _).mono ?_); rintro e w5 ⟨mb, rfl, hb⟩; have HC6 := Lib.hid (fun i hi => (Chg.of_below (S := fun _ => False) hb).cell (HC5.out i hi) (fun h => h)); have HLS6 := Lib.hid (Nat.lt_of_lt_of_le HLS.out hb.size); have HI6 := Lib.hid (HI5.out.below hb); have HX6 := Lib.hid (blk_below HX5.out hb); have HB6 := Lib.hid (blk_below HB5.out hb); have HO6 := Lib.hid (HO5.out.below hb); have HW6 := Lib.hid (HW5.out.trans (hb.mono HW5.out.size)); clear hb hcell))
        clear HI5 HX5 HB5 HO5 HW5 HC5 HLS
        cases mb with
        | true =>
          go_wp2
          go_roundg g1
          case measure => omega
          case rel => exact ⟨j + 1, e4, Lib.hid (by have := HJ.out; omega), by have hb1 := HJ.out; have hb2 := HBS.out; rw [w64n j (by omega)], HQ5, HC6, HLS6, HI6, HX6, HB6, HO6, HW6⟩
        | false =>
          go_wp2_with (first | (go_at_call 43; (with_reducible refine (fail_any HI6.out 2 (by decide)).mono ?_); rintro e w6 ⟨ef, rfl, hef, hi, hc⟩; have HEF := Lib.hid hef; have HI7 := Lib.hid hi; have HC7 := Lib.hid (fun i hi => hc.cell (HC6.out i hi) HNG.out); have HLS7 := Lib.hid (Nat.lt_of_lt_of_le HLS6.out hc.size); have HX7 := Lib.hid (hc.blk HX6.out HNX.out); have HB7 := Lib.hid (hc.blk HB6.out HNB.out); have HO7 := Lib.hid (HO6.out.rd HI6.out hc); have HW7 := Lib.hid (HW6.out.trans (hc.to_below HW6.out.size (fun k hk => hk ▸ HG.out))); clear hef hi hc))
          go_roundg g1
          case measure => omega
          case rel => exact ⟨j + 1, ef, Lib.hid (by have := HJ.out; omega), by have hb1 := HJ.out; have hb2 := HBS.out; rw [w64n j (by omega)], Lib.hid (fun h => absurd h HEF.out), HC7, HLS7, HI7, HX7, HB7, HO7, HW7⟩
end Go.Proofs.YtljbchghbpmghaaGreatDoor
