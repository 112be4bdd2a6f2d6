/- packet.bye: any body. -/
import Derived.Test.YtljbchghbpmghaaGreatDoorS8
namespace Go.Proofs.YtljbchghbpmghaaGreatDoor
open Go.RowKit Go.Lib Go.Proofs.YtljbchghbpmghaaGreatDoorW.PrintWords Go.Proofs.YtljbchghbpmghaaGreatDoor.PSwitchboardGreat
set_option linter.unusedVariables false
set_option linter.unusedSimpArgs false
/-- A bye. -/
structure BD where
  k : Nat
  c : Nat
  L : List PR
structure BD.Ok (d : BD) : Prop where
  k : d.k < 16
  c : d.c < 256
  L : LOk d.L
def BD.v (d : BD) (A : Option Addr) (cc : Nat) : Value := .agg #[.int .i64 (d.k : Nat), .int .u8 (d.c : Nat), .slice A d.L.length cc]
def BD.body (d : BD) : List UInt8 := tailB d.c d.L
def ByeP (w : World) (k : Nat) (s : ByteArray) (e : Ending) (w' : World) : Prop := ∃ (d : BD) (A : Option Addr) (c : Nat) (er : Int), e = .returned (.tuple #[d.v A c, .int .i64 er]) ∧ Below w.heap.size w w' ∧ (er = 0 → d.k = k ∧ d.Ok ∧ PO w' 0 (fun _ => True) (.slice A d.L.length c) d.L ∧ d.body.length ≤ s.size)
theorem po_drew {w : World} {B : Nat} {ok : Nat → Prop} {v : Value} {L : List PR} (h : PO w B ok v L) : PO w.drew B ok v L := h.to (S := fun _ => False) ⟨rfl, rfl, rfl, Nat.le_refl _, fun _ _ _ => rfl⟩ (fun _ h => h.elim)
set_option maxHeartbeats 4000000 in
set_option maxRecDepth 1000000 in
theorem bye_calls {w : World} (k : Nat) (hk : k < 16) (s : ByteArray) (hs : s.size ≤ 100000) : Calls Tryz.prog 39 #[.int .i64 k, .string s] w (ByeP w k s) := by
  have HSS := Lib.hid hs
  have HX0 := Lib.hid (heap_alloc_new w (.cells #[.int .i64 0, .int .u8 0, .slice none 0 0] 107))
  have HW0 := Lib.hid (show Below w.heap.size w (w.alloc (.cells #[.int .i64 0, .int .u8 0, .slice none 0 0] 107)) from (Below.refl _ _).alloc (Nat.le_refl _) _)
  have HK := Lib.hid hk
  clear hs hk
  go_enter Tryz.func39, Tryz.ntmps39
  go_upto_region 3 with (first
    | (go_at_call 23; refine (over_in s).mono ?_; rintro e w2 ⟨g, rfl, hi, hg, hb⟩; have HG := Lib.hid (show w.heap.size ≤ g by have := HW0.out.size; omega); have HNX := Lib.hid (show w.heap.size ≠ g by have := blk_lt HX0.out; omega); have HX2 := Lib.hid (hb.block _ (blk_lt HX0.out) |>.trans HX0.out); have HW2 := Lib.hid (HW0.out.trans (hb.mono HW0.out.size)); have HI2 := Lib.hid hi; clear hi hg hb))
  have HNB := Lib.hid (show w2.heap.size ≠ g by have := HI2.out.lt; omega)
  have HXB := Lib.hid (show w.heap.size ≠ w2.heap.size by have := blk_lt HX2.out; omega)
  have HLB := Lib.hid (show w.heap.size ≤ w2.heap.size from HW2.out.size)
  have hba := (Below.refl w2.heap.size w2).alloc (Nat.le_refl _) (.cells #[.int .i64 (k : Nat), .int .u8 0, .slice none 0 0] 107)
  have HI3 := Lib.hid (HI2.out.below hba)
  have HX3 := Lib.hid (blk_below HX2.out hba)
  have HW3 := Lib.hid (HW2.out.trans (hba.mono HW2.out.size))
  have HB3 := Lib.hid (heap_alloc_new w2 (.cells #[.int .i64 (k : Nat), .int .u8 0, .slice none 0 0] 107))
  clear hba HX0 HW0 HI2 HX2 HW2
  generalize (w2.alloc (.cells #[.int .i64 (k : Nat), .int .u8 0, .slice none 0 0] 107)) = W3 at HI3 HX3 HW3 HB3 ⊢
  by_cases hz2 : 0 < s.size
  · go_upto_region 5 with (first
      | (go_at_call 27; refine (left_same HI3.out).mono ?_; rintro e w38 ⟨rfl, rfl⟩)
      | (go_at_call 42; (with_reducible refine (nt_byte HI3.out).mono ?_); rintro e w4 hp; obtain ⟨c, s4, e4, rfl, hcv, hi, hc, hE⟩ := hp; have fz4 := blk_frozen (hc.blk HB3.out HNB.out) 1; have cz4 := frcell (hc.blk HB3.out HNB.out); have HI4 := Lib.hid (hi.setc w2.heap.size 1 (.int .u8 (c : Nat)) (fun e => HNB.out e.symm)); have HB4 := Lib.hid (blk_put (hc.blk HB3.out HNB.out) 1 (.int .u8 (c : Nat)) rfl); have HX4 := Lib.hid (blk_sfar (hc.blk HX3.out HNX.out) 1 (.int .u8 (c : Nat)) HXB.out); have HW4 := Lib.hid (bset (HW3.out.trans (hc.to_below HW3.out.size (fun k hk => hk ▸ HG.out))) w2.heap.size 1 (.int .u8 (c : Nat)) HLB.out); have HE4 := Lib.hid hE; have HC := Lib.hid hcv; obtain ⟨c0, c1, c2⟩ := cz4; clear hE hcv; clear hi hc))
    clear HI3 HX3 HW3 HB3 c0 c1 c2 fz4
    generalize (w4.setCell ⟨w2.heap.size, 1, none⟩ (.int .u8 (c : Nat))) = W4 at HI4 HX4 HW4 HB4 ⊢
    obtain ⟨c0, c1, c2⟩ := frcell HB4.out
    go_upto_if 22 with (first
      | (go_at_call 54; (with_reducible refine (may_calls k HK.out _ _).mono ?_); rintro e w5 hp; obtain ⟨mb, rfl, hb⟩ := hp; have HI5 := Lib.hid (HI4.out.below hb); have HB5 := Lib.hid (blk_below HB4.out hb); have HX5 := Lib.hid (blk_below HX4.out hb); have HW5 := Lib.hid (HW4.out.trans (hb.mono HW4.out.size)); clear hb))
    clear c0 c1 c2
    cases mb with
    | false =>
      go_upto_region 7 with (first
        | (go_at_call 43; (with_reducible refine (fail_any HI5.out 2 (by decide)).mono ?_); rintro e w6 hp; obtain ⟨ef, rfl, hef, hi, hc⟩ := hp; have HI6 := Lib.hid hi; have HB6 := Lib.hid (hc.blk HB5.out HNB.out); have HX6 := Lib.hid (hc.blk HX5.out HNX.out); have HW6 := Lib.hid (HW5.out.trans (hc.to_below HW5.out.size (fun k hk => hk ▸ HG.out))); have HEF := Lib.hid hef; clear hef; clear hi hc))
      by_cases hz6 : 0 < s4.size
      · have HTK := Lib.hid (take0_calls HI6.out (show (ef : Int) = 0 → s4.size ≤ 100000 from fun h => absurd h HEF.out) (k : Nat) false)
        go_upto_region 9 with (first
          | (go_at_call 27; refine (left_same HI6.out).mono ?_; rintro e w68 ⟨rfl, rfl⟩)
          | (go_at_call 51; (with_reducible refine (HTK.out).mono ?_); rintro e w7 hp; obtain ⟨v, L, s5, e5, rfl, hpo, hok, hi, hc, hE⟩ := hp; have fz7 := blk_frozen (hc.blk HB6.out HNB.out) 2; have cz7 := frcell (hc.blk HB6.out HNB.out); have HI7 := Lib.hid (hi.setc w2.heap.size 2 v (fun e => HNB.out e.symm)); have HB7 := Lib.hid (blk_put (hc.blk HB6.out HNB.out) 2 v rfl); have HX7 := Lib.hid (blk_sfar (hc.blk HX6.out HNX.out) 2 v HXB.out); have HW7 := Lib.hid (bset (HW6.out.trans (hc.to_below HW6.out.size (fun k hk => hk ▸ HG.out))) w2.heap.size 2 v HLB.out); have HEL := Lib.hid hE; have HOK := Lib.hid hok; have HO7 := Lib.hid (hpo.setc w2.heap.size 2 v (hc.blk HB6.out HNB.out) (by decide)); obtain ⟨A, cc, rfl, hcc, _⟩ := HO7.out.form; obtain ⟨c0, c1, c2⟩ := cz7; clear hpo hok hE; clear hi hc))
        clear HI6 HX6 HW6 HB6 c0 c1 c2 fz7
        generalize (w7.setCell ⟨w2.heap.size, 2, none⟩ (.slice A L.length cc)) = W7 at HI7 HX7 HW7 HB7 HO7 ⊢
        have HEND := Lib.hid (fun (h : endR s5 e5 = 0) => endR_0 h)
        have HCE := Lib.hid (end_in HI7.out.drew)
        generalize endR s5 e5 = er at HEND HCE
        have HBd := Lib.hid (blk_drew HB7.out)
        have HXd := Lib.hid (blk_drew HX7.out)
        have HWd := Lib.hid (below_dr HW7.out)
        have HOd := Lib.hid (po_drew HO7.out)
        have HId := Lib.hid HI7.out.drew
        obtain ⟨b0, b1, b2⟩ := frcell HB7.out
        go_region_held3 (fun w' => w'.cell? ⟨w2.heap.size, 0, none⟩ = some (.int .i64 (k : Nat)) ∧ w'.cell? ⟨w2.heap.size, 1, none⟩ = some (.int .u8 (c)) ∧ w'.cell? ⟨w2.heap.size, 2, none⟩ = some (.slice A L.length cc)) (first | exact ⟨b0, b1, b2⟩ | exact ⟨c0, c1, c2⟩ | exact ⟨d0, d1, d2⟩ | go_keep) (first
          | (go_at_call 53; (with_reducible refine (HCE.out).mono ?_); rintro e w8 ⟨rfl, hi, hc⟩; have HB8 := Lib.hid (hc.blk HBd.out HNB.out); have HX8 := Lib.hid (hc.blk HXd.out HNX.out); have HW8 := Lib.hid (HWd.out.trans (hc.to_below HWd.out.size (fun k hk => hk ▸ HG.out))); have HO8 := Lib.hid (HOd.out.rd HId.out hc); obtain ⟨c0, c1, c2⟩ := frcell HB8.out; obtain ⟨r0, r1, r2⟩ := frcell HX8.out; have f0 := blk_frozen HX8.out 0; have f1 := blk_frozen HX8.out 1; have f2 := blk_frozen HX8.out 2; obtain ⟨d0, d1, d2⟩ := frcell (blk_sfar (blk_sfar (blk_sfar HB8.out 0 (.int .i64 (k : Nat)) (fun e => HXB.out e.symm)) 1 (.int .u8 (c)) (fun e => HXB.out e.symm)) 2 (.slice A L.length cc) (fun e => HXB.out e.symm)); clear hi hc))
        go_wp2
        have HF := Lib.hid (blk_put (blk_put (blk_put HX8.out 0 (.int .i64 (k : Nat)) rfl) 1 (.int .u8 (c)) rfl) 2 (.slice A L.length cc) rfl)
        have HBF := Lib.hid (bset (bset (bset HW8.out w.heap.size 0 (.int .i64 (k : Nat)) (Nat.le_refl _)) w.heap.size 1 (.int .u8 (c)) (Nat.le_refl _)) w.heap.size 2 (.slice A L.length cc) (Nat.le_refl _))
        have HOF := Lib.hid (PO.setc (PO.setc (PO.setc HO8.out w.heap.size 0 (.int .i64 (k : Nat)) HX8.out (by decide)) w.heap.size 1 (.int .u8 (c)) (blk_put HX8.out 0 (.int .i64 (k : Nat)) rfl) (by decide)) w.heap.size 2 (.slice A L.length cc) (blk_put (blk_put HX8.out 0 (.int .i64 (k : Nat)) rfl) 1 (.int .u8 (c)) rfl) (by decide))
        generalize (((w8.setCell ⟨w.heap.size, 0, none⟩ (.int .i64 (k : Nat))).setCell ⟨w.heap.size, 1, none⟩ (.int .u8 (c))).setCell ⟨w.heap.size, 2, none⟩ (.slice A L.length cc)) = WF at HF HBF HOF ⊢
        obtain ⟨o0, o1, o2⟩ := frcell HF.out
        exact bodyPost_ret (v := .tuple #[.agg #[.int .i64 (k : Nat), .int .u8 (c), .slice A L.length cc], .int .i64 er]) (by simp [results, Tryz.results39, go_sem, o0, o1, o2]) rfl ⟨(⟨k, c, L⟩ : BD), A, cc, er, rfl, HBF.out, fun h => absurd h (fun h => HEF.out (HEL.out (HEND.out h).1).1)⟩
      · go_upto_region 9 with (first | (go_at_call 27; refine (left_same HI6.out).mono ?_; rintro e w68 ⟨rfl, rfl⟩))
        have HEND := Lib.hid (fun (h : endR s4 ef = 0) => endR_0 h)
        have HCE := Lib.hid (end_in HI6.out.drew)
        generalize endR s4 ef = er at HEND HCE
        have HBd := Lib.hid (blk_drew HB6.out)
        have HXd := Lib.hid (blk_drew HX6.out)
        have HWd := Lib.hid (below_dr HW6.out)
        have HId := Lib.hid HI6.out.drew
        obtain ⟨b0, b1, b2⟩ := frcell HB6.out
        go_region_held3 (fun w' => w'.cell? ⟨w2.heap.size, 0, none⟩ = some (.int .i64 (k : Nat)) ∧ w'.cell? ⟨w2.heap.size, 1, none⟩ = some (.int .u8 (c)) ∧ w'.cell? ⟨w2.heap.size, 2, none⟩ = some (.slice none 0 0)) (first | exact ⟨b0, b1, b2⟩ | exact ⟨c0, c1, c2⟩ | exact ⟨d0, d1, d2⟩ | go_keep) (first
          | (go_at_call 53; (with_reducible refine (HCE.out).mono ?_); rintro e w7 ⟨rfl, hi, hc⟩; have HB7 := Lib.hid (hc.blk HBd.out HNB.out); have HX7 := Lib.hid (hc.blk HXd.out HNX.out); have HW7 := Lib.hid (HWd.out.trans (hc.to_below HWd.out.size (fun k hk => hk ▸ HG.out))); obtain ⟨c0, c1, c2⟩ := frcell HB7.out; obtain ⟨r0, r1, r2⟩ := frcell HX7.out; have f0 := blk_frozen HX7.out 0; have f1 := blk_frozen HX7.out 1; have f2 := blk_frozen HX7.out 2; obtain ⟨d0, d1, d2⟩ := frcell (blk_sfar (blk_sfar (blk_sfar HB7.out 0 (.int .i64 (k : Nat)) (fun e => HXB.out e.symm)) 1 (.int .u8 (c)) (fun e => HXB.out e.symm)) 2 (.slice none 0 0) (fun e => HXB.out e.symm)); clear hi hc))
        go_wp2
        have HF := Lib.hid (blk_put (blk_put (blk_put HX7.out 0 (.int .i64 (k : Nat)) rfl) 1 (.int .u8 (c)) rfl) 2 (.slice none 0 0) rfl)
        have HBF := Lib.hid (bset (bset (bset HW7.out w.heap.size 0 (.int .i64 (k : Nat)) (Nat.le_refl _)) w.heap.size 1 (.int .u8 (c)) (Nat.le_refl _)) w.heap.size 2 (.slice none 0 0) (Nat.le_refl _))
        generalize (((w7.setCell ⟨w.heap.size, 0, none⟩ (.int .i64 (k : Nat))).setCell ⟨w.heap.size, 1, none⟩ (.int .u8 (c))).setCell ⟨w.heap.size, 2, none⟩ (.slice none 0 0)) = WF at HF HBF ⊢
        obtain ⟨o0, o1, o2⟩ := frcell HF.out
        exact bodyPost_ret (v := .tuple #[.agg #[.int .i64 (k : Nat), .int .u8 (c), .slice none 0 0], .int .i64 er]) (by simp [results, Tryz.results39, go_sem, o0, o1, o2]) rfl ⟨(⟨k, c, []⟩ : BD), none, 0, er, rfl, HBF.out, fun h => absurd h (fun h => HEF.out (HEND.out h).1)⟩
    | true =>
      go_upto_region 7 with (fail)
      by_cases hz5 : 0 < s4.size
      · have HTK := Lib.hid (take0_calls HI5.out (show (e4 : Int) = 0 → s4.size ≤ 100000 from fun h => by have h1 := (HE4.out h).2; have h2 := HSS.out; omega) (k : Nat) false)
        go_upto_region 9 with (first
          | (go_at_call 27; refine (left_same HI5.out).mono ?_; rintro e w58 ⟨rfl, rfl⟩)
          | (go_at_call 51; (with_reducible refine (HTK.out).mono ?_); rintro e w6 hp; obtain ⟨v, L, s5, e5, rfl, hpo, hok, hi, hc, hE⟩ := hp; have fz6 := blk_frozen (hc.blk HB5.out HNB.out) 2; have cz6 := frcell (hc.blk HB5.out HNB.out); have HI6 := Lib.hid (hi.setc w2.heap.size 2 v (fun e => HNB.out e.symm)); have HB6 := Lib.hid (blk_put (hc.blk HB5.out HNB.out) 2 v rfl); have HX6 := Lib.hid (blk_sfar (hc.blk HX5.out HNX.out) 2 v HXB.out); have HW6 := Lib.hid (bset (HW5.out.trans (hc.to_below HW5.out.size (fun k hk => hk ▸ HG.out))) w2.heap.size 2 v HLB.out); have HEL := Lib.hid hE; have HOK := Lib.hid hok; have HO6 := Lib.hid (hpo.setc w2.heap.size 2 v (hc.blk HB5.out HNB.out) (by decide)); obtain ⟨A, cc, rfl, hcc, _⟩ := HO6.out.form; obtain ⟨c0, c1, c2⟩ := cz6; clear hpo hok hE; clear hi hc))
        clear HI5 HX5 HW5 HB5 c0 c1 c2 fz6
        generalize (w6.setCell ⟨w2.heap.size, 2, none⟩ (.slice A L.length cc)) = W6 at HI6 HX6 HW6 HB6 HO6 ⊢
        have HEND := Lib.hid (fun (h : endR s5 e5 = 0) => endR_0 h)
        have HCE := Lib.hid (end_in HI6.out.drew)
        generalize endR s5 e5 = er at HEND HCE
        have HBd := Lib.hid (blk_drew HB6.out)
        have HXd := Lib.hid (blk_drew HX6.out)
        have HWd := Lib.hid (below_dr HW6.out)
        have HOd := Lib.hid (po_drew HO6.out)
        have HId := Lib.hid HI6.out.drew
        obtain ⟨b0, b1, b2⟩ := frcell HB6.out
        go_region_held3 (fun w' => w'.cell? ⟨w2.heap.size, 0, none⟩ = some (.int .i64 (k : Nat)) ∧ w'.cell? ⟨w2.heap.size, 1, none⟩ = some (.int .u8 (c)) ∧ w'.cell? ⟨w2.heap.size, 2, none⟩ = some (.slice A L.length cc)) (first | exact ⟨b0, b1, b2⟩ | exact ⟨c0, c1, c2⟩ | exact ⟨d0, d1, d2⟩ | go_keep) (first
          | (go_at_call 53; (with_reducible refine (HCE.out).mono ?_); rintro e w7 ⟨rfl, hi, hc⟩; have HB7 := Lib.hid (hc.blk HBd.out HNB.out); have HX7 := Lib.hid (hc.blk HXd.out HNX.out); have HW7 := Lib.hid (HWd.out.trans (hc.to_below HWd.out.size (fun k hk => hk ▸ HG.out))); have HO7 := Lib.hid (HOd.out.rd HId.out hc); obtain ⟨c0, c1, c2⟩ := frcell HB7.out; obtain ⟨r0, r1, r2⟩ := frcell HX7.out; have f0 := blk_frozen HX7.out 0; have f1 := blk_frozen HX7.out 1; have f2 := blk_frozen HX7.out 2; obtain ⟨d0, d1, d2⟩ := frcell (blk_sfar (blk_sfar (blk_sfar HB7.out 0 (.int .i64 (k : Nat)) (fun e => HXB.out e.symm)) 1 (.int .u8 (c)) (fun e => HXB.out e.symm)) 2 (.slice A L.length cc) (fun e => HXB.out e.symm)); clear hi hc))
        go_wp2
        have HF := Lib.hid (blk_put (blk_put (blk_put HX7.out 0 (.int .i64 (k : Nat)) rfl) 1 (.int .u8 (c)) rfl) 2 (.slice A L.length cc) rfl)
        have HBF := Lib.hid (bset (bset (bset HW7.out w.heap.size 0 (.int .i64 (k : Nat)) (Nat.le_refl _)) w.heap.size 1 (.int .u8 (c)) (Nat.le_refl _)) w.heap.size 2 (.slice A L.length cc) (Nat.le_refl _))
        have HOF := Lib.hid (PO.setc (PO.setc (PO.setc HO7.out w.heap.size 0 (.int .i64 (k : Nat)) HX7.out (by decide)) w.heap.size 1 (.int .u8 (c)) (blk_put HX7.out 0 (.int .i64 (k : Nat)) rfl) (by decide)) w.heap.size 2 (.slice A L.length cc) (blk_put (blk_put HX7.out 0 (.int .i64 (k : Nat)) rfl) 1 (.int .u8 (c)) rfl) (by decide))
        generalize (((w7.setCell ⟨w.heap.size, 0, none⟩ (.int .i64 (k : Nat))).setCell ⟨w.heap.size, 1, none⟩ (.int .u8 (c))).setCell ⟨w.heap.size, 2, none⟩ (.slice A L.length cc)) = WF at HF HBF HOF ⊢
        obtain ⟨o0, o1, o2⟩ := frcell HF.out
        exact bodyPost_ret (v := .tuple #[.agg #[.int .i64 (k : Nat), .int .u8 (c), .slice A L.length cc], .int .i64 er]) (by simp [results, Tryz.results39, go_sem, o0, o1, o2]) rfl ⟨(⟨k, c, L⟩ : BD), A, cc, er, rfl, HBF.out, fun h => ⟨rfl, ⟨HK.out, HC.out, HOK.out⟩, HOF.out, by
          have HFIN := HEND.out h
          have h1 := HEL.out HFIN.1
          have h2 := HE4.out h1.1
          have h3 := tailB_2 c L
          show (tailB c L).length ≤ s.size
          omega
          ⟩⟩
      · go_upto_region 9 with (first | (go_at_call 27; refine (left_same HI5.out).mono ?_; rintro e w58 ⟨rfl, rfl⟩))
        have HEND := Lib.hid (fun (h : endR s4 e4 = 0) => endR_0 h)
        have HCE := Lib.hid (end_in HI5.out.drew)
        generalize endR s4 e4 = er at HEND HCE
        have HBd := Lib.hid (blk_drew HB5.out)
        have HXd := Lib.hid (blk_drew HX5.out)
        have HWd := Lib.hid (below_dr HW5.out)
        have HId := Lib.hid HI5.out.drew
        obtain ⟨b0, b1, b2⟩ := frcell HB5.out
        go_region_held3 (fun w' => w'.cell? ⟨w2.heap.size, 0, none⟩ = some (.int .i64 (k : Nat)) ∧ w'.cell? ⟨w2.heap.size, 1, none⟩ = some (.int .u8 (c)) ∧ w'.cell? ⟨w2.heap.size, 2, none⟩ = some (.slice none 0 0)) (first | exact ⟨b0, b1, b2⟩ | exact ⟨c0, c1, c2⟩ | exact ⟨d0, d1, d2⟩ | go_keep) (first
          | (go_at_call 53; (with_reducible refine (HCE.out).mono ?_); rintro e w6 ⟨rfl, hi, hc⟩; have HB6 := Lib.hid (hc.blk HBd.out HNB.out); have HX6 := Lib.hid (hc.blk HXd.out HNX.out); have HW6 := Lib.hid (HWd.out.trans (hc.to_below HWd.out.size (fun k hk => hk ▸ HG.out))); obtain ⟨c0, c1, c2⟩ := frcell HB6.out; obtain ⟨r0, r1, r2⟩ := frcell HX6.out; have f0 := blk_frozen HX6.out 0; have f1 := blk_frozen HX6.out 1; have f2 := blk_frozen HX6.out 2; obtain ⟨d0, d1, d2⟩ := frcell (blk_sfar (blk_sfar (blk_sfar HB6.out 0 (.int .i64 (k : Nat)) (fun e => HXB.out e.symm)) 1 (.int .u8 (c)) (fun e => HXB.out e.symm)) 2 (.slice none 0 0) (fun e => HXB.out e.symm)); clear hi hc))
        go_wp2
        have HF := Lib.hid (blk_put (blk_put (blk_put HX6.out 0 (.int .i64 (k : Nat)) rfl) 1 (.int .u8 (c)) rfl) 2 (.slice none 0 0) rfl)
        have HBF := Lib.hid (bset (bset (bset HW6.out w.heap.size 0 (.int .i64 (k : Nat)) (Nat.le_refl _)) w.heap.size 1 (.int .u8 (c)) (Nat.le_refl _)) w.heap.size 2 (.slice none 0 0) (Nat.le_refl _))
        generalize (((w6.setCell ⟨w.heap.size, 0, none⟩ (.int .i64 (k : Nat))).setCell ⟨w.heap.size, 1, none⟩ (.int .u8 (c))).setCell ⟨w.heap.size, 2, none⟩ (.slice none 0 0)) = WF at HF HBF ⊢
        obtain ⟨o0, o1, o2⟩ := frcell HF.out
        exact bodyPost_ret (v := .tuple #[.agg #[.int .i64 (k : Nat), .int .u8 (c), .slice none 0 0], .int .i64 er]) (by simp [results, Tryz.results39, go_sem, o0, o1, o2]) rfl ⟨(⟨k, c, []⟩ : BD), none, 0, er, rfl, HBF.out, fun h => ⟨rfl, ⟨HK.out, HC.out, lok_nil⟩, po_nil _, by
          have HFIN := HEND.out h
          have h2 := HE4.out HFIN.1
          have h3 := tailB_1 c
          show (tailB c []).length ≤ s.size
          omega
          ⟩⟩
  · go_upto_region 5 with (first
      | (go_at_call 27; refine (left_same HI3.out).mono ?_; rintro e w38 ⟨rfl, rfl⟩))
    obtain ⟨c0, c1, c2⟩ := frcell HB3.out
    go_upto_if 22 with (first
      | (go_at_call 54; (with_reducible refine (may_calls k HK.out _ _).mono ?_); rintro e w4 hp; obtain ⟨mb, rfl, hb⟩ := hp; have HI4 := Lib.hid (HI3.out.below hb); have HB4 := Lib.hid (blk_below HB3.out hb); have HX4 := Lib.hid (blk_below HX3.out hb); have HW4 := Lib.hid (HW3.out.trans (hb.mono HW3.out.size)); clear hb))
    clear c0 c1 c2
    cases mb with
    | false =>
      go_upto_region 7 with (first
        | (go_at_call 43; (with_reducible refine (fail_any HI4.out 2 (by decide)).mono ?_); rintro e w5 hp; obtain ⟨ef, rfl, hef, hi, hc⟩ := hp; have HI5 := Lib.hid hi; have HB5 := Lib.hid (hc.blk HB4.out HNB.out); have HX5 := Lib.hid (hc.blk HX4.out HNX.out); have HW5 := Lib.hid (HW4.out.trans (hc.to_below HW4.out.size (fun k hk => hk ▸ HG.out))); have HEF := Lib.hid hef; clear hef; clear hi hc))
      go_upto_region 9 with (first | (go_at_call 27; refine (left_same HI5.out).mono ?_; rintro e w58 ⟨rfl, rfl⟩))
      have HEND := Lib.hid (fun (h : endR s ef = 0) => endR_0 h)
      have HCE := Lib.hid (end_in HI5.out.drew)
      generalize endR s ef = er at HEND HCE
      have HBd := Lib.hid (blk_drew HB5.out)
      have HXd := Lib.hid (blk_drew HX5.out)
      have HWd := Lib.hid (below_dr HW5.out)
      have HId := Lib.hid HI5.out.drew
      obtain ⟨b0, b1, b2⟩ := frcell HB5.out
      go_region_held3 (fun w' => w'.cell? ⟨w2.heap.size, 0, none⟩ = some (.int .i64 (k : Nat)) ∧ w'.cell? ⟨w2.heap.size, 1, none⟩ = some (.int .u8 (0)) ∧ w'.cell? ⟨w2.heap.size, 2, none⟩ = some (.slice none 0 0)) (first | exact ⟨b0, b1, b2⟩ | exact ⟨c0, c1, c2⟩ | exact ⟨d0, d1, d2⟩ | go_keep) (first
        | (go_at_call 53; (with_reducible refine (HCE.out).mono ?_); rintro e w6 ⟨rfl, hi, hc⟩; have HB6 := Lib.hid (hc.blk HBd.out HNB.out); have HX6 := Lib.hid (hc.blk HXd.out HNX.out); have HW6 := Lib.hid (HWd.out.trans (hc.to_below HWd.out.size (fun k hk => hk ▸ HG.out))); obtain ⟨c0, c1, c2⟩ := frcell HB6.out; obtain ⟨r0, r1, r2⟩ := frcell HX6.out; have f0 := blk_frozen HX6.out 0; have f1 := blk_frozen HX6.out 1; have f2 := blk_frozen HX6.out 2; obtain ⟨d0, d1, d2⟩ := frcell (blk_sfar (blk_sfar (blk_sfar HB6.out 0 (.int .i64 (k : Nat)) (fun e => HXB.out e.symm)) 1 (.int .u8 (0)) (fun e => HXB.out e.symm)) 2 (.slice none 0 0) (fun e => HXB.out e.symm)); clear hi hc))
      go_wp2
      have HF := Lib.hid (blk_put (blk_put (blk_put HX6.out 0 (.int .i64 (k : Nat)) rfl) 1 (.int .u8 (0)) rfl) 2 (.slice none 0 0) rfl)
      have HBF := Lib.hid (bset (bset (bset HW6.out w.heap.size 0 (.int .i64 (k : Nat)) (Nat.le_refl _)) w.heap.size 1 (.int .u8 (0)) (Nat.le_refl _)) w.heap.size 2 (.slice none 0 0) (Nat.le_refl _))
      generalize (((w6.setCell ⟨w.heap.size, 0, none⟩ (.int .i64 (k : Nat))).setCell ⟨w.heap.size, 1, none⟩ (.int .u8 (0))).setCell ⟨w.heap.size, 2, none⟩ (.slice none 0 0)) = WF at HF HBF ⊢
      obtain ⟨o0, o1, o2⟩ := frcell HF.out
      exact bodyPost_ret (v := .tuple #[.agg #[.int .i64 (k : Nat), .int .u8 (0), .slice none 0 0], .int .i64 er]) (by simp [results, Tryz.results39, go_sem, o0, o1, o2]) rfl ⟨(⟨k, 0, []⟩ : BD), none, 0, er, rfl, HBF.out, fun h => absurd h (fun h => HEF.out (HEND.out h).1)⟩
    | true =>
      go_upto_region 7 with (fail)
      go_upto_region 9 with (first | (go_at_call 27; refine (left_same HI4.out).mono ?_; rintro e w48 ⟨rfl, rfl⟩))
      have HEND := Lib.hid (fun (h : endR s 0 = 0) => endR_0 h)
      have HCE := Lib.hid (end_in HI4.out.drew)
      generalize endR s 0 = er at HEND HCE
      have HBd := Lib.hid (blk_drew HB4.out)
      have HXd := Lib.hid (blk_drew HX4.out)
      have HWd := Lib.hid (below_dr HW4.out)
      have HId := Lib.hid HI4.out.drew
      obtain ⟨b0, b1, b2⟩ := frcell HB4.out
      go_region_held3 (fun w' => w'.cell? ⟨w2.heap.size, 0, none⟩ = some (.int .i64 (k : Nat)) ∧ w'.cell? ⟨w2.heap.size, 1, none⟩ = some (.int .u8 (0)) ∧ w'.cell? ⟨w2.heap.size, 2, none⟩ = some (.slice none 0 0)) (first | exact ⟨b0, b1, b2⟩ | exact ⟨c0, c1, c2⟩ | exact ⟨d0, d1, d2⟩ | go_keep) (first
        | (go_at_call 53; (with_reducible refine (HCE.out).mono ?_); rintro e w5 ⟨rfl, hi, hc⟩; have HB5 := Lib.hid (hc.blk HBd.out HNB.out); have HX5 := Lib.hid (hc.blk HXd.out HNX.out); have HW5 := Lib.hid (HWd.out.trans (hc.to_below HWd.out.size (fun k hk => hk ▸ HG.out))); obtain ⟨c0, c1, c2⟩ := frcell HB5.out; obtain ⟨r0, r1, r2⟩ := frcell HX5.out; have f0 := blk_frozen HX5.out 0; have f1 := blk_frozen HX5.out 1; have f2 := blk_frozen HX5.out 2; obtain ⟨d0, d1, d2⟩ := frcell (blk_sfar (blk_sfar (blk_sfar HB5.out 0 (.int .i64 (k : Nat)) (fun e => HXB.out e.symm)) 1 (.int .u8 (0)) (fun e => HXB.out e.symm)) 2 (.slice none 0 0) (fun e => HXB.out e.symm)); clear hi hc))
      go_wp2
      have HF := Lib.hid (blk_put (blk_put (blk_put HX5.out 0 (.int .i64 (k : Nat)) rfl) 1 (.int .u8 (0)) rfl) 2 (.slice none 0 0) rfl)
      have HBF := Lib.hid (bset (bset (bset HW5.out w.heap.size 0 (.int .i64 (k : Nat)) (Nat.le_refl _)) w.heap.size 1 (.int .u8 (0)) (Nat.le_refl _)) w.heap.size 2 (.slice none 0 0) (Nat.le_refl _))
      generalize (((w5.setCell ⟨w.heap.size, 0, none⟩ (.int .i64 (k : Nat))).setCell ⟨w.heap.size, 1, none⟩ (.int .u8 (0))).setCell ⟨w.heap.size, 2, none⟩ (.slice none 0 0)) = WF at HF HBF ⊢
      obtain ⟨o0, o1, o2⟩ := frcell HF.out
      exact bodyPost_ret (v := .tuple #[.agg #[.int .i64 (k : Nat), .int .u8 (0), .slice none 0 0], .int .i64 er]) (by simp [results, Tryz.results39, go_sem, o0, o1, o2]) rfl ⟨(⟨k, 0, []⟩ : BD), none, 0, er, rfl, HBF.out, fun h => ⟨rfl, ⟨HK.out, by show 0 < 256; decide, lok_nil⟩, po_nil _, by
        have HFIN := HEND.out h
        show 0 ≤ s.size
        omega
        ⟩⟩
end Go.Proofs.YtljbchghbpmghaaGreatDoor
