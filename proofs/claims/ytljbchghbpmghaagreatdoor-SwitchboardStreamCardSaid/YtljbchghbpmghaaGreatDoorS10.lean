/- connect.ParseAck: any body. -/
import Derived.Test.YtljbchghbpmghaaGreatDoorS9
namespace Go.Proofs.YtljbchghbpmghaaGreatDoor
open Go.RowKit Go.Lib Go.Proofs.YtljbchghbpmghaaGreatDoorW.PrintWords Go.Proofs.YtljbchghbpmghaaGreatDoor.PSwitchboardGreat
set_option linter.unusedVariables false
set_option linter.unusedSimpArgs false
/-- A connack. -/
structure CD where
  p : Bool
  c : Nat
  L : List PR
structure CD.Ok (d : CD) : Prop where
  c : d.c < 256
  L : LOk d.L
def CD.v (d : CD) (A : Option Addr) (cc : Nat) : Value := .agg #[.bool d.p, .int .u8 (d.c : Nat), .slice A d.L.length cc]
def CD.body (d : CD) : List UInt8 := UInt8.ofNat (if d.p then 1 else 0) :: UInt8.ofNat d.c :: putB d.L
def ConnackP (w : World) (s : ByteArray) (e : Ending) (w' : World) : Prop := ∃ (d : CD) (A : Option Addr) (c : Nat) (er : Int), e = .returned (.tuple #[d.v A c, .int .i64 er]) ∧ Below w.heap.size w w' ∧ (er = 0 → d.Ok ∧ PO w' 0 (fun _ => True) (.slice A d.L.length c) d.L ∧ d.body.length ≤ s.size)
set_option maxHeartbeats 4000000 in
set_option maxRecDepth 1000000 in
theorem connack_calls {w : World} (s : ByteArray) (hs : s.size ≤ 100000) : Calls Tryz.prog 36 #[.string s] w (ConnackP w s) := by
  have HSS := Lib.hid hs
  have HX0 := Lib.hid (heap_alloc_new w (.cells #[.bool false, .int .u8 0, .slice none 0 0] 91))
  have HW0 := Lib.hid (show Below w.heap.size w (w.alloc (.cells #[.bool false, .int .u8 0, .slice none 0 0] 91)) from (Below.refl _ _).alloc (Nat.le_refl _) _)
  have HMAY := Lib.hid (fun c W => may_calls 2 (by decide) c W)
  rw [show ((2 : Nat) : Int) = 2 from rfl] at HMAY
  clear hs
  go_enter Tryz.func36, Tryz.ntmps36
  go_upto_region 4 with (first
    | (go_at_call 23; refine (over_in s).mono ?_; rintro e w1 ⟨g, rfl, hi, hg, hb⟩; have HG := Lib.hid (show w.heap.size ≤ g by have := HW0.out.size; omega); have HNX := Lib.hid (show w.heap.size ≠ g by have := blk_lt HX0.out; omega); have HX1 := Lib.hid (hb.block _ (blk_lt HX0.out) |>.trans HX0.out); have HW1 := Lib.hid (HW0.out.trans (hb.mono HW0.out.size)); have HI1 := Lib.hid hi; clear hi hg hb HX0)
    | (go_at_call 42; refine (nt_byte HI1.out).mono ?_; rintro e w2 hp; obtain ⟨f, s2, e2, rfl, hf, hi, hc, hE⟩ := hp; have HE2 := Lib.hid hE; have HX2 := Lib.hid (hc.blk HX1.out HNX.out); have HW2 := Lib.hid (HW1.out.trans (hc.to_below HW1.out.size (fun k hk => hk ▸ HG.out))); have HI2 := Lib.hid hi; clear hi hc hE HI1 HX1)
    | (go_at_call 42; refine (nt_byte HI2.out).mono ?_; rintro e w3 hp; obtain ⟨c, s3, e3, rfl, hcv, hi, hc, hE⟩ := hp; have HCV := Lib.hid hcv; have HE3 := Lib.hid (HE2.out.trans hE); have HX3 := Lib.hid (hc.blk HX2.out HNX.out); have HW3 := Lib.hid (HW2.out.trans (hc.to_below HW2.out.size (fun k hk => hk ▸ HG.out))); have HI3 := Lib.hid hi; clear hi hc hE HI2 HX2))
  have HNB := Lib.hid (show w3.heap.size ≠ g by have := HI3.out.lt; omega)
  have HXB := Lib.hid (show w.heap.size ≠ w3.heap.size by have := blk_lt HX3.out; omega)
  have HLB := Lib.hid (show w.heap.size ≤ w3.heap.size from HW3.out.size)
  generalize hpb : ((f : Int) == 1) = pb
  have HPB := Lib.hid hpb
  clear hpb
  have hba := (Below.refl w3.heap.size w3).alloc (Nat.le_refl _) (.cells #[.bool pb, .int .u8 (c : Nat), .slice none 0 0] 91)
  have HI4 := Lib.hid (HI3.out.below hba)
  have HX4 := Lib.hid (blk_below HX3.out hba)
  have HW4 := Lib.hid (HW3.out.trans (hba.mono HW3.out.size))
  have HB4 := Lib.hid (heap_alloc_new w3 (.cells #[.bool pb, .int .u8 (c : Nat), .slice none 0 0] 91))
  clear hba HI3 HX3 HW3 HW2 HW1 HW0
  generalize (w3.alloc (.cells #[.bool pb, .int .u8 (c : Nat), .slice none 0 0] 91)) = W4 at HI4 HX4 HW4 HB4 ⊢
  go_cut [29] (fun v29 wx => ∃ b : Bool, v29 = .bool b ∧ Hid (IN wx g s3 e3) ∧ Hid (wx.heap[w3.heap.size]? = some (.cells #[.bool pb, .int .u8 (c : Nat), .slice none 0 0] 91 (0, 0))) ∧ Hid (wx.heap[w.heap.size]? = some (.cells #[.bool false, .int .u8 0, .slice none 0 0] 91 (0, 0))) ∧ Hid (Below w.heap.size w wx))
  case first =>
    obtain ⟨c0, c1, c2⟩ := frcell HB4.out
    go_wp2_with (first
      | (go_at_call 25; refine (err_same HI4.out).mono ?_; rintro e w49 ⟨rfl, rfl⟩)
      | (go_at_call 54; (with_reducible refine (HMAY.out _ _).mono ?_); rintro e w5 hp; obtain ⟨mb, rfl, hb⟩ := hp; have HI5 := Lib.hid (HI4.out.below hb); have HB5 := Lib.hid (blk_below HB4.out hb); have HX5 := Lib.hid (blk_below HX4.out hb); have HW5 := Lib.hid (HW4.out.trans (hb.mono HW4.out.size)); clear hb))
    all_goals go_meet
    all_goals first | exact ⟨_, rfl, HI5, HB5, HX5, HW5⟩ | exact ⟨_, rfl, HI4, HB4, HX4, HW4⟩
  case rest =>
    clear HI4 HX4 HW4 HB4
    obtain ⟨b, rfl, HI5, HB5, HX5, HW5⟩ := hcut
    go_upto_if 29 with (fail)
    go_cut [] (fun wx => ∃ e5 : Int, Hid (e5 = 0 → e3 = 0) ∧ Hid (IN wx g s3 e5) ∧ Hid (wx.heap[w3.heap.size]? = some (.cells #[.bool pb, .int .u8 (c : Nat), .slice none 0 0] 91 (0, 0))) ∧ Hid (wx.heap[w.heap.size]? = some (.cells #[.bool false, .int .u8 0, .slice none 0 0] 91 (0, 0))) ∧ Hid (Below w.heap.size w wx))
    case first =>
      cases b with
      | false =>
        go_wp2
        go_meet
        exact ⟨e3, Lib.hid (fun h => h), HI5, HB5, HX5, HW5⟩
      | true =>
        go_wp2_with (first | (go_at_call 43; (with_reducible refine (fail_any HI5.out 2 (by decide)).mono ?_); rintro e w6 hp; obtain ⟨ef, rfl, hef, hi, hc⟩ := hp; have HEF := Lib.hid hef; have HI6 := Lib.hid hi; have HB6 := Lib.hid (hc.blk HB5.out HNB.out); have HX6 := Lib.hid (hc.blk HX5.out HNX.out); have HW6 := Lib.hid (HW5.out.trans (hc.to_below HW5.out.size (fun k hk => hk ▸ HG.out))); clear hef hi hc))
        go_meet
        exact ⟨ef, Lib.hid (fun h => absurd h HEF.out), HI6, HB6, HX6, HW6⟩
    case rest =>
      clear HI5 HX5 HW5 HB5
      obtain ⟨e5, HQ5, HI6, HB6, HX6, HW6⟩ := hcut
      have HE5 := Lib.hid (HE3.out.err HQ5.out)
      have HTK := Lib.hid (take0_calls HI6.out (show e5 = 0 → s3.size ≤ 100000 from fun h => by have h1 := (HE5.out h).2; have h2 := HSS.out; omega) 2 false)
      go_upto_region 7 with (first
        | (go_at_call 51; (with_reducible refine HTK.out.mono ?_); rintro e w7 hp; obtain ⟨v, L, s7, e7, rfl, hpo, hok, hi, hc, hE⟩ := hp; have fz7 := blk_frozen (hc.blk HB6.out HNB.out) 2; have cz7 := frcell (hc.blk HB6.out HNB.out); have HI7 := Lib.hid (hi.setc w3.heap.size 2 v (fun e => HNB.out e.symm)); have HB7 := Lib.hid (blk_put (hc.blk HB6.out HNB.out) 2 v rfl); have HX7 := Lib.hid (blk_sfar (hc.blk HX6.out HNX.out) 2 v HXB.out); have HW7 := Lib.hid (bset (HW6.out.trans (hc.to_below HW6.out.size (fun k hk => hk ▸ HG.out))) w3.heap.size 2 v HLB.out); have HE7 := Lib.hid (HE5.out.trans hE); have HOK := Lib.hid hok; have HO7 := Lib.hid (hpo.setc w3.heap.size 2 v (hc.blk HB6.out HNB.out) (by decide)); obtain ⟨A, cc, rfl, hcc, _⟩ := HO7.out.form; obtain ⟨c0, c1, c2⟩ := cz7; clear hpo hok hE hi hc))
      clear HI6 HX6 HW6 HB6 c0 c1 c2 fz7
      generalize (w7.setCell ⟨w3.heap.size, 2, none⟩ (.slice A L.length cc)) = W7 at HI7 HX7 HW7 HB7 HO7 ⊢
      go_cut [46] (fun v46 wx => ∃ b : Bool, v46 = .bool b ∧ wx = W7)
      case first =>
        obtain ⟨c0, c1, c2⟩ := frcell HB7.out
        go_wp2_with (first
          | (go_at_call 25; refine (err_same HI7.out).mono ?_; rintro e w79 ⟨rfl, rfl⟩))
        all_goals go_meet
        all_goals exact ⟨_, rfl, rfl⟩
      case rest =>
        obtain ⟨b, rfl, rfl⟩ := hcut
        go_upto_if 46 with (fail)
        go_cut [] (fun wx => ∃ e8 : Int, Hid (e8 = 0 → e7 = 0) ∧ Hid (IN wx g s7 e8) ∧ Hid (wx.heap[w3.heap.size]? = some (.cells #[.bool pb, .int .u8 (c : Nat), .slice A L.length cc] 91 (0, 0))) ∧ Hid (wx.heap[w.heap.size]? = some (.cells #[.bool false, .int .u8 0, .slice none 0 0] 91 (0, 0))) ∧ Hid (Below w.heap.size w wx) ∧ Hid (PO wx 0 (fun _ => True) (.slice A L.length cc) L))
        case first =>
          cases b with
          | false =>
            go_wp2
            go_meet
            exact ⟨e7, Lib.hid (fun h => h), HI7, HB7, HX7, HW7, HO7⟩
          | true =>
            go_wp2_with (first | (go_at_call 43; (with_reducible refine (fail_any HI7.out 3 (by decide)).mono ?_); rintro e w8 hp; obtain ⟨ef, rfl, hef, hi, hc⟩ := hp; have HEF := Lib.hid hef; have HI8 := Lib.hid hi; have HB8 := Lib.hid (hc.blk HB7.out HNB.out); have HX8 := Lib.hid (hc.blk HX7.out HNX.out); have HW8 := Lib.hid (HW7.out.trans (hc.to_below HW7.out.size (fun k hk => hk ▸ HG.out))); have HO8 := Lib.hid (HO7.out.rd HI7.out hc); clear hef hi hc))
            go_meet
            exact ⟨ef, Lib.hid (fun h => absurd h HEF.out), HI8, HB8, HX8, HW8, HO8⟩
        case rest =>
          clear HI7 HX7 HW7 HB7 HO7
          obtain ⟨e8, HQ8, HI8, HB8, HX8, HW8, HO8⟩ := hcut
          have HE8 := Lib.hid (HE7.out.err HQ8.out)
          have HEND := Lib.hid (fun (h : endR s7 e8 = 0) => endR_0 h)
          have HCE := Lib.hid (end_in HI8.out)
          generalize endR s7 e8 = er at HEND HCE
          by_cases her : er = 0
          · obtain rfl := her
            have HFIN := Lib.hid (HEND.out rfl)
            have HLEN := Lib.hid (show (CD.body ⟨pb, c, L⟩).length ≤ s.size by
              have h1 := (HE8.out HFIN.out.1).2
              show (putB L).length + 1 + 1 ≤ s.size
              omega)
            go_wp2_with (first | (go_at_call 53; (with_reducible refine (HCE.out).mono ?_); rintro e w9 ⟨rfl, hi, hc⟩; have HB9 := Lib.hid (hc.blk HB8.out HNB.out); have HX9 := Lib.hid (hc.blk HX8.out HNX.out); have HW9 := Lib.hid (HW8.out.trans (hc.to_below HW8.out.size (fun k hk => hk ▸ HG.out))); have HO9 := Lib.hid (HO8.out.rd HI8.out hc); obtain ⟨c0, c1, c2⟩ := frcell HB9.out; obtain ⟨r0, r1, r2⟩ := frcell HX9.out; have f0 := blk_frozen HX9.out 0; have f1 := blk_frozen HX9.out 1; have f2 := blk_frozen HX9.out 2; clear hi hc))
            have HF := Lib.hid (blk_put (blk_put (blk_put HX9.out 0 (.bool pb) rfl) 1 (.int .u8 (c : Nat)) rfl) 2 (.slice A L.length cc) rfl)
            have HBF := Lib.hid (bset (bset (bset HW9.out w.heap.size 0 (.bool pb) (Nat.le_refl _)) w.heap.size 1 (.int .u8 (c : Nat)) (Nat.le_refl _)) w.heap.size 2 (.slice A L.length cc) (Nat.le_refl _))
            have HOF := Lib.hid (PO.setc (PO.setc (PO.setc HO9.out w.heap.size 0 (.bool pb) HX9.out (by decide)) w.heap.size 1 (.int .u8 (c : Nat)) (blk_put HX9.out 0 (.bool pb) rfl) (by decide)) w.heap.size 2 (.slice A L.length cc) (blk_put (blk_put HX9.out 0 (.bool pb) rfl) 1 (.int .u8 (c : Nat)) rfl) (by decide))
            generalize (((w9.setCell ⟨w.heap.size, 0, none⟩ (.bool pb)).setCell ⟨w.heap.size, 1, none⟩ (.int .u8 (c : Nat))).setCell ⟨w.heap.size, 2, none⟩ (.slice A L.length cc)) = WF at HF HBF HOF ⊢
            obtain ⟨o0, o1, o2⟩ := frcell HF.out
            exact bodyPost_ret (v := .tuple #[.agg #[.bool pb, .int .u8 (c : Nat), .slice A L.length cc], .int .i64 0]) (by simp [results, Tryz.results36, go_sem, o0, o1, o2]) rfl ⟨(⟨pb, c, L⟩ : CD), A, cc, 0, rfl, HBF.out, fun _ => ⟨⟨HCV.out, HOK.out⟩, HOF.out, HLEN.out⟩⟩
          · have hne : (er != 0) = true := by simpa [bne_iff_ne] using her
            have HER := Lib.hid her
            clear her
            go_wp2_with (first | (go_at_call 53; (with_reducible refine (HCE.out).mono ?_); rintro e w9 ⟨rfl, hi, hc⟩; have HB9 := Lib.hid (hc.blk HB8.out HNB.out); have HX9 := Lib.hid (hc.blk HX8.out HNX.out); have HW9 := Lib.hid (HW8.out.trans (hc.to_below HW8.out.size (fun k hk => hk ▸ HG.out))); have HO9 := Lib.hid (HO8.out.rd HI8.out hc); obtain ⟨c0, c1, c2⟩ := frcell HB9.out; obtain ⟨r0, r1, r2⟩ := frcell HX9.out; have f0 := blk_frozen HX9.out 0; have f1 := blk_frozen HX9.out 1; have f2 := blk_frozen HX9.out 2; clear hi hc))
            have HF := Lib.hid (blk_put (blk_put (blk_put HX9.out 0 (.bool false) rfl) 1 (.int .u8 0) rfl) 2 (.slice none 0 0) rfl)
            have HBF := Lib.hid (bset (bset (bset HW9.out w.heap.size 0 (.bool false) (Nat.le_refl _)) w.heap.size 1 (.int .u8 0) (Nat.le_refl _)) w.heap.size 2 (.slice none 0 0) (Nat.le_refl _))
            generalize (((w9.setCell ⟨w.heap.size, 0, none⟩ (.bool false)).setCell ⟨w.heap.size, 1, none⟩ (.int .u8 0)).setCell ⟨w.heap.size, 2, none⟩ (.slice none 0 0)) = WF at HF HBF ⊢
            obtain ⟨o0, o1, o2⟩ := frcell HF.out
            exact bodyPost_ret (v := .tuple #[.agg #[.bool false, .int .u8 0, .slice none 0 0], .int .i64 er]) (by simp [results, Tryz.results36, go_sem, o0, o1, o2]) rfl ⟨(⟨false, 0, []⟩ : CD), none, 0, er, rfl, HBF.out, fun h => absurd h HER.out⟩
end Go.Proofs.YtljbchghbpmghaaGreatDoor
