/- subscribe.Parse. -/
import Derived.Test.YtljbchghbpmghaaGreatDoorS28b
namespace Go.Proofs.YtljbchghbpmghaaGreatDoor
open Go.RowKit Go.Lib Go.Proofs.YtljbchghbpmghaaGreatDoorW.PrintWords Go.Proofs.YtljbchghbpmghaaGreatDoor.PSwitchboardGreat
set_option linter.unusedVariables false
set_option linter.unusedSimpArgs false
theorem info155 : (Tryz.prog.info? 155).map (fun i => (i.zero, i.size, i.bytes)) = some (some (.agg #[.string ⟨#[]⟩, .int .u8 0, .bool false, .bool false, .int .u8 0]), 5, 24) := by kernel_rfl
theorem k155_mkM (w : World) (base : Nat) (ok : Nat → Prop) (x : SB) : k155.M w base ok x [.string x.f, .int .u8 (x.q : Nat), .bool x.nl, .bool x.ap, .int .u8 (x.h : Nat)] := ⟨[.string x.f], [.int .u8 (x.q : Nat), .bool x.nl, .bool x.ap, .int .u8 (x.h : Nat)], rfl, rfl, ⟨[.int .u8 (x.q : Nat)], [.bool x.nl, .bool x.ap, .int .u8 (x.h : Nat)], rfl, rfl, ⟨[.bool x.nl], [.bool x.ap, .int .u8 (x.h : Nat)], rfl, rfl, ⟨[.bool x.ap], [.int .u8 (x.h : Nat)], rfl, rfl, rfl⟩⟩⟩⟩
theorem so_sl {w : World} {B : Nat} {ok : Nat → Prop} {A : Option Addr} {c : Nat} {l : List SB} (h : k155.R 155 w B ok (.slice A l.length c) l) : SL w A l := by
  obtain ⟨A', c', hv, _, hC⟩ := ro_form h
  injection hv with h1 h2 h3
  subst h1
  exact hC
theorem subB_len (x : SB) : (subB x).length = 3 + x.f.size := by
  unfold subB
  rw [List.length_append, dat_len]
  show 2 + x.f.size + 1 = _
  omega
theorem subsB_app (fs : List SB) (x : SB) : (subsB (fs ++ [x])).length = (subsB fs).length + (3 + x.f.size) := by
  unfold subsB
  rw [List.flatMap_append, List.length_append]
  show _ + (subB x ++ []).length = _
  rw [List.append_nil, subB_len]
theorem ro_setc {α : Type} {d : Kd α} {q0 : Nat} {w : World} {B : Nat} {ok : Nat → Prop} {v : Value} {l : List α} (hE : d.E = []) (h : d.R q0 w B ok v l) (b i : Nat) (u : Value) {cs : Array Value} {t : TypeId} (hb : w.heap[b]? = some (.cells cs t (0, 0))) (ht : t ≠ q0) : d.R q0 (w.setCell ⟨b, i, none⟩ u) B ok v l := ro_to hE h (chg_setc b i u) (fun k hk => .inr ⟨cs, t, hk ▸ hb, ht⟩)
theorem ro_sl {α : Type} {d : Kd α} {q0 : Nat} {w : World} {B : Nat} {ok : Nat → Prop} {v : Value} {l : List α} (h : d.R q0 w B ok v l) : ∃ A n c, v = .slice A n c := by
  obtain ⟨A, c, h1, _⟩ := ro_form h
  exact ⟨A, _, c, h1⟩
/-- An owned list of subscriptions. -/
def SO (w : World) (B : Nat) (v : Value) (l : List SB) : Prop := k155.R 155 w B (fun _ => True) v l
theorem sub_bits (o : Nat) (h : o < 256) : ∃ q hd : Nat, q < 4 ∧ hd < 4 ∧ Go.bits .and .u8 (o : Int) 3 = (q : Nat) ∧ Go.bits .and .u8 ((o : Int) / 16) 3 = (hd : Nat) := by
  have h1 : ∀ n : Fin 256, Go.bits .and .u8 ((n.1 : Nat) : Int) 3 = ((n.1 % 4 : Nat) : Int) ∧ Go.bits .and .u8 (((n.1 : Nat) : Int) / 16) 3 = ((n.1 / 16 % 4 : Nat) : Int) := by decide +kernel
  exact ⟨o % 4, o / 16 % 4, Nat.mod_lt _ (by decide), Nat.mod_lt _ (by decide), (h1 ⟨o, h⟩).1, (h1 ⟨o, h⟩).2⟩
def SubP (w : World) (s : ByteArray) (e : Ending) (w' : World) : Prop := ∃ (id : Nat) (L : List PR) (fs : List SB) (A A2 : Option Addr) (c c2 : Nat) (er : Int), e = .returned (.tuple #[.agg #[.int .u32 (id : Nat), .slice A L.length c, .slice A2 fs.length c2], .int .i64 er]) ∧ Below w.heap.size w w' ∧ (er = 0 → id < 65536 ∧ LOk L ∧ PO w' 0 (fun _ => True) (.slice A L.length c) L ∧ SO w' w.heap.size (.slice A2 fs.length c2) fs ∧ (∀ x ∈ fs, x.Ok) ∧ fs.length ≤ s.size ∧ 2 + (putB L).length + (subsB fs).length ≤ s.size)
set_option maxHeartbeats 4000000 in
set_option maxRecDepth 1000000 in
theorem subparse_calls {w : World} (s : ByteArray) (hs : s.size ≤ 100000) : Calls Tryz.prog 56 #[.string s] w (SubP w s) := by
  have HSS := Lib.hid hs
  have HBG := Lib.hid (fun W => begin_calls (w := W) s 8 hs)
  have HX0 := Lib.hid (heap_alloc_new w (.cells #[.int .u32 0, .slice none 0 0, .slice none 0 0] 124))
  have HW0 := Lib.hid (show Below w.heap.size w (w.alloc (.cells #[.int .u32 0, .slice none 0 0, .slice none 0 0] 124)) from (Below.refl _ _).alloc (Nat.le_refl _) _)
  clear hs
  go_enter Tryz.func56, Tryz.ntmps56
  go_upto_region 1 with (fail)
  generalize (w.alloc (.cells #[.int .u32 0, .slice none 0 0, .slice none 0 0] 124)) = W0 at HX0 HW0 ⊢
  go_upto_region 3 with (first
      | (go_at_call 70; (with_reducible refine (HBG.out _).mono ?_); rintro e w1 ⟨g, id, v, L, s1, e1, rfl, hid, hg, hi, hb, hpo, hok, hE⟩; have HG := Lib.hid (show w.heap.size ≤ g by have := HW0.out.size; omega); have HNX := Lib.hid (show w.heap.size ≠ g by have := blk_lt HX0.out; omega); have HX1 := Lib.hid (blk_below HX0.out hb); have HW1 := Lib.hid (HW0.out.trans (hb.mono HW0.out.size)); have HI1 := Lib.hid hi; have HE1 := Lib.hid hE; have HOK := Lib.hid hok; have HID := Lib.hid hid; obtain ⟨A, cc, rfl, hcc, _⟩ := hpo.form; have HO1 := Lib.hid hpo; clear hid hg hi hb hpo hok hE hcc))
  have HNB := Lib.hid (show w1.heap.size ≠ g by have := HI1.out.lt; omega)
  have HXB := Lib.hid (show w.heap.size ≠ w1.heap.size by have := blk_lt HX1.out; omega)
  have HLB := Lib.hid (show w.heap.size ≤ w1.heap.size from HW1.out.size)
  have hba := (Below.refl w1.heap.size w1).alloc (Nat.le_refl _) (.cells #[.int .u32 (id : Nat), .slice A L.length cc, .slice none 0 0] 124)
  have HI2 := Lib.hid (HI1.out.below hba)
  have HX2 := Lib.hid (blk_below HX1.out hba)
  have HW2 := Lib.hid (HW1.out.trans (hba.mono HW1.out.size))
  have HO2 := Lib.hid (HO1.out.below hba)
  have HB2 := Lib.hid (heap_alloc_new w1 (.cells #[.int .u32 (id : Nat), .slice A L.length cc, .slice none 0 0] 124))
  clear hba HI1 HX1 HW1 HO1 HX0 HW0
  generalize (w1.alloc (.cells #[.int .u32 (id : Nat), .slice A L.length cc, .slice none 0 0] 124)) = W2 at HI2 HX2 HW2 HO2 HB2 ⊢
  go_loopg [] s.size (fun gh wx => ∃ (fs : List SB) (v : Value) (t : ByteArray) (et : Int), Hid (SO wx w.heap.size v fs) ∧ Hid (∀ x ∈ fs, x.Ok) ∧ Hid (fs.length + gh ≤ s.size) ∧ Hid (et = 0 → e1 = 0 ∧ t.size ≤ gh ∧ (subsB fs).length + t.size ≤ s1.size) ∧ Hid (IN wx g t et) ∧ Hid (wx.heap[w.heap.size]? = some (.cells #[.int .u32 0, .slice none 0 0, .slice none 0 0] 124 (0, 0))) ∧ Hid (wx.heap[w1.heap.size]? = some (.cells #[.int .u32 (id : Nat), .slice A L.length cc, v] 124 (0, 0))) ∧ Hid (PO wx 0 (fun _ => True) (.slice A L.length cc) L) ∧ Hid (Below w.heap.size w wx))
  case atStart =>
    exact ⟨[], .slice none 0 0, s1, e1, Lib.hid (Kd.R_nil _ _ _ _ _), Lib.hid (fun x hx => by cases hx), Lib.hid (by show 0 + s.size ≤ s.size; omega), Lib.hid (fun h => ⟨h, by have := (HE1.out h).2; omega, by show 0 + _ ≤ _; omega⟩), HI2, HX2, HB2, HO2, HW2⟩
  case round =>
    clear HI2 HX2 HW2 HO2 HB2
    obtain ⟨fs, v, t, et, HS, HFO, HLN, HA, HI, HX, HB, HO, HW⟩ := hrel
    obtain ⟨A2, c2, rfl, hcc2, _⟩ := ro_form HS.out
    by_cases hgo : 0 < t.size ∧ et = 0
    · obtain ⟨ht, rfl⟩ := hgo
      cases gk with
      | zero => exact absurd (HA.out rfl).2.1 (by omega)
      | succ g1 =>
        have HS0 := Lib.hid (ro_lim HS.out)
        go_upto_region 6 with (first
          | (go_at_call 27; refine (left_same HI.out).mono ?_; rintro e w4 ⟨rfl, rfl⟩)
          | (go_at_call 25; refine (err_same HI.out).mono ?_; rintro e w4 ⟨rfl, rfl⟩)
          | (go_at_call 49; (with_reducible refine (wt_in HI.out).mono ?_); rintro e w5 hp; obtain ⟨f, t5, e5, rfl, hf, hi, hc, hE⟩ := hp; have HF := Lib.hid hf; have HI5 := Lib.hid hi; have HE5 := Lib.hid hE; clear hf hi hE; have HS5 := Lib.hid (ro_to k155_E HS0.out hc (fun k hk => .inr ⟨_, _, hk ▸ HI.out, by decide⟩)); have HX5 := Lib.hid (hc.blk HX.out HNX.out); have HB5 := Lib.hid (hc.blk HB.out HNB.out); have HO5 := Lib.hid (HO.out.rd HI.out hc); have HW5 := Lib.hid (HW.out.trans (hc.to_below HW.out.size (fun k hk => hk ▸ HG.out))); have hba := (Below.refl w5.heap.size w5).alloc (Nat.le_refl _) (.cells #[.string f, .int .u8 0, .bool false, .bool false, .int .u8 0] 155); have HI6 := Lib.hid (HI5.out.below hba); have HS6 := Lib.hid (Kd.R_below HS5.out hba); have HX6 := Lib.hid (blk_below HX5.out hba); have HB6 := Lib.hid (blk_below HB5.out hba); have HO6 := Lib.hid (HO5.out.below hba); have HW6 := Lib.hid (HW5.out.trans (hba.mono HW5.out.size)); have HP6 := Lib.hid (heap_alloc_new w5 (.cells #[.string f, .int .u8 0, .bool false, .bool false, .int .u8 0] 155)); have HNW := Lib.hid hc.size; have HLP := Lib.hid (show w.heap.size ≤ w5.heap.size from HW5.out.size); have HNP := Lib.hid (show w5.heap.size ≠ g ∧ w5.heap.size ≠ w.heap.size ∧ w5.heap.size ≠ w1.heap.size by have h1 := HI5.out.lt; have h2 := blk_lt HX5.out; have h3 := blk_lt HB5.out; omega); clear hba hc)
          | (go_at_call 42; (with_reducible refine (nt_byte HI6.out).mono ?_); rintro e w7 hp; obtain ⟨o, t7, e7, rfl, ho, hi, hc, hE⟩ := hp; have HOB := Lib.hid ho; have HI7 := Lib.hid hi; have HE7 := Lib.hid (HE5.out.trans hE); have HX7 := Lib.hid (hc.blk HX6.out HNX.out); have HB7 := Lib.hid (hc.blk HB6.out HNB.out); have HP7 := Lib.hid (hc.blk HP6.out HNP.out.1); have HO7 := Lib.hid (HO6.out.rd HI6.out hc); have HS7 := Lib.hid (ro_to k155_E (ro_lim HS6.out) hc (fun k hk => .inr ⟨_, _, hk ▸ HI6.out, by decide⟩)); have HW7 := Lib.hid (HW6.out.trans (hc.to_below HW6.out.size (fun k hk => hk ▸ HG.out))); clear hi hc hE ho))
        obtain ⟨p0, p1, p2, p3, p4⟩ := rcell HP7.out
        have z1 := blk_frozen HP7.out 1
        have z2 := blk_frozen HP7.out 2
        have z3 := blk_frozen HP7.out 3
        have z4 := blk_frozen HP7.out 4
        clear HS HI HX HB HO HW HS0 HI5 HS5 HX5 HB5 HO5 HW5 HI6 HS6 HX6 HB6 HO6 HW6 HP6
        go_upto_block 2 with (fail)
        obtain ⟨q, hd, hq, hh, hqe, hhe⟩ := sub_bits o HOB.out
        rw [hqe, hhe]
        have HQ := Lib.hid hq
        have HH := Lib.hid hh
        clear hq hh hqe hhe p0 p1 p2 p3 p4 z1 z2 z3 z4
        generalize decide (0 < Go.bits .and .u8 (o : Int) 4) = nl
        generalize decide (0 < Go.bits .and .u8 (o : Int) 8) = ap
        have HP8 := Lib.hid (blk_put (blk_put (blk_put (blk_put HP7.out 1 (.int .u8 (q : Nat)) rfl) 2 (.bool nl) rfl) 3 (.bool ap) rfl) 4 (.int .u8 (hd : Nat)) rfl)
        have HX8 := Lib.hid (blk_sfar (blk_sfar (blk_sfar (blk_sfar HX7.out 1 (.int .u8 (q : Nat)) HNP.out.2.1.symm) 2 (.bool nl) HNP.out.2.1.symm) 3 (.bool ap) HNP.out.2.1.symm) 4 (.int .u8 (hd : Nat)) HNP.out.2.1.symm)
        have HB8 := Lib.hid (blk_sfar (blk_sfar (blk_sfar (blk_sfar HB7.out 1 (.int .u8 (q : Nat)) HNP.out.2.2.symm) 2 (.bool nl) HNP.out.2.2.symm) 3 (.bool ap) HNP.out.2.2.symm) 4 (.int .u8 (hd : Nat)) HNP.out.2.2.symm)
        have HI8 := Lib.hid (IN.setc (IN.setc (IN.setc (IN.setc HI7.out w5.heap.size 1 (.int .u8 (q : Nat)) (fun e => HNP.out.1 e.symm)) w5.heap.size 2 (.bool nl) (fun e => HNP.out.1 e.symm)) w5.heap.size 3 (.bool ap) (fun e => HNP.out.1 e.symm)) w5.heap.size 4 (.int .u8 (hd : Nat)) (fun e => HNP.out.1 e.symm))
        have HW8 := Lib.hid (bset (bset (bset (bset HW7.out w5.heap.size 1 (.int .u8 (q : Nat)) HLP.out) w5.heap.size 2 (.bool nl) HLP.out) w5.heap.size 3 (.bool ap) HLP.out) w5.heap.size 4 (.int .u8 (hd : Nat)) HLP.out)
        have HO8 := Lib.hid (PO.setc (PO.setc (PO.setc (PO.setc HO7.out w5.heap.size 1 (.int .u8 (q : Nat)) HP7.out (by decide)) w5.heap.size 2 (.bool nl) (blk_put HP7.out 1 (.int .u8 (q : Nat)) rfl) (by decide)) w5.heap.size 3 (.bool ap) (blk_put (blk_put HP7.out 1 (.int .u8 (q : Nat)) rfl) 2 (.bool nl) rfl) (by decide)) w5.heap.size 4 (.int .u8 (hd : Nat)) (blk_put (blk_put (blk_put HP7.out 1 (.int .u8 (q : Nat)) rfl) 2 (.bool nl) rfl) 3 (.bool ap) rfl) (by decide))
        have HS8 := Lib.hid (ro_to k155_E (ro_to k155_E (ro_to k155_E (ro_to k155_E HS7.out (chg_setc w5.heap.size 1 (.int .u8 (q : Nat))) (fun k hk => .inl (fun hok => by have h1 := hok.1.2; have h2 := HNW.out; omega))) (chg_setc w5.heap.size 2 (.bool nl)) (fun k hk => .inl (fun hok => by have h1 := hok.1.2; have h2 := HNW.out; omega))) (chg_setc w5.heap.size 3 (.bool ap)) (fun k hk => .inl (fun hok => by have h1 := hok.1.2; have h2 := HNW.out; omega))) (chg_setc w5.heap.size 4 (.int .u8 (hd : Nat))) (fun k hk => .inl (fun hok => by have h1 := hok.1.2; have h2 := HNW.out; omega)))
        clear HP7 HX7 HB7 HI7 HW7 HO7 HS7
        generalize ((((w7.setCell ⟨w5.heap.size, 1, none⟩ (.int .u8 (q : Nat))).setCell ⟨w5.heap.size, 2, none⟩ (.bool nl)).setCell ⟨w5.heap.size, 3, none⟩ (.bool ap)).setCell ⟨w5.heap.size, 4, none⟩ (.int .u8 (hd : Nat))) = W8 at HP8 HX8 HB8 HI8 HW8 HO8 HS8 ⊢
        go_cut [] (fun wx => ∃ e8 : Int, Hid (e8 = 0 → e7 = 0) ∧ Hid (IN wx g t7 e8) ∧ Hid (wx.heap[w5.heap.size]? = some (.cells #[.string f, .int .u8 (q : Nat), .bool nl, .bool ap, .int .u8 (hd : Nat)] 155 (0, 0))) ∧ Hid (wx.heap[w.heap.size]? = some (.cells #[.int .u32 0, .slice none 0 0, .slice none 0 0] 124 (0, 0))) ∧ Hid (wx.heap[w1.heap.size]? = some (.cells #[.int .u32 (id : Nat), .slice A L.length cc, .slice A2 fs.length c2] 124 (0, 0))) ∧ Hid (PO wx 0 (fun _ => True) (.slice A L.length cc) L) ∧ Hid (Below w.heap.size w wx) ∧ Hid (SO wx w.heap.size (.slice A2 fs.length c2) fs))
        case first =>
          obtain ⟨p0, p1, p2, p3, p4⟩ := rcell HP8.out
          by_cases h63 : (63 : Int) < (o : Int)
          · go_wp2_with (first | (go_at_call 43; (with_reducible refine (fail_any HI8.out 2 (by decide)).mono ?_); rintro e w8 hp; obtain ⟨ef, rfl, hef, hi, hc⟩ := hp; have HEF := Lib.hid hef; have HI9 := Lib.hid hi; have HP9 := Lib.hid (hc.blk HP8.out HNP.out.1); have HB9 := Lib.hid (hc.blk HB8.out HNB.out); have HX9 := Lib.hid (hc.blk HX8.out HNX.out); have HW9 := Lib.hid (HW8.out.trans (hc.to_below HW8.out.size (fun k hk => hk ▸ HG.out))); have HO9 := Lib.hid (HO8.out.rd HI8.out hc); have HS9 := Lib.hid (ro_to k155_E HS8.out hc (fun k hk => .inr ⟨_, _, hk ▸ HI8.out, by decide⟩)); clear hef hi hc))
            go_meet
            exact ⟨ef, Lib.hid (fun h => absurd h HEF.out), HI9, HP9, HX9, HB9, HO9, HW9, Lib.hid (Kd.R_mono HS9.out (fun _ _ => trivial))⟩
          · by_cases hq3 : ((q : Int) == 3) = true
            · go_wp2_with (first | (go_at_call 43; (with_reducible refine (fail_any HI8.out 3 (by decide)).mono ?_); rintro e w8 hp; obtain ⟨ef, rfl, hef, hi, hc⟩ := hp; have HEF := Lib.hid hef; have HI9 := Lib.hid hi; have HP9 := Lib.hid (hc.blk HP8.out HNP.out.1); have HB9 := Lib.hid (hc.blk HB8.out HNB.out); have HX9 := Lib.hid (hc.blk HX8.out HNX.out); have HW9 := Lib.hid (HW8.out.trans (hc.to_below HW8.out.size (fun k hk => hk ▸ HG.out))); have HO9 := Lib.hid (HO8.out.rd HI8.out hc); have HS9 := Lib.hid (ro_to k155_E HS8.out hc (fun k hk => .inr ⟨_, _, hk ▸ HI8.out, by decide⟩)); clear hef hi hc))
              go_meet
              exact ⟨ef, Lib.hid (fun h => absurd h HEF.out), HI9, HP9, HX9, HB9, HO9, HW9, Lib.hid (Kd.R_mono HS9.out (fun _ _ => trivial))⟩
            · have hq3' : ((q : Int) == 3) = false := Bool.eq_false_iff.2 hq3
              clear hq3
              by_cases hh3 : ((hd : Int) == 3) = true
              · go_wp2_with (first | (go_at_call 43; (with_reducible refine (fail_any HI8.out 3 (by decide)).mono ?_); rintro e w8 hp; obtain ⟨ef, rfl, hef, hi, hc⟩ := hp; have HEF := Lib.hid hef; have HI9 := Lib.hid hi; have HP9 := Lib.hid (hc.blk HP8.out HNP.out.1); have HB9 := Lib.hid (hc.blk HB8.out HNB.out); have HX9 := Lib.hid (hc.blk HX8.out HNX.out); have HW9 := Lib.hid (HW8.out.trans (hc.to_below HW8.out.size (fun k hk => hk ▸ HG.out))); have HO9 := Lib.hid (HO8.out.rd HI8.out hc); have HS9 := Lib.hid (ro_to k155_E HS8.out hc (fun k hk => .inr ⟨_, _, hk ▸ HI8.out, by decide⟩)); clear hef hi hc))
                go_meet
                exact ⟨ef, Lib.hid (fun h => absurd h HEF.out), HI9, HP9, HX9, HB9, HO9, HW9, Lib.hid (Kd.R_mono HS9.out (fun _ _ => trivial))⟩
              · have hh3' : ((hd : Int) == 3) = false := Bool.eq_false_iff.2 hh3
                clear hh3
                go_wp2
                go_meet
                exact ⟨e7, Lib.hid (fun h => h), HI8, HP8, HX8, HB8, HO8, HW8, Lib.hid (Kd.R_mono HS8.out (fun _ _ => trivial))⟩
        case rest =>
          clear HI8 HP8 HX8 HB8 HO8 HW8 HS8
          obtain ⟨e8, HQ8, HI8, HP8, HX8, HB8, HO8, HW8, HS8⟩ := hcut
          have HE8 := Lib.hid (HE7.out.err HQ8.out)
          obtain ⟨p0, p1, p2, p3, p4⟩ := rcell HP8.out
          obtain ⟨b0, b1, b2⟩ := frcell HB8.out
          have fz := blk_frozen HB8.out 2
          have HLL := Lib.hid (show (fs.length + 1) * 24 ≤ 140737488355328 by have h1 := HLN.out; have h2 := HSS.out; omega)
          have HWS := Lib.hid HW8.out.size
          go_wp2_with ((with_reducible refine gate_builtin (b := .append) (xs := #[.tmp 65, .tmp 67]) rfl ?_); at_builtin; refine Kd.R_append k155 (w0 := _) w.heap.size rfl (.tmp 65) (.tmp 67) 122 155 (.agg #[.string ⟨#[]⟩, .int .u8 0, .bool false, .bool false, .int .u8 0]) 24 rfl Tryz.underlying122 info155 rfl (by decide) (by decide) _ fs ⟨f, q, nl, ap, hd⟩ [.string f, .int .u8 (q : Nat), .bool nl, .bool ap, .int .u8 (hd : Nat)] (fun _ => True) (fun _ => False) rfl rfl (k155_mkM _ _ _ ⟨f, q, nl, ap, hd⟩) (fun _ h => h.elim) (fun _ _ => trivial) HS8.out (Below.refl _ _) HWS.out HLL.out ?_; intro v1 w9 hr hb hg hat; obtain ⟨A3, n3, c3, rfl⟩ := ro_sl hr; have HR9 := Lib.hid hr; have HB9 := Lib.hid (ro_grown k155_E HS8.out hg HB8.out (by decide)); have HX9 := Lib.hid (ro_grown k155_E HS8.out hg HX8.out (by decide)); have HI9 := Lib.hid (show IN w9 g t7 e8 from ro_grown k155_E HS8.out hg HI8.out (by decide)); have HO9 := Lib.hid (HO8.out.to (Chg.of_grown (S := fun k => (Value.slice A2 fs.length c2).ownBlock = some k) hg (fun k hk => hk)) (fun k hk => .inr (by obtain ⟨cs, hcs⟩ := ro_row k155_E HS8.out k hk; exact ⟨cs, 155, hcs, by decide⟩))); have HW9 := Lib.hid (HW8.out.trans hb); have fz9 := blk_frozen HB9.out 2; obtain ⟨d0, d1, d2⟩ := frcell HB9.out; clear hr hb hg hat)
          go_roundg g1
          case measure => omega
          case rel => exact ⟨fs ++ [⟨f, q, nl, ap, hd⟩], .slice A3 n3 c3, t7, e8, Lib.hid (ro_to k155_E HR9.out (chg_setc w1.heap.size 2 (.slice A3 n3 c3)) (fun k hk => .inr ⟨_, _, hk ▸ HB9.out, by decide⟩)), Lib.hid (fun x hx => (List.mem_append.1 hx).elim (HFO.out x) (fun h => by obtain rfl := List.mem_singleton.1 h; exact ⟨HF.out, HQ.out, HH.out⟩)), Lib.hid (by rw [List.length_append]; show fs.length + 1 + g1 ≤ s.size; have := HLN.out; omega), Lib.hid (fun h => by have h1 := (HE8.out h).2; have h2 := HA.out (by trivial); rw [subsB_app]; show e1 = 0 ∧ t7.size ≤ g1 ∧ (subsB fs).length + (3 + f.size) + t7.size ≤ s1.size; exact ⟨h2.1, by omega, by omega⟩), Lib.hid (IN.setc HI9.out w1.heap.size 2 (.slice A3 n3 c3) (fun e => HNB.out e.symm)), Lib.hid (blk_sfar HX9.out 2 (.slice A3 n3 c3) HXB.out), Lib.hid (blk_put HB9.out 2 (.slice A3 n3 c3) rfl), Lib.hid (PO.setc HO9.out w1.heap.size 2 (.slice A3 n3 c3) HB9.out (by decide)), Lib.hid (bset HW9.out w1.heap.size 2 (.slice A3 n3 c3) HLB.out)⟩
    · have HEND := Lib.hid (fun (h : endR t et = 0) => endR_0 h)
      have HCE := Lib.hid (end_in HI.out)
      generalize endR t et = er at HEND HCE
      by_cases h1 : 0 < t.size
      · have het : (et == 0) = false := beq_eq_false_iff_ne.2 (fun h => hgo ⟨h1, h⟩)
        clear hgo
        by_cases her : er = 0
        · obtain rfl := her
          have HFIN := Lib.hid (HEND.out rfl)
          have HLEN := Lib.hid (show 2 + (putB L).length + (subsB fs).length ≤ s.size by
            have h1 := HA.out HFIN.out.1
            have h2 := (HE1.out h1.1).2
            omega)
          go_wp2_with (first | (go_at_call 27; refine (left_same HI.out).mono ?_; rintro e w4 ⟨rfl, rfl⟩) | (go_at_call 25; refine (err_same HI.out).mono ?_; rintro e w4 ⟨rfl, rfl⟩) | (go_at_call 53; (with_reducible refine (HCE.out).mono ?_); rintro e w9 ⟨rfl, hi, hc⟩; have HB9 := Lib.hid (hc.blk HB.out HNB.out); have HX9 := Lib.hid (hc.blk HX.out HNX.out); have HW9 := Lib.hid (HW.out.trans (hc.to_below HW.out.size (fun k hk => hk ▸ HG.out))); have HO9 := Lib.hid (HO.out.rd HI.out hc); have HS9 := Lib.hid (ro_to k155_E HS.out hc (fun k hk => .inr ⟨_, _, hk ▸ HI.out, by decide⟩)); obtain ⟨k0, k1, k2⟩ := frcell HB9.out; obtain ⟨r0, r1, r2⟩ := frcell HX9.out; have f0 := blk_frozen HX9.out 0; have f1 := blk_frozen HX9.out 1; have f2 := blk_frozen HX9.out 2; clear hi hc))
          have HF := Lib.hid (blk_put (blk_put (blk_put HX9.out 0 (.int .u32 (id : Nat)) rfl) 1 (.slice A L.length cc) rfl) 2 (.slice A2 fs.length c2) rfl)
          have HBF := Lib.hid (bset (bset (bset HW9.out w.heap.size 0 (.int .u32 (id : Nat)) (Nat.le_refl _)) w.heap.size 1 (.slice A L.length cc) (Nat.le_refl _)) w.heap.size 2 (.slice A2 fs.length c2) (Nat.le_refl _))
          have HOF := Lib.hid (PO.setc (PO.setc (PO.setc HO9.out w.heap.size 0 (.int .u32 (id : Nat)) HX9.out (by decide)) w.heap.size 1 (.slice A L.length cc) (blk_put HX9.out 0 (.int .u32 (id : Nat)) rfl) (by decide)) w.heap.size 2 (.slice A2 fs.length c2) (blk_put (blk_put HX9.out 0 (.int .u32 (id : Nat)) rfl) 1 (.slice A L.length cc) rfl) (by decide))
          have HSF := Lib.hid (ro_setc k155_E (ro_setc k155_E (ro_setc k155_E HS9.out w.heap.size 0 (.int .u32 (id : Nat)) HX9.out (by decide)) w.heap.size 1 (.slice A L.length cc) (blk_put HX9.out 0 (.int .u32 (id : Nat)) rfl) (by decide)) w.heap.size 2 (.slice A2 fs.length c2) (blk_put (blk_put HX9.out 0 (.int .u32 (id : Nat)) rfl) 1 (.slice A L.length cc) rfl) (by decide))
          generalize (((w9.setCell ⟨w.heap.size, 0, none⟩ (.int .u32 (id : Nat))).setCell ⟨w.heap.size, 1, none⟩ (.slice A L.length cc)).setCell ⟨w.heap.size, 2, none⟩ (.slice A2 fs.length c2)) = WF at HF HBF HOF HSF ⊢
          obtain ⟨o0, o1, o2⟩ := frcell HF.out
          exact bodyPost_ret (v := .tuple #[.agg #[(.int .u32 (id : Nat)), (.slice A L.length cc), (.slice A2 fs.length c2)], .int .i64 0]) (by simp [results, Tryz.results56, go_sem, o0, o1, o2]) rfl ⟨id, L, fs, A, A2, cc, c2, 0, rfl, HBF.out, fun _ => ⟨HID.out, HOK.out, HOF.out, HSF.out, HFO.out, by have := HLN.out; omega, HLEN.out⟩⟩
        · have hne : (er != 0) = true := by simpa [bne_iff_ne] using her
          have HER := Lib.hid her
          clear her
          go_wp2_with (first | (go_at_call 27; refine (left_same HI.out).mono ?_; rintro e w4 ⟨rfl, rfl⟩) | (go_at_call 25; refine (err_same HI.out).mono ?_; rintro e w4 ⟨rfl, rfl⟩) | (go_at_call 53; (with_reducible refine (HCE.out).mono ?_); rintro e w9 ⟨rfl, hi, hc⟩; have HB9 := Lib.hid (hc.blk HB.out HNB.out); have HX9 := Lib.hid (hc.blk HX.out HNX.out); have HW9 := Lib.hid (HW.out.trans (hc.to_below HW.out.size (fun k hk => hk ▸ HG.out))); have HO9 := Lib.hid (HO.out.rd HI.out hc); have HS9 := Lib.hid (ro_to k155_E HS.out hc (fun k hk => .inr ⟨_, _, hk ▸ HI.out, by decide⟩)); obtain ⟨k0, k1, k2⟩ := frcell HB9.out; obtain ⟨r0, r1, r2⟩ := frcell HX9.out; have f0 := blk_frozen HX9.out 0; have f1 := blk_frozen HX9.out 1; have f2 := blk_frozen HX9.out 2; clear hi hc))
          have HF := Lib.hid (blk_put (blk_put (blk_put HX9.out 0 (.int .u32 0) rfl) 1 (.slice none 0 0) rfl) 2 (.slice none 0 0) rfl)
          have HBF := Lib.hid (bset (bset (bset HW9.out w.heap.size 0 (.int .u32 0) (Nat.le_refl _)) w.heap.size 1 (.slice none 0 0) (Nat.le_refl _)) w.heap.size 2 (.slice none 0 0) (Nat.le_refl _))
          generalize (((w9.setCell ⟨w.heap.size, 0, none⟩ (.int .u32 0)).setCell ⟨w.heap.size, 1, none⟩ (.slice none 0 0)).setCell ⟨w.heap.size, 2, none⟩ (.slice none 0 0)) = WF at HF HBF ⊢
          obtain ⟨o0, o1, o2⟩ := frcell HF.out
          exact bodyPost_ret (v := .tuple #[.agg #[(.int .u32 0), (.slice none 0 0), (.slice none 0 0)], .int .i64 er]) (by simp [results, Tryz.results56, go_sem, o0, o1, o2]) rfl ⟨0, [], [], none, none, 0, 0, er, rfl, HBF.out, fun h => absurd h HER.out⟩
      · clear hgo
        by_cases her : er = 0
        · obtain rfl := her
          have HFIN := Lib.hid (HEND.out rfl)
          have HLEN := Lib.hid (show 2 + (putB L).length + (subsB fs).length ≤ s.size by
            have h1 := HA.out HFIN.out.1
            have h2 := (HE1.out h1.1).2
            omega)
          go_wp2_with (first | (go_at_call 27; refine (left_same HI.out).mono ?_; rintro e w4 ⟨rfl, rfl⟩) | (go_at_call 25; refine (err_same HI.out).mono ?_; rintro e w4 ⟨rfl, rfl⟩) | (go_at_call 53; (with_reducible refine (HCE.out).mono ?_); rintro e w9 ⟨rfl, hi, hc⟩; have HB9 := Lib.hid (hc.blk HB.out HNB.out); have HX9 := Lib.hid (hc.blk HX.out HNX.out); have HW9 := Lib.hid (HW.out.trans (hc.to_below HW.out.size (fun k hk => hk ▸ HG.out))); have HO9 := Lib.hid (HO.out.rd HI.out hc); have HS9 := Lib.hid (ro_to k155_E HS.out hc (fun k hk => .inr ⟨_, _, hk ▸ HI.out, by decide⟩)); obtain ⟨k0, k1, k2⟩ := frcell HB9.out; obtain ⟨r0, r1, r2⟩ := frcell HX9.out; have f0 := blk_frozen HX9.out 0; have f1 := blk_frozen HX9.out 1; have f2 := blk_frozen HX9.out 2; clear hi hc))
          have HF := Lib.hid (blk_put (blk_put (blk_put HX9.out 0 (.int .u32 (id : Nat)) rfl) 1 (.slice A L.length cc) rfl) 2 (.slice A2 fs.length c2) rfl)
          have HBF := Lib.hid (bset (bset (bset HW9.out w.heap.size 0 (.int .u32 (id : Nat)) (Nat.le_refl _)) w.heap.size 1 (.slice A L.length cc) (Nat.le_refl _)) w.heap.size 2 (.slice A2 fs.length c2) (Nat.le_refl _))
          have HOF := Lib.hid (PO.setc (PO.setc (PO.setc HO9.out w.heap.size 0 (.int .u32 (id : Nat)) HX9.out (by decide)) w.heap.size 1 (.slice A L.length cc) (blk_put HX9.out 0 (.int .u32 (id : Nat)) rfl) (by decide)) w.heap.size 2 (.slice A2 fs.length c2) (blk_put (blk_put HX9.out 0 (.int .u32 (id : Nat)) rfl) 1 (.slice A L.length cc) rfl) (by decide))
          have HSF := Lib.hid (ro_setc k155_E (ro_setc k155_E (ro_setc k155_E HS9.out w.heap.size 0 (.int .u32 (id : Nat)) HX9.out (by decide)) w.heap.size 1 (.slice A L.length cc) (blk_put HX9.out 0 (.int .u32 (id : Nat)) rfl) (by decide)) w.heap.size 2 (.slice A2 fs.length c2) (blk_put (blk_put HX9.out 0 (.int .u32 (id : Nat)) rfl) 1 (.slice A L.length cc) rfl) (by decide))
          generalize (((w9.setCell ⟨w.heap.size, 0, none⟩ (.int .u32 (id : Nat))).setCell ⟨w.heap.size, 1, none⟩ (.slice A L.length cc)).setCell ⟨w.heap.size, 2, none⟩ (.slice A2 fs.length c2)) = WF at HF HBF HOF HSF ⊢
          obtain ⟨o0, o1, o2⟩ := frcell HF.out
          exact bodyPost_ret (v := .tuple #[.agg #[(.int .u32 (id : Nat)), (.slice A L.length cc), (.slice A2 fs.length c2)], .int .i64 0]) (by simp [results, Tryz.results56, go_sem, o0, o1, o2]) rfl ⟨id, L, fs, A, A2, cc, c2, 0, rfl, HBF.out, fun _ => ⟨HID.out, HOK.out, HOF.out, HSF.out, HFO.out, by have := HLN.out; omega, HLEN.out⟩⟩
        · have hne : (er != 0) = true := by simpa [bne_iff_ne] using her
          have HER := Lib.hid her
          clear her
          go_wp2_with (first | (go_at_call 27; refine (left_same HI.out).mono ?_; rintro e w4 ⟨rfl, rfl⟩) | (go_at_call 25; refine (err_same HI.out).mono ?_; rintro e w4 ⟨rfl, rfl⟩) | (go_at_call 53; (with_reducible refine (HCE.out).mono ?_); rintro e w9 ⟨rfl, hi, hc⟩; have HB9 := Lib.hid (hc.blk HB.out HNB.out); have HX9 := Lib.hid (hc.blk HX.out HNX.out); have HW9 := Lib.hid (HW.out.trans (hc.to_below HW.out.size (fun k hk => hk ▸ HG.out))); have HO9 := Lib.hid (HO.out.rd HI.out hc); have HS9 := Lib.hid (ro_to k155_E HS.out hc (fun k hk => .inr ⟨_, _, hk ▸ HI.out, by decide⟩)); obtain ⟨k0, k1, k2⟩ := frcell HB9.out; obtain ⟨r0, r1, r2⟩ := frcell HX9.out; have f0 := blk_frozen HX9.out 0; have f1 := blk_frozen HX9.out 1; have f2 := blk_frozen HX9.out 2; clear hi hc))
          have HF := Lib.hid (blk_put (blk_put (blk_put HX9.out 0 (.int .u32 0) rfl) 1 (.slice none 0 0) rfl) 2 (.slice none 0 0) rfl)
          have HBF := Lib.hid (bset (bset (bset HW9.out w.heap.size 0 (.int .u32 0) (Nat.le_refl _)) w.heap.size 1 (.slice none 0 0) (Nat.le_refl _)) w.heap.size 2 (.slice none 0 0) (Nat.le_refl _))
          generalize (((w9.setCell ⟨w.heap.size, 0, none⟩ (.int .u32 0)).setCell ⟨w.heap.size, 1, none⟩ (.slice none 0 0)).setCell ⟨w.heap.size, 2, none⟩ (.slice none 0 0)) = WF at HF HBF ⊢
          obtain ⟨o0, o1, o2⟩ := frcell HF.out
          exact bodyPost_ret (v := .tuple #[.agg #[(.int .u32 0), (.slice none 0 0), (.slice none 0 0)], .int .i64 er]) (by simp [results, Tryz.results56, go_sem, o0, o1, o2]) rfl ⟨0, [], [], none, none, 0, 0, er, rfl, HBF.out, fun h => absurd h HER.out⟩
end Go.Proofs.YtljbchghbpmghaaGreatDoor
