/- subscribe.ParseUn. -/
import Derived.Test.YtljbchghbpmghaaGreatDoorS29
namespace Go.Proofs.YtljbchghbpmghaaGreatDoor
open Go.RowKit Go.Lib Go.Proofs.YtljbchghbpmghaaGreatDoorW.PrintWords Go.Proofs.YtljbchghbpmghaaGreatDoor.PSwitchboardGreat
set_option linter.unusedVariables false
set_option linter.unusedSimpArgs false
theorem fo_fl {w : World} {B : Nat} {ok : Nat → Prop} {A : Option Addr} {c : Nat} {l : List ByteArray} (h : Kd.string.R 9 w B ok (.slice A l.length c) l) : FL w A l := by
  obtain ⟨A', c', hv, _, hC⟩ := ro_form h
  injection hv with h1 h2 h3
  subst h1
  exact hC
theorem datsB_app (fs : List ByteArray) (x : ByteArray) : (datsB (fs ++ [x])).length = (datsB fs).length + (2 + x.size) := by
  unfold datsB
  rw [List.flatMap_append, List.length_append]
  show _ + (dat x ++ []).length = _
  rw [List.append_nil, dat_len]
/-- An owned list of strings. -/
def FO (w : World) (B : Nat) (v : Value) (l : List ByteArray) : Prop := Kd.string.R 9 w B (fun _ => True) v l
def UnP (w : World) (s : ByteArray) (e : Ending) (w' : World) : Prop := ∃ (id : Nat) (L : List PR) (fs : List ByteArray) (A A2 : Option Addr) (c c2 : Nat) (er : Int), e = .returned (.tuple #[.agg #[.int .u32 (id : Nat), .slice A L.length c, .slice A2 fs.length c2], .int .i64 er]) ∧ Below w.heap.size w w' ∧ (er = 0 → id < 65536 ∧ LOk L ∧ PO w' 0 (fun _ => True) (.slice A L.length c) L ∧ FO w' w.heap.size (.slice A2 fs.length c2) fs ∧ (∀ x ∈ fs, x.size ≤ 65535) ∧ fs.length ≤ s.size ∧ 2 + (putB L).length + (datsB fs).length ≤ s.size)
set_option maxHeartbeats 4000000 in
set_option maxRecDepth 1000000 in
theorem unparse_calls {w : World} (s : ByteArray) (hs : s.size ≤ 100000) : Calls Tryz.prog 57 #[.string s] w (UnP w s) := by
  have HSS := Lib.hid hs
  have HBG := Lib.hid (fun W => begin_calls (w := W) s 10 hs)
  have HX0 := Lib.hid (heap_alloc_new w (.cells #[.int .u32 0, .slice none 0 0, .slice none 0 0] 130))
  have HW0 := Lib.hid (show Below w.heap.size w (w.alloc (.cells #[.int .u32 0, .slice none 0 0, .slice none 0 0] 130)) from (Below.refl _ _).alloc (Nat.le_refl _) _)
  clear hs
  go_enter Tryz.func57, Tryz.ntmps57
  go_upto_region 1 with (fail)
  generalize (w.alloc (.cells #[.int .u32 0, .slice none 0 0, .slice none 0 0] 130)) = W0 at HX0 HW0 ⊢
  go_upto_region 3 with (first
      | (go_at_call 70; (with_reducible refine (HBG.out _).mono ?_); rintro e w1 ⟨g, id, v, L, s1, e1, rfl, hid, hg, hi, hb, hpo, hok, hE⟩; have HG := Lib.hid (show w.heap.size ≤ g by have := HW0.out.size; omega); have HNX := Lib.hid (show w.heap.size ≠ g by have := blk_lt HX0.out; omega); have HX1 := Lib.hid (blk_below HX0.out hb); have HW1 := Lib.hid (HW0.out.trans (hb.mono HW0.out.size)); have HI1 := Lib.hid hi; have HE1 := Lib.hid hE; have HOK := Lib.hid hok; have HID := Lib.hid hid; obtain ⟨A, cc, rfl, hcc, _⟩ := hpo.form; have HO1 := Lib.hid hpo; clear hid hg hi hb hpo hok hE hcc))
  have HNB := Lib.hid (show w1.heap.size ≠ g by have := HI1.out.lt; omega)
  have HXB := Lib.hid (show w.heap.size ≠ w1.heap.size by have := blk_lt HX1.out; omega)
  have HLB := Lib.hid (show w.heap.size ≤ w1.heap.size from HW1.out.size)
  have hba := (Below.refl w1.heap.size w1).alloc (Nat.le_refl _) (.cells #[.int .u32 (id : Nat), .slice A L.length cc, .slice none 0 0] 130)
  have HI2 := Lib.hid (HI1.out.below hba)
  have HX2 := Lib.hid (blk_below HX1.out hba)
  have HW2 := Lib.hid (HW1.out.trans (hba.mono HW1.out.size))
  have HO2 := Lib.hid (HO1.out.below hba)
  have HB2 := Lib.hid (heap_alloc_new w1 (.cells #[.int .u32 (id : Nat), .slice A L.length cc, .slice none 0 0] 130))
  clear hba HI1 HX1 HW1 HO1 HX0 HW0
  generalize (w1.alloc (.cells #[.int .u32 (id : Nat), .slice A L.length cc, .slice none 0 0] 130)) = W2 at HI2 HX2 HW2 HO2 HB2 ⊢
  go_loopg [] s.size (fun gh wx => ∃ (fs : List ByteArray) (v : Value) (t : ByteArray) (et : Int), Hid (FO wx w.heap.size v fs) ∧ Hid (∀ x ∈ fs, x.size ≤ 65535) ∧ Hid (fs.length + gh ≤ s.size) ∧ Hid (et = 0 → e1 = 0 ∧ t.size ≤ gh ∧ (datsB fs).length + t.size ≤ s1.size) ∧ Hid (IN wx g t et) ∧ Hid (wx.heap[w.heap.size]? = some (.cells #[.int .u32 0, .slice none 0 0, .slice none 0 0] 130 (0, 0))) ∧ Hid (wx.heap[w1.heap.size]? = some (.cells #[.int .u32 (id : Nat), .slice A L.length cc, v] 130 (0, 0))) ∧ Hid (PO wx 0 (fun _ => True) (.slice A L.length cc) L) ∧ Hid (Below w.heap.size w wx))
  case atStart =>
    exact ⟨[], .slice none 0 0, s1, e1, Lib.hid (Kd.R_nil _ _ _ _ _), Lib.hid (fun x hx => by cases hx), Lib.hid (by show 0 + s.size ≤ s.size; omega), Lib.hid (fun h => ⟨h, by have := (HE1.out h).2; omega, by show 0 + _ ≤ _; omega⟩), HI2, HX2, HB2, HO2, HW2⟩
  case round =>
    clear HI2 HX2 HW2 HO2 HB2
    obtain ⟨fs, v, t, et, HS, HFO, HLN, HA, HI, HX, HB, HO, HW⟩ := hrel
    obtain ⟨A2, c2, rfl, hcc2, _⟩ := ro_form HS.out
    by_cases hgo : 0 < t.size ∧ et = 0
    · obtain ⟨ht, rfl⟩ := hgo
      cases gk with
      | zero => exact absurd (HA.out rfl).2.1 (by omega)
      | succ g1 =>
        have HS0 := Lib.hid (ro_lim HS.out)
        go_upto_region 4 with (first
          | (go_at_call 27; refine (left_same HI.out).mono ?_; rintro e w4 ⟨rfl, rfl⟩)
          | (go_at_call 25; refine (err_same HI.out).mono ?_; rintro e w4 ⟨rfl, rfl⟩))
        have hbd : Below w4.heap.size w4 w4.drew := ⟨rfl, rfl, rfl, Nat.le_refl _, fun _ _ => rfl⟩
        have HI4 := Lib.hid (HI.out.below hbd)
        have HX4 := Lib.hid (blk_below HX.out hbd)
        have HB4 := Lib.hid (blk_below HB.out hbd)
        have HO4 := Lib.hid (HO.out.below hbd)
        have HW4 := Lib.hid (HW.out.trans (hbd.mono HW.out.size))
        have HS4 := Lib.hid (Kd.R_below HS.out hbd)
        clear HS0 hbd HI HX HB HO HW HS
        obtain ⟨b0, b1, b2⟩ := frcell HB4.out
        have HLL := Lib.hid (show (fs.length + 1) * 16 ≤ 140737488355328 by have h1 := HLN.out; have h2 := HSS.out; omega)
        go_region_law (first
          | (go_simp; (with_reducible refine (wt_in HI4.out).mono ?_); rintro e w5 hp; obtain ⟨f, t5, e5, rfl, hf, hi, hc, hE⟩ := hp; have HF := Lib.hid hf; have HI5 := Lib.hid hi; have HE5 := Lib.hid hE; have HS5 := Lib.hid (ro_to str_E HS4.out hc (fun k hk => .inr ⟨_, _, hk ▸ HI4.out, by decide⟩)); have HX5 := Lib.hid (hc.blk HX4.out HNX.out); have HB5 := Lib.hid (hc.blk HB4.out HNB.out); have HO5 := Lib.hid (HO4.out.rd HI4.out hc); have HW5 := Lib.hid (HW4.out.trans (hc.to_below HW4.out.size (fun k hk => hk ▸ HG.out))); have HWS5 := Lib.hid HW5.out.size; have b5 := (frcell HB5.out).2.2; have b6 := (frcell (blk_below HB5.out ((Below.refl w5.heap.size w5).alloc (Nat.le_refl _) (.cells #[.string f] 9)))).2.2; clear hf hi hc hE)
          | (refine Kd.R_append_step Kd.string (w0 := w5) w.heap.size rfl (.tmp 27) (.tmp 30) 79 9 (.string ⟨#[]⟩) 16 rfl Tryz.underlying79 info9 rfl (by decide) (by decide) (.slice A2 fs.length c2) fs f [.string f] (fun _ => True) (fun _ => False) rfl rfl rfl (fun _ h => h.elim) (fun _ _ => trivial) HS5.out (Below.refl _ _) HWS5.out HLL.out ?_; intro v1 w9 hr hb hg hat; obtain ⟨A3, n3, c3, rfl⟩ := ro_sl hr; have HR9 := Lib.hid hr; have HB9 := Lib.hid (ro_grown str_E HS5.out hg HB5.out (by decide)); have HX9 := Lib.hid (ro_grown str_E HS5.out hg HX5.out (by decide)); have HI9 := Lib.hid (show IN w9 g t5 e5 from ro_grown str_E HS5.out hg HI5.out (by decide)); have HO9 := Lib.hid (HO5.out.to (Chg.of_grown (S := fun k => (Value.slice A2 fs.length c2).ownBlock = some k) hg (fun k hk => hk)) (fun k hk => .inr (by obtain ⟨cs, hcs⟩ := ro_row str_E HS5.out k hk; exact ⟨cs, 9, hcs, by decide⟩))); have HW9 := Lib.hid (HW5.out.trans hb); have fz9 := blk_frozen HB9.out 2; have d2 := (frcell HB9.out).2.2; clear hr hb hg hat))
        all_goals
          go_wp2
          go_roundg g1
          case measure => omega
          case rel => exact ⟨fs ++ [f], .slice A3 n3 c3, t5, e5, Lib.hid (ro_to str_E HR9.out (chg_setc w1.heap.size 2 (.slice A3 n3 c3)) (fun k hk => .inr ⟨_, _, hk ▸ HB9.out, by decide⟩)), Lib.hid (fun x hx => (List.mem_append.1 hx).elim (HFO.out x) (fun h => by obtain rfl := List.mem_singleton.1 h; exact HF.out)), Lib.hid (by rw [List.length_append]; show fs.length + 1 + g1 ≤ s.size; have := HLN.out; omega), Lib.hid (fun h => by have h1 := (HE5.out h).2; have h2 := HA.out (by trivial); rw [datsB_app]; exact ⟨h2.1, by omega, by omega⟩), Lib.hid (IN.setc HI9.out w1.heap.size 2 (.slice A3 n3 c3) (fun e => HNB.out e.symm)), Lib.hid (blk_sfar HX9.out 2 (.slice A3 n3 c3) HXB.out), Lib.hid (blk_put HB9.out 2 (.slice A3 n3 c3) rfl), Lib.hid (PO.setc HO9.out w1.heap.size 2 (.slice A3 n3 c3) HB9.out (by decide)), Lib.hid (bset HW9.out w1.heap.size 2 (.slice A3 n3 c3) HLB.out)⟩
    · have HEND := Lib.hid (fun (h : endR t et = 0) => endR_0 h)
      have HCE := Lib.hid (end_in HI.out)
      generalize endR t et = er at HEND HCE
      by_cases h1 : 0 < t.size
      · have het : (et == 0) = false := beq_eq_false_iff_ne.2 (fun h => hgo ⟨h1, h⟩)
        clear hgo
        by_cases her : er = 0
        · obtain rfl := her
          have HFIN := Lib.hid (HEND.out rfl)
          have HLEN := Lib.hid (show 2 + (putB L).length + (datsB fs).length ≤ s.size by
            have h1 := HA.out HFIN.out.1
            have h2 := (HE1.out h1.1).2
            omega)
          go_wp2_with (first | (go_at_call 27; refine (left_same HI.out).mono ?_; rintro e w4 ⟨rfl, rfl⟩) | (go_at_call 25; refine (err_same HI.out).mono ?_; rintro e w4 ⟨rfl, rfl⟩) | (go_at_call 53; (with_reducible refine (HCE.out).mono ?_); rintro e w9 ⟨rfl, hi, hc⟩; have HB9 := Lib.hid (hc.blk HB.out HNB.out); have HX9 := Lib.hid (hc.blk HX.out HNX.out); have HW9 := Lib.hid (HW.out.trans (hc.to_below HW.out.size (fun k hk => hk ▸ HG.out))); have HO9 := Lib.hid (HO.out.rd HI.out hc); have HS9 := Lib.hid (ro_to str_E HS.out hc (fun k hk => .inr ⟨_, _, hk ▸ HI.out, by decide⟩)); obtain ⟨k0, k1, k2⟩ := frcell HB9.out; obtain ⟨r0, r1, r2⟩ := frcell HX9.out; have f0 := blk_frozen HX9.out 0; have f1 := blk_frozen HX9.out 1; have f2 := blk_frozen HX9.out 2; clear hi hc))
          have HF := Lib.hid (blk_put (blk_put (blk_put HX9.out 0 (.int .u32 (id : Nat)) rfl) 1 (.slice A L.length cc) rfl) 2 (.slice A2 fs.length c2) rfl)
          have HBF := Lib.hid (bset (bset (bset HW9.out w.heap.size 0 (.int .u32 (id : Nat)) (Nat.le_refl _)) w.heap.size 1 (.slice A L.length cc) (Nat.le_refl _)) w.heap.size 2 (.slice A2 fs.length c2) (Nat.le_refl _))
          have HOF := Lib.hid (PO.setc (PO.setc (PO.setc HO9.out w.heap.size 0 (.int .u32 (id : Nat)) HX9.out (by decide)) w.heap.size 1 (.slice A L.length cc) (blk_put HX9.out 0 (.int .u32 (id : Nat)) rfl) (by decide)) w.heap.size 2 (.slice A2 fs.length c2) (blk_put (blk_put HX9.out 0 (.int .u32 (id : Nat)) rfl) 1 (.slice A L.length cc) rfl) (by decide))
          have HSF := Lib.hid (ro_setc str_E (ro_setc str_E (ro_setc str_E HS9.out w.heap.size 0 (.int .u32 (id : Nat)) HX9.out (by decide)) w.heap.size 1 (.slice A L.length cc) (blk_put HX9.out 0 (.int .u32 (id : Nat)) rfl) (by decide)) w.heap.size 2 (.slice A2 fs.length c2) (blk_put (blk_put HX9.out 0 (.int .u32 (id : Nat)) rfl) 1 (.slice A L.length cc) rfl) (by decide))
          generalize (((w9.setCell ⟨w.heap.size, 0, none⟩ (.int .u32 (id : Nat))).setCell ⟨w.heap.size, 1, none⟩ (.slice A L.length cc)).setCell ⟨w.heap.size, 2, none⟩ (.slice A2 fs.length c2)) = WF at HF HBF HOF HSF ⊢
          obtain ⟨o0, o1, o2⟩ := frcell HF.out
          exact bodyPost_ret (v := .tuple #[.agg #[(.int .u32 (id : Nat)), (.slice A L.length cc), (.slice A2 fs.length c2)], .int .i64 0]) (by simp [results, Tryz.results57, go_sem, o0, o1, o2]) rfl ⟨id, L, fs, A, A2, cc, c2, 0, rfl, HBF.out, fun _ => ⟨HID.out, HOK.out, HOF.out, HSF.out, HFO.out, by have := HLN.out; omega, HLEN.out⟩⟩
        · have hne : (er != 0) = true := by simpa [bne_iff_ne] using her
          have HER := Lib.hid her
          clear her
          go_wp2_with (first | (go_at_call 27; refine (left_same HI.out).mono ?_; rintro e w4 ⟨rfl, rfl⟩) | (go_at_call 25; refine (err_same HI.out).mono ?_; rintro e w4 ⟨rfl, rfl⟩) | (go_at_call 53; (with_reducible refine (HCE.out).mono ?_); rintro e w9 ⟨rfl, hi, hc⟩; have HB9 := Lib.hid (hc.blk HB.out HNB.out); have HX9 := Lib.hid (hc.blk HX.out HNX.out); have HW9 := Lib.hid (HW.out.trans (hc.to_below HW.out.size (fun k hk => hk ▸ HG.out))); have HO9 := Lib.hid (HO.out.rd HI.out hc); have HS9 := Lib.hid (ro_to str_E HS.out hc (fun k hk => .inr ⟨_, _, hk ▸ HI.out, by decide⟩)); obtain ⟨k0, k1, k2⟩ := frcell HB9.out; obtain ⟨r0, r1, r2⟩ := frcell HX9.out; have f0 := blk_frozen HX9.out 0; have f1 := blk_frozen HX9.out 1; have f2 := blk_frozen HX9.out 2; clear hi hc))
          have HF := Lib.hid (blk_put (blk_put (blk_put HX9.out 0 (.int .u32 0) rfl) 1 (.slice none 0 0) rfl) 2 (.slice none 0 0) rfl)
          have HBF := Lib.hid (bset (bset (bset HW9.out w.heap.size 0 (.int .u32 0) (Nat.le_refl _)) w.heap.size 1 (.slice none 0 0) (Nat.le_refl _)) w.heap.size 2 (.slice none 0 0) (Nat.le_refl _))
          generalize (((w9.setCell ⟨w.heap.size, 0, none⟩ (.int .u32 0)).setCell ⟨w.heap.size, 1, none⟩ (.slice none 0 0)).setCell ⟨w.heap.size, 2, none⟩ (.slice none 0 0)) = WF at HF HBF ⊢
          obtain ⟨o0, o1, o2⟩ := frcell HF.out
          exact bodyPost_ret (v := .tuple #[.agg #[(.int .u32 0), (.slice none 0 0), (.slice none 0 0)], .int .i64 er]) (by simp [results, Tryz.results57, go_sem, o0, o1, o2]) rfl ⟨0, [], [], none, none, 0, 0, er, rfl, HBF.out, fun h => absurd h HER.out⟩
      · clear hgo
        by_cases her : er = 0
        · obtain rfl := her
          have HFIN := Lib.hid (HEND.out rfl)
          have HLEN := Lib.hid (show 2 + (putB L).length + (datsB fs).length ≤ s.size by
            have h1 := HA.out HFIN.out.1
            have h2 := (HE1.out h1.1).2
            omega)
          go_wp2_with (first | (go_at_call 27; refine (left_same HI.out).mono ?_; rintro e w4 ⟨rfl, rfl⟩) | (go_at_call 25; refine (err_same HI.out).mono ?_; rintro e w4 ⟨rfl, rfl⟩) | (go_at_call 53; (with_reducible refine (HCE.out).mono ?_); rintro e w9 ⟨rfl, hi, hc⟩; have HB9 := Lib.hid (hc.blk HB.out HNB.out); have HX9 := Lib.hid (hc.blk HX.out HNX.out); have HW9 := Lib.hid (HW.out.trans (hc.to_below HW.out.size (fun k hk => hk ▸ HG.out))); have HO9 := Lib.hid (HO.out.rd HI.out hc); have HS9 := Lib.hid (ro_to str_E HS.out hc (fun k hk => .inr ⟨_, _, hk ▸ HI.out, by decide⟩)); obtain ⟨k0, k1, k2⟩ := frcell HB9.out; obtain ⟨r0, r1, r2⟩ := frcell HX9.out; have f0 := blk_frozen HX9.out 0; have f1 := blk_frozen HX9.out 1; have f2 := blk_frozen HX9.out 2; clear hi hc))
          have HF := Lib.hid (blk_put (blk_put (blk_put HX9.out 0 (.int .u32 (id : Nat)) rfl) 1 (.slice A L.length cc) rfl) 2 (.slice A2 fs.length c2) rfl)
          have HBF := Lib.hid (bset (bset (bset HW9.out w.heap.size 0 (.int .u32 (id : Nat)) (Nat.le_refl _)) w.heap.size 1 (.slice A L.length cc) (Nat.le_refl _)) w.heap.size 2 (.slice A2 fs.length c2) (Nat.le_refl _))
          have HOF := Lib.hid (PO.setc (PO.setc (PO.setc HO9.out w.heap.size 0 (.int .u32 (id : Nat)) HX9.out (by decide)) w.heap.size 1 (.slice A L.length cc) (blk_put HX9.out 0 (.int .u32 (id : Nat)) rfl) (by decide)) w.heap.size 2 (.slice A2 fs.length c2) (blk_put (blk_put HX9.out 0 (.int .u32 (id : Nat)) rfl) 1 (.slice A L.length cc) rfl) (by decide))
          have HSF := Lib.hid (ro_setc str_E (ro_setc str_E (ro_setc str_E HS9.out w.heap.size 0 (.int .u32 (id : Nat)) HX9.out (by decide)) w.heap.size 1 (.slice A L.length cc) (blk_put HX9.out 0 (.int .u32 (id : Nat)) rfl) (by decide)) w.heap.size 2 (.slice A2 fs.length c2) (blk_put (blk_put HX9.out 0 (.int .u32 (id : Nat)) rfl) 1 (.slice A L.length cc) rfl) (by decide))
          generalize (((w9.setCell ⟨w.heap.size, 0, none⟩ (.int .u32 (id : Nat))).setCell ⟨w.heap.size, 1, none⟩ (.slice A L.length cc)).setCell ⟨w.heap.size, 2, none⟩ (.slice A2 fs.length c2)) = WF at HF HBF HOF HSF ⊢
          obtain ⟨o0, o1, o2⟩ := frcell HF.out
          exact bodyPost_ret (v := .tuple #[.agg #[(.int .u32 (id : Nat)), (.slice A L.length cc), (.slice A2 fs.length c2)], .int .i64 0]) (by simp [results, Tryz.results57, go_sem, o0, o1, o2]) rfl ⟨id, L, fs, A, A2, cc, c2, 0, rfl, HBF.out, fun _ => ⟨HID.out, HOK.out, HOF.out, HSF.out, HFO.out, by have := HLN.out; omega, HLEN.out⟩⟩
        · have hne : (er != 0) = true := by simpa [bne_iff_ne] using her
          have HER := Lib.hid her
          clear her
          go_wp2_with (first | (go_at_call 27; refine (left_same HI.out).mono ?_; rintro e w4 ⟨rfl, rfl⟩) | (go_at_call 25; refine (err_same HI.out).mono ?_; rintro e w4 ⟨rfl, rfl⟩) | (go_at_call 53; (with_reducible refine (HCE.out).mono ?_); rintro e w9 ⟨rfl, hi, hc⟩; have HB9 := Lib.hid (hc.blk HB.out HNB.out); have HX9 := Lib.hid (hc.blk HX.out HNX.out); have HW9 := Lib.hid (HW.out.trans (hc.to_below HW.out.size (fun k hk => hk ▸ HG.out))); have HO9 := Lib.hid (HO.out.rd HI.out hc); have HS9 := Lib.hid (ro_to str_E HS.out hc (fun k hk => .inr ⟨_, _, hk ▸ HI.out, by decide⟩)); obtain ⟨k0, k1, k2⟩ := frcell HB9.out; obtain ⟨r0, r1, r2⟩ := frcell HX9.out; have f0 := blk_frozen HX9.out 0; have f1 := blk_frozen HX9.out 1; have f2 := blk_frozen HX9.out 2; clear hi hc))
          have HF := Lib.hid (blk_put (blk_put (blk_put HX9.out 0 (.int .u32 0) rfl) 1 (.slice none 0 0) rfl) 2 (.slice none 0 0) rfl)
          have HBF := Lib.hid (bset (bset (bset HW9.out w.heap.size 0 (.int .u32 0) (Nat.le_refl _)) w.heap.size 1 (.slice none 0 0) (Nat.le_refl _)) w.heap.size 2 (.slice none 0 0) (Nat.le_refl _))
          generalize (((w9.setCell ⟨w.heap.size, 0, none⟩ (.int .u32 0)).setCell ⟨w.heap.size, 1, none⟩ (.slice none 0 0)).setCell ⟨w.heap.size, 2, none⟩ (.slice none 0 0)) = WF at HF HBF ⊢
          obtain ⟨o0, o1, o2⟩ := frcell HF.out
          exact bodyPost_ret (v := .tuple #[.agg #[(.int .u32 0), (.slice none 0 0), (.slice none 0 0)], .int .i64 er]) (by simp [results, Tryz.results57, go_sem, o0, o1, o2]) rfl ⟨0, [], [], none, none, 0, 0, er, rfl, HBF.out, fun h => absurd h HER.out⟩
end Go.Proofs.YtljbchghbpmghaaGreatDoor
