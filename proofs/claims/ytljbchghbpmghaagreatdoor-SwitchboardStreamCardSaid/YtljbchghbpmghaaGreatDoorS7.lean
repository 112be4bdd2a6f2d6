/- publish.Parse: any body. -/
import Derived.Test.YtljbchghbpmghaaGreatDoorS6
namespace Go.Proofs.YtljbchghbpmghaaGreatDoor
open Go.RowKit Go.Lib Go.Proofs.YtljbchghbpmghaaGreatDoorW.PrintWords Go.Proofs.YtljbchghbpmghaaGreatDoor.PSwitchboardGreat
set_option linter.unusedVariables false
set_option linter.unusedSimpArgs false
theorem fl8 (f : Nat) (h : f < 16) : Go.bits .and .i64 (f : Int) 8 = ((f / 8 * 8 : Nat) : Int) ∧ Go.bits .and .i64 ((f : Int) / 2) 3 = ((f / 2 % 4 : Nat) : Int) ∧ Go.bits .and .i64 (f : Int) 1 = ((f % 2 : Nat) : Int) := by
  have h : ∀ f : Fin 16, Go.bits .and .i64 ((f.1 : Nat) : Int) 8 = ((f.1 / 8 * 8 : Nat) : Int) ∧ Go.bits .and .i64 (((f.1 : Nat) : Int) / 2) 3 = ((f.1 / 2 % 4 : Nat) : Int) ∧ Go.bits .and .i64 ((f.1 : Nat) : Int) 1 = ((f.1 % 2 : Nat) : Int) := by decide +kernel
  exact h ⟨f, by assumption⟩
def PubP (w : World) (f : Nat) (s : ByteArray) (e : Ending) (w' : World) : Prop := ∃ (d : PD) (A : Option Addr) (c : Nat) (er : Int), e = .returned (.tuple #[d.v A c, .int .i64 er]) ∧ Below w.heap.size w w' ∧ (er = 0 → d.Ok ∧ PO w' 0 (fun _ => True) (.slice A d.L.length c) d.L ∧ d.fl = f ∧ d.body.length ≤ s.size)
set_option maxHeartbeats 4000000 in
set_option maxRecDepth 1000000 in
theorem pubparse_calls {w : World} (f : Nat) (hf : f < 16) (s : ByteArray) (hs : s.size ≤ 100000) : Calls Tryz.prog 37 #[.int .i64 f, .string s] w (PubP w f s) := by
  obtain ⟨z8, z3, z1⟩ := fl8 f hf
  have hq4 : f / 2 % 4 < 4 := Nat.mod_lt _ (by decide)
  have HFL := Lib.hid (show f / 2 % 4 * 2 + (if decide (0 < f / 8 * 8) then 8 else 0) + (if decide (0 < f % 2) then 1 else 0) = f by
    have h : ∀ f : Fin 16, f.1 / 2 % 4 * 2 + (if decide (0 < f.1 / 8 * 8) then 8 else 0) + (if decide (0 < f.1 % 2) then 1 else 0) = f.1 := by decide
    exact h ⟨f, hf⟩)
  generalize f / 8 * 8 = b8 at z8 HFL
  generalize f / 2 % 4 = q at z3 HFL hq4
  generalize f % 2 = b1 at z1 HFL
  have HSS := Lib.hid hs
  have HX0 := Lib.hid (heap_alloc_new w (.cells #[.bool false, .bool false, .int .u8 0, .int .u32 0, .slice none 0 0, .string ⟨#[]⟩, .string ⟨#[]⟩] 47))
  have HW0 := Lib.hid (show Below w.heap.size w (w.alloc (.cells #[.bool false, .bool false, .int .u8 0, .int .u32 0, .slice none 0 0, .string ⟨#[]⟩, .string ⟨#[]⟩] 47)) from (Below.refl _ _).alloc (Nat.le_refl _) _)
  clear hs
  go_enter Tryz.func37, Tryz.ntmps37
  go_upto_region 3 with (first
    | (go_at_call 23; refine (over_in s).mono ?_; rintro e w1 ⟨g, rfl, hi, hg, hb⟩; have HG := Lib.hid (show w.heap.size ≤ g by have := HW0.out.size; omega); have HNX := Lib.hid (show w.heap.size ≠ g by have := blk_lt HX0.out; omega); have HX1 := Lib.hid (hb.block _ (blk_lt HX0.out) |>.trans HX0.out); have HW1 := Lib.hid (HW0.out.trans (hb.mono HW0.out.size)); have HI1 := Lib.hid hi; clear hi hg hb))
  have HNB := Lib.hid (show w1.heap.size ≠ g by have := HI1.out.lt; omega)
  have HXB := Lib.hid (show w.heap.size ≠ w1.heap.size by have := blk_lt HX1.out; omega)
  have HLB := Lib.hid (show w.heap.size ≤ w1.heap.size from HW1.out.size)
  have hba := (Below.refl w1.heap.size w1).alloc (Nat.le_refl _) (.cells #[.bool (decide (0 < b8)), .bool (decide (0 < b1)), .int .u8 (q : Nat), .int .u32 0, .slice none 0 0, .string ⟨#[]⟩, .string ⟨#[]⟩] 47)
  have HI2 := Lib.hid (HI1.out.below hba)
  have HX2 := Lib.hid (blk_below HX1.out hba)
  have HW2 := Lib.hid (HW1.out.trans (hba.mono HW1.out.size))
  have HB2 := Lib.hid (heap_alloc_new w1 (.cells #[.bool (decide (0 < b8)), .bool (decide (0 < b1)), .int .u8 (q : Nat), .int .u32 0, .slice none 0 0, .string ⟨#[]⟩, .string ⟨#[]⟩] 47))
  have HE2 := Lib.hid (Eat.refl s 0)
  clear hba HI1 HX1 HW1 HX0 HW0 z8 z3 z1 hf
  generalize (w1.alloc (.cells #[.bool (decide (0 < b8)), .bool (decide (0 < b1)), .int .u8 (q : Nat), .int .u32 0, .slice none 0 0, .string ⟨#[]⟩, .string ⟨#[]⟩] 47)) = W2 at HI2 HX2 HW2 HB2 ⊢
  go_upto_region 4 with (first
    | (go_at_call 49; (with_reducible refine (wt_in HI2.out).mono ?_); rintro e w3 hp; obtain ⟨T, s1, e1, rfl, hT, hi, hc, hE⟩ := hp; have fz3 := blk_frozen (hc.blk HB2.out HNB.out) 5; have cz3 := pbcell (hc.blk HB2.out HNB.out); have HI3 := Lib.hid (hi.setc w1.heap.size 5 (.string T) (fun e => HNB.out e.symm)); have HB3 := Lib.hid (blk_put (hc.blk HB2.out HNB.out) 5 (.string T) rfl); have HX3 := Lib.hid (blk_sfar (hc.blk HX2.out HNX.out) 5 (.string T) HXB.out); have HW3 := Lib.hid (bset (HW2.out.trans (hc.to_below HW2.out.size (fun k hk => hk ▸ HG.out))) w1.heap.size 5 (.string T) HLB.out); have HE3 := Lib.hid (HE2.out.trans hE); clear hE; have HT := Lib.hid hT; obtain ⟨c0, c1, c2, c3, c4, c5, c6⟩ := cz3; clear hT; clear hi hc))
  clear HI2 HX2 HW2 HB2 HE2 c0 c1 c2 c3 c4 c5 c6 fz3
  generalize (w3.setCell ⟨w1.heap.size, 5, none⟩ (.string T)) = W3 at HI3 HX3 HW3 HB3 ⊢
  obtain ⟨d0, d1, d2, d3, d4, d5, d6⟩ := pbcell HB3.out
  have HSZ3 := Lib.hid (show e1 = 0 → s1.size ≤ 100000 from fun h => by have h1 := (HE3.out h).2; have h2 := HSS.out; omega)
  by_cases hqp : 0 < q
  · clear d3 d4 d5 d6
    go_upto_region 6 with (first
      | (go_at_call 55; (with_reducible refine (id_calls HI3.out).mono ?_); rintro e w4 hp; obtain ⟨id, s2, e2, rfl, hid, hi, hc, hE⟩ := hp; have fz4 := blk_frozen (hc.blk HB3.out HNB.out) 3; have cz4 := pbcell (hc.blk HB3.out HNB.out); have HI4 := Lib.hid (hi.setc w1.heap.size 3 (.int .u32 (id : Nat)) (fun e => HNB.out e.symm)); have HB4 := Lib.hid (blk_put (hc.blk HB3.out HNB.out) 3 (.int .u32 (id : Nat)) rfl); have HX4 := Lib.hid (blk_sfar (hc.blk HX3.out HNX.out) 3 (.int .u32 (id : Nat)) HXB.out); have HW4 := Lib.hid (bset (HW3.out.trans (hc.to_below HW3.out.size (fun k hk => hk ▸ HG.out))) w1.heap.size 3 (.int .u32 (id : Nat)) HLB.out); have HE4 := Lib.hid (HE3.out.trans hE); clear hE; have HV := Lib.hid hid; obtain ⟨c0, c1, c2, c3, c4, c5, c6⟩ := cz4; clear hid; clear hi hc))
    clear HI3 HX3 HW3 HB3 c0 c1 c2 c3 c4 c5 c6 d0 d1 d2 fz4
    generalize (w4.setCell ⟨w1.heap.size, 3, none⟩ (.int .u32 (id : Nat))) = W4 at HI4 HX4 HW4 HB4 ⊢
    have HSZ4 := Lib.hid (show e2 = 0 → s2.size ≤ 100000 from fun h => by have h1 := (HE4.out h).2; have h2 := HSS.out; omega)
    go_upto_region 7 with (first
      | (go_at_call 51; (with_reducible refine (take0_calls HI4.out HSZ4.out 3 false).mono ?_); rintro e w5 hp; obtain ⟨v, L, s3, e3, rfl, hpo, hok, hi, hc, hE⟩ := hp; have fz5 := blk_frozen (hc.blk HB4.out HNB.out) 4; have cz5 := pbcell (hc.blk HB4.out HNB.out); have HI5 := Lib.hid (hi.setc w1.heap.size 4 v (fun e => HNB.out e.symm)); have HB5 := Lib.hid (blk_put (hc.blk HB4.out HNB.out) 4 v rfl); have HX5 := Lib.hid (blk_sfar (hc.blk HX4.out HNX.out) 4 v HXB.out); have HW5 := Lib.hid (bset (HW4.out.trans (hc.to_below HW4.out.size (fun k hk => hk ▸ HG.out))) w1.heap.size 4 v HLB.out); have HE5 := Lib.hid (HE4.out.trans hE); clear hE; have HOK := Lib.hid hok; have HO5 := Lib.hid (hpo.setc w1.heap.size 4 v (hc.blk HB4.out HNB.out) (by decide)); obtain ⟨A, cc, rfl, hcc, _⟩ := HO5.out.form; obtain ⟨c0, c1, c2, c3, c4, c5, c6⟩ := cz5; clear hpo hok; clear hi hc))
    clear HI4 HX4 HW4 HB4 c0 c1 c2 c3 c4 c5 c6 fz5
    generalize (w5.setCell ⟨w1.heap.size, 4, none⟩ (.slice A L.length cc)) = W5 at HI5 HX5 HW5 HB5 HO5 ⊢
    have HSZ5 := Lib.hid (show e3 = 0 → s3.size ≤ 100000 from fun h => by have h1 := (HE5.out h).2; have h2 := HSS.out; omega)
    go_upto_region 8 with (first
      | (go_at_call 29; (with_reducible refine (rest_calls HI5.out HSZ5.out).mono ?_); rintro e w6 hp; obtain ⟨P, s4, e4, rfl, hP, hi, hc, hE⟩ := hp; have fz6 := blk_frozen (hc.blk HB5.out HNB.out) 6; have cz6 := pbcell (hc.blk HB5.out HNB.out); have HI6 := Lib.hid (hi.setc w1.heap.size 6 (.string P) (fun e => HNB.out e.symm)); have HB6 := Lib.hid (blk_put (hc.blk HB5.out HNB.out) 6 (.string P) rfl); have HX6 := Lib.hid (blk_sfar (hc.blk HX5.out HNX.out) 6 (.string P) HXB.out); have HW6 := Lib.hid (bset (HW5.out.trans (hc.to_below HW5.out.size (fun k hk => hk ▸ HG.out))) w1.heap.size 6 (.string P) HLB.out); have HO6 := Lib.hid ((HO5.out.rd HI5.out hc).setc w1.heap.size 6 (.string P) (hc.blk HB5.out HNB.out) (by decide)); have HE6 := Lib.hid (HE5.out.trans hE); clear hE; have HP := Lib.hid hP; obtain ⟨c0, c1, c2, c3, c4, c5, c6⟩ := cz6; clear hP; clear hi hc))
    clear HI5 HX5 HW5 HB5 HO5 c0 c1 c2 c3 c4 c5 c6 fz6
    generalize (w6.setCell ⟨w1.heap.size, 6, none⟩ (.string P)) = W6 at HI6 HX6 HW6 HB6 HO6 ⊢
    have HEND := Lib.hid (fun (h : endR s4 e4 = 0) => endR_0 h)
    have HCE := Lib.hid (end_in HI6.out)
    generalize endR s4 e4 = er at HEND HCE
    by_cases her : er = 0
    · obtain rfl := her
      have HFIN := Lib.hid (HEND.out rfl)
      go_wp2_with (first
        | (go_at_call 53; (with_reducible refine HCE.out.mono ?_); rintro e w7 hp; obtain ⟨rfl, hi, hc⟩ := hp; have HI7 := Lib.hid hi; have HB7 := Lib.hid (hc.blk HB6.out HNB.out); have HX7 := Lib.hid (hc.blk HX6.out HNX.out); have HW7 := Lib.hid (HW6.out.trans (hc.to_below HW6.out.size (fun k hk => hk ▸ HG.out))); have HO7 := Lib.hid (HO6.out.rd HI6.out hc); obtain ⟨c0, c1, c2, c3, c4, c5, c6⟩ := pbcell HB7.out; obtain ⟨r0, r1, r2, r3, r4, r5, r6⟩ := pbcell HX7.out; have f0 := blk_frozen HX7.out 0; have f1 := blk_frozen HX7.out 1; have f2 := blk_frozen HX7.out 2; have f3 := blk_frozen HX7.out 3; have f4 := blk_frozen HX7.out 4; have f5 := blk_frozen HX7.out 5; have f6 := blk_frozen HX7.out 6; clear hi hc))
      have HF := Lib.hid (blk_put (blk_put (blk_put (blk_put (blk_put (blk_put (blk_put HX7.out 0 (.bool (decide (0 < b8))) rfl) 1 (.bool (decide (0 < b1))) rfl) 2 (.int .u8 (q : Nat)) rfl) 3 (.int .u32 ((id : Nat))) rfl) 4 (.slice A L.length cc) rfl) 5 (.string T) rfl) 6 (.string P) rfl)
      have HBF := Lib.hid (bset (bset (bset (bset (bset (bset (bset HW7.out w.heap.size 0 (.bool (decide (0 < b8))) (Nat.le_refl _)) w.heap.size 1 (.bool (decide (0 < b1))) (Nat.le_refl _)) w.heap.size 2 (.int .u8 (q : Nat)) (Nat.le_refl _)) w.heap.size 3 (.int .u32 ((id : Nat))) (Nat.le_refl _)) w.heap.size 4 (.slice A L.length cc) (Nat.le_refl _)) w.heap.size 5 (.string T) (Nat.le_refl _)) w.heap.size 6 (.string P) (Nat.le_refl _))
      have HOF := Lib.hid (PO.setc (PO.setc (PO.setc (PO.setc (PO.setc (PO.setc (PO.setc HO7.out w.heap.size 0 (.bool (decide (0 < b8))) HX7.out (by decide)) w.heap.size 1 (.bool (decide (0 < b1))) (blk_put HX7.out 0 (.bool (decide (0 < b8))) rfl) (by decide)) w.heap.size 2 (.int .u8 (q : Nat)) (blk_put (blk_put HX7.out 0 (.bool (decide (0 < b8))) rfl) 1 (.bool (decide (0 < b1))) rfl) (by decide)) w.heap.size 3 (.int .u32 ((id : Nat))) (blk_put (blk_put (blk_put HX7.out 0 (.bool (decide (0 < b8))) rfl) 1 (.bool (decide (0 < b1))) rfl) 2 (.int .u8 (q : Nat)) rfl) (by decide)) w.heap.size 4 (.slice A L.length cc) (blk_put (blk_put (blk_put (blk_put HX7.out 0 (.bool (decide (0 < b8))) rfl) 1 (.bool (decide (0 < b1))) rfl) 2 (.int .u8 (q : Nat)) rfl) 3 (.int .u32 ((id : Nat))) rfl) (by decide)) w.heap.size 5 (.string T) (blk_put (blk_put (blk_put (blk_put (blk_put HX7.out 0 (.bool (decide (0 < b8))) rfl) 1 (.bool (decide (0 < b1))) rfl) 2 (.int .u8 (q : Nat)) rfl) 3 (.int .u32 ((id : Nat))) rfl) 4 (.slice A L.length cc) rfl) (by decide)) w.heap.size 6 (.string P) (blk_put (blk_put (blk_put (blk_put (blk_put (blk_put HX7.out 0 (.bool (decide (0 < b8))) rfl) 1 (.bool (decide (0 < b1))) rfl) 2 (.int .u8 (q : Nat)) rfl) 3 (.int .u32 ((id : Nat))) rfl) 4 (.slice A L.length cc) rfl) 5 (.string T) rfl) (by decide))
      generalize (((((((w7.setCell ⟨w.heap.size, 0, none⟩ (.bool (decide (0 < b8)))).setCell ⟨w.heap.size, 1, none⟩ (.bool (decide (0 < b1)))).setCell ⟨w.heap.size, 2, none⟩ (.int .u8 (q : Nat))).setCell ⟨w.heap.size, 3, none⟩ (.int .u32 ((id : Nat)))).setCell ⟨w.heap.size, 4, none⟩ (.slice A L.length cc)).setCell ⟨w.heap.size, 5, none⟩ (.string T)).setCell ⟨w.heap.size, 6, none⟩ (.string P)) = WF at HF HBF HOF ⊢
      obtain ⟨o0, o1, o2, o3, o4, o5, o6⟩ := pbcell HF.out
      refine bodyPost_ret (v := .tuple #[.agg #[.bool (decide (0 < b8)), .bool (decide (0 < b1)), .int .u8 (q : Nat), .int .u32 ((id : Nat)), .slice A L.length cc, .string T, .string P], .int .i64 0]) (by simp [results, Tryz.results37, go_sem, o0, o1, o2, o3, o4, o5, o6]) rfl ⟨(⟨decide (0 < b8), decide (0 < b1), q, id, L, T, P⟩ : PD), A, cc, 0, rfl, HBF.out, fun _ => ⟨⟨hq4, by have := HV.out; show id ≤ 4294967295; omega, HOK.out, HT.out, Nat.le_trans HP.out (by decide)⟩, HOF.out, HFL.out, ?_⟩⟩
      have h1 := (HE6.out HFIN.out.1).2
      show (PD.body (⟨decide (0 < b8), decide (0 < b1), q, id, L, T, P⟩ : PD)).length ≤ s.size
      unfold PD.body
      simp only [List.length_append, dat_len, ← Lib.size_eq]
      rw [if_pos hqp]
      show 2 + T.size + (2 + ((putB L).length + P.size)) ≤ s.size
      omega
    · have hne : (er != 0) = true := by simpa [bne_iff_ne] using her
      have HER := Lib.hid her
      clear her
      go_wp2_with (first
        | (go_at_call 53; (with_reducible refine HCE.out.mono ?_); rintro e w7 hp; obtain ⟨rfl, hi, hc⟩ := hp; have HI7 := Lib.hid hi; have HB7 := Lib.hid (hc.blk HB6.out HNB.out); have HX7 := Lib.hid (hc.blk HX6.out HNX.out); have HW7 := Lib.hid (HW6.out.trans (hc.to_below HW6.out.size (fun k hk => hk ▸ HG.out))); have HO7 := Lib.hid (HO6.out.rd HI6.out hc); obtain ⟨c0, c1, c2, c3, c4, c5, c6⟩ := pbcell HB7.out; obtain ⟨r0, r1, r2, r3, r4, r5, r6⟩ := pbcell HX7.out; have f0 := blk_frozen HX7.out 0; have f1 := blk_frozen HX7.out 1; have f2 := blk_frozen HX7.out 2; have f3 := blk_frozen HX7.out 3; have f4 := blk_frozen HX7.out 4; have f5 := blk_frozen HX7.out 5; have f6 := blk_frozen HX7.out 6; clear hi hc))
      have HF := Lib.hid (blk_put (blk_put (blk_put (blk_put (blk_put (blk_put (blk_put HX7.out 0 (.bool false) rfl) 1 (.bool false) rfl) 2 (.int .u8 0) rfl) 3 (.int .u32 0) rfl) 4 (.slice none 0 0) rfl) 5 (.string ⟨#[]⟩) rfl) 6 (.string ⟨#[]⟩) rfl)
      have HBF := Lib.hid (bset (bset (bset (bset (bset (bset (bset HW7.out w.heap.size 0 (.bool false) (Nat.le_refl _)) w.heap.size 1 (.bool false) (Nat.le_refl _)) w.heap.size 2 (.int .u8 0) (Nat.le_refl _)) w.heap.size 3 (.int .u32 0) (Nat.le_refl _)) w.heap.size 4 (.slice none 0 0) (Nat.le_refl _)) w.heap.size 5 (.string ⟨#[]⟩) (Nat.le_refl _)) w.heap.size 6 (.string ⟨#[]⟩) (Nat.le_refl _))
      generalize (((((((w7.setCell ⟨w.heap.size, 0, none⟩ (.bool false)).setCell ⟨w.heap.size, 1, none⟩ (.bool false)).setCell ⟨w.heap.size, 2, none⟩ (.int .u8 0)).setCell ⟨w.heap.size, 3, none⟩ (.int .u32 0)).setCell ⟨w.heap.size, 4, none⟩ (.slice none 0 0)).setCell ⟨w.heap.size, 5, none⟩ (.string ⟨#[]⟩)).setCell ⟨w.heap.size, 6, none⟩ (.string ⟨#[]⟩)) = WF at HF HBF ⊢
      obtain ⟨o0, o1, o2, o3, o4, o5, o6⟩ := pbcell HF.out
      exact bodyPost_ret (v := .tuple #[.agg #[.bool false, .bool false, .int .u8 0, .int .u32 0, .slice none 0 0, .string ⟨#[]⟩, .string ⟨#[]⟩], .int .i64 er]) (by simp [results, Tryz.results37, go_sem, o0, o1, o2, o3, o4, o5, o6]) rfl ⟨(⟨false, false, 0, 0, [], ⟨#[]⟩, ⟨#[]⟩⟩ : PD), none, 0, er, rfl, HBF.out, fun h => absurd h HER.out⟩
  · go_upto_region 6 with (fail)
    clear d0 d1 d2 d3 d4 d5 d6
    go_upto_region 7 with (first
      | (go_at_call 51; (with_reducible refine (take0_calls HI3.out HSZ3.out 3 false).mono ?_); rintro e w4 hp; obtain ⟨v, L, s3, e3, rfl, hpo, hok, hi, hc, hE⟩ := hp; have fz4 := blk_frozen (hc.blk HB3.out HNB.out) 4; have cz4 := pbcell (hc.blk HB3.out HNB.out); have HI4 := Lib.hid (hi.setc w1.heap.size 4 v (fun e => HNB.out e.symm)); have HB4 := Lib.hid (blk_put (hc.blk HB3.out HNB.out) 4 v rfl); have HX4 := Lib.hid (blk_sfar (hc.blk HX3.out HNX.out) 4 v HXB.out); have HW4 := Lib.hid (bset (HW3.out.trans (hc.to_below HW3.out.size (fun k hk => hk ▸ HG.out))) w1.heap.size 4 v HLB.out); have HE4 := Lib.hid (HE3.out.trans hE); clear hE; have HOK := Lib.hid hok; have HO4 := Lib.hid (hpo.setc w1.heap.size 4 v (hc.blk HB3.out HNB.out) (by decide)); obtain ⟨A, cc, rfl, hcc, _⟩ := HO4.out.form; obtain ⟨c0, c1, c2, c3, c4, c5, c6⟩ := cz4; clear hpo hok; clear hi hc))
    clear HI3 HX3 HW3 HB3 c0 c1 c2 c3 c4 c5 c6 fz4
    generalize (w4.setCell ⟨w1.heap.size, 4, none⟩ (.slice A L.length cc)) = W4 at HI4 HX4 HW4 HB4 HO4 ⊢
    have HSZ4 := Lib.hid (show e3 = 0 → s3.size ≤ 100000 from fun h => by have h1 := (HE4.out h).2; have h2 := HSS.out; omega)
    go_upto_region 8 with (first
      | (go_at_call 29; (with_reducible refine (rest_calls HI4.out HSZ4.out).mono ?_); rintro e w5 hp; obtain ⟨P, s4, e4, rfl, hP, hi, hc, hE⟩ := hp; have fz5 := blk_frozen (hc.blk HB4.out HNB.out) 6; have cz5 := pbcell (hc.blk HB4.out HNB.out); have HI5 := Lib.hid (hi.setc w1.heap.size 6 (.string P) (fun e => HNB.out e.symm)); have HB5 := Lib.hid (blk_put (hc.blk HB4.out HNB.out) 6 (.string P) rfl); have HX5 := Lib.hid (blk_sfar (hc.blk HX4.out HNX.out) 6 (.string P) HXB.out); have HW5 := Lib.hid (bset (HW4.out.trans (hc.to_below HW4.out.size (fun k hk => hk ▸ HG.out))) w1.heap.size 6 (.string P) HLB.out); have HO5 := Lib.hid ((HO4.out.rd HI4.out hc).setc w1.heap.size 6 (.string P) (hc.blk HB4.out HNB.out) (by decide)); have HE5 := Lib.hid (HE4.out.trans hE); clear hE; have HP := Lib.hid hP; obtain ⟨c0, c1, c2, c3, c4, c5, c6⟩ := cz5; clear hP; clear hi hc))
    clear HI4 HX4 HW4 HB4 HO4 c0 c1 c2 c3 c4 c5 c6 fz5
    generalize (w5.setCell ⟨w1.heap.size, 6, none⟩ (.string P)) = W5 at HI5 HX5 HW5 HB5 HO5 ⊢
    have HEND := Lib.hid (fun (h : endR s4 e4 = 0) => endR_0 h)
    have HCE := Lib.hid (end_in HI5.out)
    generalize endR s4 e4 = er at HEND HCE
    by_cases her : er = 0
    · obtain rfl := her
      have HFIN := Lib.hid (HEND.out rfl)
      go_wp2_with (first
        | (go_at_call 53; (with_reducible refine HCE.out.mono ?_); rintro e w6 hp; obtain ⟨rfl, hi, hc⟩ := hp; have HI6 := Lib.hid hi; have HB6 := Lib.hid (hc.blk HB5.out HNB.out); have HX6 := Lib.hid (hc.blk HX5.out HNX.out); have HW6 := Lib.hid (HW5.out.trans (hc.to_below HW5.out.size (fun k hk => hk ▸ HG.out))); have HO6 := Lib.hid (HO5.out.rd HI5.out hc); obtain ⟨c0, c1, c2, c3, c4, c5, c6⟩ := pbcell HB6.out; obtain ⟨r0, r1, r2, r3, r4, r5, r6⟩ := pbcell HX6.out; have f0 := blk_frozen HX6.out 0; have f1 := blk_frozen HX6.out 1; have f2 := blk_frozen HX6.out 2; have f3 := blk_frozen HX6.out 3; have f4 := blk_frozen HX6.out 4; have f5 := blk_frozen HX6.out 5; have f6 := blk_frozen HX6.out 6; clear hi hc))
      have HF := Lib.hid (blk_put (blk_put (blk_put (blk_put (blk_put (blk_put (blk_put HX6.out 0 (.bool (decide (0 < b8))) rfl) 1 (.bool (decide (0 < b1))) rfl) 2 (.int .u8 (q : Nat)) rfl) 3 (.int .u32 (0)) rfl) 4 (.slice A L.length cc) rfl) 5 (.string T) rfl) 6 (.string P) rfl)
      have HBF := Lib.hid (bset (bset (bset (bset (bset (bset (bset HW6.out w.heap.size 0 (.bool (decide (0 < b8))) (Nat.le_refl _)) w.heap.size 1 (.bool (decide (0 < b1))) (Nat.le_refl _)) w.heap.size 2 (.int .u8 (q : Nat)) (Nat.le_refl _)) w.heap.size 3 (.int .u32 (0)) (Nat.le_refl _)) w.heap.size 4 (.slice A L.length cc) (Nat.le_refl _)) w.heap.size 5 (.string T) (Nat.le_refl _)) w.heap.size 6 (.string P) (Nat.le_refl _))
      have HOF := Lib.hid (PO.setc (PO.setc (PO.setc (PO.setc (PO.setc (PO.setc (PO.setc HO6.out w.heap.size 0 (.bool (decide (0 < b8))) HX6.out (by decide)) w.heap.size 1 (.bool (decide (0 < b1))) (blk_put HX6.out 0 (.bool (decide (0 < b8))) rfl) (by decide)) w.heap.size 2 (.int .u8 (q : Nat)) (blk_put (blk_put HX6.out 0 (.bool (decide (0 < b8))) rfl) 1 (.bool (decide (0 < b1))) rfl) (by decide)) w.heap.size 3 (.int .u32 (0)) (blk_put (blk_put (blk_put HX6.out 0 (.bool (decide (0 < b8))) rfl) 1 (.bool (decide (0 < b1))) rfl) 2 (.int .u8 (q : Nat)) rfl) (by decide)) w.heap.size 4 (.slice A L.length cc) (blk_put (blk_put (blk_put (blk_put HX6.out 0 (.bool (decide (0 < b8))) rfl) 1 (.bool (decide (0 < b1))) rfl) 2 (.int .u8 (q : Nat)) rfl) 3 (.int .u32 (0)) rfl) (by decide)) w.heap.size 5 (.string T) (blk_put (blk_put (blk_put (blk_put (blk_put HX6.out 0 (.bool (decide (0 < b8))) rfl) 1 (.bool (decide (0 < b1))) rfl) 2 (.int .u8 (q : Nat)) rfl) 3 (.int .u32 (0)) rfl) 4 (.slice A L.length cc) rfl) (by decide)) w.heap.size 6 (.string P) (blk_put (blk_put (blk_put (blk_put (blk_put (blk_put HX6.out 0 (.bool (decide (0 < b8))) rfl) 1 (.bool (decide (0 < b1))) rfl) 2 (.int .u8 (q : Nat)) rfl) 3 (.int .u32 (0)) rfl) 4 (.slice A L.length cc) rfl) 5 (.string T) rfl) (by decide))
      generalize (((((((w6.setCell ⟨w.heap.size, 0, none⟩ (.bool (decide (0 < b8)))).setCell ⟨w.heap.size, 1, none⟩ (.bool (decide (0 < b1)))).setCell ⟨w.heap.size, 2, none⟩ (.int .u8 (q : Nat))).setCell ⟨w.heap.size, 3, none⟩ (.int .u32 (0))).setCell ⟨w.heap.size, 4, none⟩ (.slice A L.length cc)).setCell ⟨w.heap.size, 5, none⟩ (.string T)).setCell ⟨w.heap.size, 6, none⟩ (.string P)) = WF at HF HBF HOF ⊢
      obtain ⟨o0, o1, o2, o3, o4, o5, o6⟩ := pbcell HF.out
      refine bodyPost_ret (v := .tuple #[.agg #[.bool (decide (0 < b8)), .bool (decide (0 < b1)), .int .u8 (q : Nat), .int .u32 (0), .slice A L.length cc, .string T, .string P], .int .i64 0]) (by simp [results, Tryz.results37, go_sem, o0, o1, o2, o3, o4, o5, o6]) rfl ⟨(⟨decide (0 < b8), decide (0 < b1), q, 0, L, T, P⟩ : PD), A, cc, 0, rfl, HBF.out, fun _ => ⟨⟨hq4, by show 0 ≤ 4294967295; omega, HOK.out, HT.out, Nat.le_trans HP.out (by decide)⟩, HOF.out, HFL.out, ?_⟩⟩
      have h1 := (HE5.out HFIN.out.1).2
      show (PD.body (⟨decide (0 < b8), decide (0 < b1), q, 0, L, T, P⟩ : PD)).length ≤ s.size
      unfold PD.body
      simp only [List.length_append, dat_len, ← Lib.size_eq]
      rw [if_neg hqp]
      show 2 + T.size + (0 + ((putB L).length + P.size)) ≤ s.size
      omega
    · have hne : (er != 0) = true := by simpa [bne_iff_ne] using her
      have HER := Lib.hid her
      clear her
      go_wp2_with (first
        | (go_at_call 53; (with_reducible refine HCE.out.mono ?_); rintro e w6 hp; obtain ⟨rfl, hi, hc⟩ := hp; have HI6 := Lib.hid hi; have HB6 := Lib.hid (hc.blk HB5.out HNB.out); have HX6 := Lib.hid (hc.blk HX5.out HNX.out); have HW6 := Lib.hid (HW5.out.trans (hc.to_below HW5.out.size (fun k hk => hk ▸ HG.out))); have HO6 := Lib.hid (HO5.out.rd HI5.out hc); obtain ⟨c0, c1, c2, c3, c4, c5, c6⟩ := pbcell HB6.out; obtain ⟨r0, r1, r2, r3, r4, r5, r6⟩ := pbcell HX6.out; have f0 := blk_frozen HX6.out 0; have f1 := blk_frozen HX6.out 1; have f2 := blk_frozen HX6.out 2; have f3 := blk_frozen HX6.out 3; have f4 := blk_frozen HX6.out 4; have f5 := blk_frozen HX6.out 5; have f6 := blk_frozen HX6.out 6; clear hi hc))
      have HF := Lib.hid (blk_put (blk_put (blk_put (blk_put (blk_put (blk_put (blk_put HX6.out 0 (.bool false) rfl) 1 (.bool false) rfl) 2 (.int .u8 0) rfl) 3 (.int .u32 0) rfl) 4 (.slice none 0 0) rfl) 5 (.string ⟨#[]⟩) rfl) 6 (.string ⟨#[]⟩) rfl)
      have HBF := Lib.hid (bset (bset (bset (bset (bset (bset (bset HW6.out w.heap.size 0 (.bool false) (Nat.le_refl _)) w.heap.size 1 (.bool false) (Nat.le_refl _)) w.heap.size 2 (.int .u8 0) (Nat.le_refl _)) w.heap.size 3 (.int .u32 0) (Nat.le_refl _)) w.heap.size 4 (.slice none 0 0) (Nat.le_refl _)) w.heap.size 5 (.string ⟨#[]⟩) (Nat.le_refl _)) w.heap.size 6 (.string ⟨#[]⟩) (Nat.le_refl _))
      generalize (((((((w6.setCell ⟨w.heap.size, 0, none⟩ (.bool false)).setCell ⟨w.heap.size, 1, none⟩ (.bool false)).setCell ⟨w.heap.size, 2, none⟩ (.int .u8 0)).setCell ⟨w.heap.size, 3, none⟩ (.int .u32 0)).setCell ⟨w.heap.size, 4, none⟩ (.slice none 0 0)).setCell ⟨w.heap.size, 5, none⟩ (.string ⟨#[]⟩)).setCell ⟨w.heap.size, 6, none⟩ (.string ⟨#[]⟩)) = WF at HF HBF ⊢
      obtain ⟨o0, o1, o2, o3, o4, o5, o6⟩ := pbcell HF.out
      exact bodyPost_ret (v := .tuple #[.agg #[.bool false, .bool false, .int .u8 0, .int .u32 0, .slice none 0 0, .string ⟨#[]⟩, .string ⟨#[]⟩], .int .i64 er]) (by simp [results, Tryz.results37, go_sem, o0, o1, o2, o3, o4, o5, o6]) rfl ⟨(⟨false, false, 0, 0, [], ⟨#[]⟩, ⟨#[]⟩⟩ : PD), none, 0, er, rfl, HBF.out, fun h => absurd h HER.out⟩
end Go.Proofs.YtljbchghbpmghaaGreatDoor
