/- publish.ParseAck: any body. -/
import Derived.Test.YtljbchghbpmghaaGreatDoorS7
namespace Go.Proofs.YtljbchghbpmghaaGreatDoor
open Go.RowKit Go.Lib Go.Proofs.YtljbchghbpmghaaGreatDoorW.PrintWords Go.Proofs.YtljbchghbpmghaaGreatDoor.PSwitchboardGreat
set_option linter.unusedVariables false
set_option linter.unusedSimpArgs false
/-- An answer to a publish. -/
structure AD where
  k : Nat
  id : Nat
  c : Nat
  L : List PR
structure AD.Ok (d : AD) : Prop where
  k : d.k < 16
  id : d.id ≤ 4294967295
  c : d.c < 256
  L : LOk d.L
def AD.v (d : AD) (A : Option Addr) (cc : Nat) : Value := .agg #[.int .i64 (d.k : Nat), .int .u32 (d.id : Nat), .int .u8 (d.c : Nat), .slice A d.L.length cc]
def tailB (c : Nat) (L : List PR) : List UInt8 := (if c ≠ 0 ∨ 0 < L.length then [UInt8.ofNat c] else []) ++ (if 0 < L.length then putB L else [])
theorem tailB_0 : (tailB 0 []).length = 0 := rfl
theorem tailB_1 (c : Nat) : (tailB c []).length ≤ 1 := by
  unfold tailB
  split <;> simp
theorem tailB_2 (c : Nat) (L : List PR) : (tailB c L).length ≤ 1 + (putB L).length := by
  unfold tailB
  rw [List.length_append]
  have h1 : (if c ≠ 0 ∨ 0 < L.length then [UInt8.ofNat c] else []).length ≤ 1 := by split <;> simp
  have h2 : (if 0 < L.length then putB L else []).length ≤ (putB L).length := by split <;> simp
  omega
def AD.body (d : AD) : List UInt8 := be2 (d.id % 65536) ++ tailB d.c d.L
theorem lok_nil : LOk [] := ⟨fun p hp => (by cases hp), by show 0 ≤ 100000; decide, by show 0 ≤ 1000000; decide⟩
theorem qcell {w : World} {bx : Nat} {t : TypeId} {a0 a1 a2 a3 : Value} (h : w.heap[bx]? = some (.cells #[a0, a1, a2, a3] t (0, 0))) : w.cell? ⟨bx, 0, none⟩ = some a0 ∧ w.cell? ⟨bx, 1, none⟩ = some a1 ∧ w.cell? ⟨bx, 2, none⟩ = some a2 ∧ w.cell? ⟨bx, 3, none⟩ = some a3 :=
  ⟨(blk_cell h 0).trans rfl, (blk_cell h 1).trans rfl, (blk_cell h 2).trans rfl, (blk_cell h 3).trans rfl⟩
theorem po_nil (w : World) : PO w 0 (fun _ => True) (.slice none 0 0) [] := PO.nil _ _ _
def AckP (w : World) (k : Nat) (s : ByteArray) (e : Ending) (w' : World) : Prop := ∃ (d : AD) (A : Option Addr) (c : Nat) (er : Int), e = .returned (.tuple #[d.v A c, .int .i64 er]) ∧ Below w.heap.size w w' ∧ (er = 0 → d.k = k ∧ d.Ok ∧ PO w' 0 (fun _ => True) (.slice A d.L.length c) d.L ∧ d.body.length ≤ s.size)
set_option maxHeartbeats 4000000 in
set_option maxRecDepth 1000000 in
theorem pubackparse_calls {w : World} (k : Nat) (hk4 : 4 ≤ k) (hk7 : k ≤ 7) (s : ByteArray) (hs : s.size ≤ 100000) : Calls Tryz.prog 38 #[.int .i64 k, .string s] w (AckP w k s) := by
  have HSS := Lib.hid hs
  have HX0 := Lib.hid (heap_alloc_new w (.cells #[.int .i64 0, .int .u32 0, .int .u8 0, .slice none 0 0] 99))
  have HW0 := Lib.hid (show Below w.heap.size w (w.alloc (.cells #[.int .i64 0, .int .u32 0, .int .u8 0, .slice none 0 0] 99)) from (Below.refl _ _).alloc (Nat.le_refl _) _)
  have hq1 : decide ((k : Int) < 4) = false := decide_eq_false (by omega)
  have hq2 : decide ((7 : Int) < (k : Int)) = false := decide_eq_false (by omega)
  have HK := Lib.hid (show k < 16 by omega)
  clear hs
  go_enter Tryz.func38, Tryz.ntmps38
  go_upto_region 5 with (first
    | (go_at_call 23; refine (over_in s).mono ?_; rintro e w1 ⟨g, rfl, hi, hg, hb⟩; have HG := Lib.hid (show w.heap.size ≤ g by have := HW0.out.size; omega); have HNX := Lib.hid (show w.heap.size ≠ g by have := blk_lt HX0.out; omega); have HX1 := Lib.hid (hb.block _ (blk_lt HX0.out) |>.trans HX0.out); have HW1 := Lib.hid (HW0.out.trans (hb.mono HW0.out.size)); have HI1 := Lib.hid hi; clear hi hg hb)
    | (go_at_call 55; refine (id_calls HI1.out).mono ?_; rintro e w2 hp; obtain ⟨id, s2, e2, rfl, hid, hi, hc, hE⟩ := hp; have HID := Lib.hid hid; have HE3 := Lib.hid hE; have HX2 := Lib.hid (hc.blk HX1.out HNX.out); have HW2 := Lib.hid (HW1.out.trans (hc.to_below HW1.out.size (fun k hk => hk ▸ HG.out))); have HI2 := Lib.hid hi; clear hi hc hE hid))
  have HNB := Lib.hid (show w2.heap.size ≠ g by have := HI2.out.lt; omega)
  have HXB := Lib.hid (show w.heap.size ≠ w2.heap.size by have := blk_lt HX2.out; omega)
  have HLB := Lib.hid (show w.heap.size ≤ w2.heap.size from HW2.out.size)
  have hba := (Below.refl w2.heap.size w2).alloc (Nat.le_refl _) (.cells #[.int .i64 (k : Nat), .int .u32 (id : Nat), .int .u8 0, .slice none 0 0] 99)
  have HI3 := Lib.hid (HI2.out.below hba)
  have HX3 := Lib.hid (blk_below HX2.out hba)
  have HW3 := Lib.hid (HW2.out.trans (hba.mono HW2.out.size))
  have HB3 := Lib.hid (heap_alloc_new w2 (.cells #[.int .i64 (k : Nat), .int .u32 (id : Nat), .int .u8 0, .slice none 0 0] 99))
  clear hba HI1 HX1 HW1 HX0 HW0 HI2 HX2 HW2
  generalize (w2.alloc (.cells #[.int .i64 (k : Nat), .int .u32 (id : Nat), .int .u8 0, .slice none 0 0] 99)) = W3 at HI3 HX3 HW3 HB3 ⊢
  by_cases hz2 : 0 < s2.size
  · go_upto_region 7 with (first
      | (go_at_call 27; refine (left_same HI3.out).mono ?_; rintro e w38 ⟨rfl, rfl⟩)
      | (go_at_call 42; (with_reducible refine (nt_byte HI3.out).mono ?_); rintro e w4 hp; obtain ⟨c, s4, e4, rfl, hcv, hi, hc, hE⟩ := hp; have fz4 := blk_frozen (hc.blk HB3.out HNB.out) 2; have cz4 := qcell (hc.blk HB3.out HNB.out); have HI4 := Lib.hid (hi.setc w2.heap.size 2 (.int .u8 (c : Nat)) (fun e => HNB.out e.symm)); have HB4 := Lib.hid (blk_put (hc.blk HB3.out HNB.out) 2 (.int .u8 (c : Nat)) rfl); have HX4 := Lib.hid (blk_sfar (hc.blk HX3.out HNX.out) 2 (.int .u8 (c : Nat)) HXB.out); have HW4 := Lib.hid (bset (HW3.out.trans (hc.to_below HW3.out.size (fun k hk => hk ▸ HG.out))) w2.heap.size 2 (.int .u8 (c : Nat)) HLB.out); have HE4 := Lib.hid (HE3.out.trans hE); have HC := Lib.hid hcv; obtain ⟨c0, c1, c2, c3⟩ := cz4; clear hE hcv; clear hi hc))
    clear HI3 HX3 HW3 HB3 c0 c1 c2 c3 fz4
    generalize (w4.setCell ⟨w2.heap.size, 2, none⟩ (.int .u8 (c : Nat))) = W4 at HI4 HX4 HW4 HB4 ⊢
    by_cases he4 : e4 = 0
    · obtain rfl := he4
      obtain ⟨c0, c1, c2, c3⟩ := qcell HB4.out
      go_upto_if 37 with (first
        | (go_at_call 25; refine (err_same HI4.out).mono ?_; rintro e w49 ⟨rfl, rfl⟩)
        | (go_at_call 54; (with_reducible refine (may_calls k HK.out _ _).mono ?_); rintro e w5 hp; obtain ⟨mb, rfl, hb⟩ := hp; have HI5 := Lib.hid (HI4.out.below hb); have HB5 := Lib.hid (blk_below HB4.out hb); have HX5 := Lib.hid (blk_below HX4.out hb); have HW5 := Lib.hid (HW4.out.trans (hb.mono HW4.out.size)); clear hb))
      clear c0 c1 c2 c3
      cases mb with
      | false =>
        go_upto_region 9 with (first
          | (go_at_call 43; (with_reducible refine (fail_any HI5.out 2 (by decide)).mono ?_); rintro e w6 hp; obtain ⟨ef, rfl, hef, hi, hc⟩ := hp; have HI6 := Lib.hid hi; have HB6 := Lib.hid (hc.blk HB5.out HNB.out); have HX6 := Lib.hid (hc.blk HX5.out HNX.out); have HW6 := Lib.hid (HW5.out.trans (hc.to_below HW5.out.size (fun k hk => hk ▸ HG.out))); have HEF := Lib.hid hef; clear hef; clear hi hc))
        by_cases hz6 : 0 < s4.size
        · have HTK := Lib.hid (take0_calls HI6.out (show (ef : Int) = 0 → s4.size ≤ 100000 from fun h => absurd h HEF.out) (k : Nat) false)
          go_upto_region 11 with (first
            | (go_at_call 27; refine (left_same HI6.out).mono ?_; rintro e w68 ⟨rfl, rfl⟩)
            | (go_at_call 51; (with_reducible refine (HTK.out).mono ?_); rintro e w7 hp; obtain ⟨v, L, s5, e5, rfl, hpo, hok, hi, hc, hE⟩ := hp; have fz7 := blk_frozen (hc.blk HB6.out HNB.out) 3; have cz7 := qcell (hc.blk HB6.out HNB.out); have HI7 := Lib.hid (hi.setc w2.heap.size 3 v (fun e => HNB.out e.symm)); have HB7 := Lib.hid (blk_put (hc.blk HB6.out HNB.out) 3 v rfl); have HX7 := Lib.hid (blk_sfar (hc.blk HX6.out HNX.out) 3 v HXB.out); have HW7 := Lib.hid (bset (HW6.out.trans (hc.to_below HW6.out.size (fun k hk => hk ▸ HG.out))) w2.heap.size 3 v HLB.out); have HEL := Lib.hid hE; have HOK := Lib.hid hok; have HO7 := Lib.hid (hpo.setc w2.heap.size 3 v (hc.blk HB6.out HNB.out) (by decide)); obtain ⟨A, cc, rfl, hcc, _⟩ := HO7.out.form; obtain ⟨c0, c1, c2, c3⟩ := cz7; clear hpo hok hE; clear hi hc))
          clear HI6 HX6 HW6 HB6 c0 c1 c2 c3 fz7
          generalize (w7.setCell ⟨w2.heap.size, 3, none⟩ (.slice A L.length cc)) = W7 at HI7 HX7 HW7 HB7 HO7 ⊢
          have HEND := Lib.hid (fun (h : endR s5 e5 = 0) => endR_0 h)
          have HCE := Lib.hid (end_in HI7.out)
          generalize endR s5 e5 = er at HEND HCE
          have her : er ≠ 0 := fun h => HEF.out (HEL.out (HEND.out h).1).1
          have hne : (er != 0) = true := by simpa [bne_iff_ne] using her
          have HER := Lib.hid her
          clear her
          go_wp2_with (first
            | (go_at_call 53; (with_reducible refine (HCE.out).mono ?_); rintro e w8 hp; obtain ⟨rfl, hi, hc⟩ := hp; have HI8 := Lib.hid hi; have HB8 := Lib.hid (hc.blk HB7.out HNB.out); have HX8 := Lib.hid (hc.blk HX7.out HNX.out); have HW8 := Lib.hid (HW7.out.trans (hc.to_below HW7.out.size (fun k hk => hk ▸ HG.out))); have HO8 := Lib.hid (HO7.out.rd HI7.out hc); obtain ⟨c0, c1, c2, c3⟩ := qcell HB8.out; obtain ⟨r0, r1, r2, r3⟩ := qcell HX8.out; have f0 := blk_frozen HX8.out 0; have f1 := blk_frozen HX8.out 1; have f2 := blk_frozen HX8.out 2; have f3 := blk_frozen HX8.out 3; clear hi hc))
          have HF := Lib.hid (blk_put (blk_put (blk_put (blk_put HX8.out 0 (.int .i64 0) rfl) 1 (.int .u32 0) rfl) 2 (.int .u8 0) rfl) 3 (.slice none 0 0) rfl)
          have HBF := Lib.hid (bset (bset (bset (bset HW8.out w.heap.size 0 (.int .i64 0) (Nat.le_refl _)) w.heap.size 1 (.int .u32 0) (Nat.le_refl _)) w.heap.size 2 (.int .u8 0) (Nat.le_refl _)) w.heap.size 3 (.slice none 0 0) (Nat.le_refl _))
          generalize ((((w8.setCell ⟨w.heap.size, 0, none⟩ (.int .i64 0)).setCell ⟨w.heap.size, 1, none⟩ (.int .u32 0)).setCell ⟨w.heap.size, 2, none⟩ (.int .u8 0)).setCell ⟨w.heap.size, 3, none⟩ (.slice none 0 0)) = WF at HF HBF ⊢
          obtain ⟨o0, o1, o2, o3⟩ := qcell HF.out
          exact bodyPost_ret (v := .tuple #[.agg #[.int .i64 0, .int .u32 0, .int .u8 0, .slice none 0 0], .int .i64 er]) (by simp [results, Tryz.results38, go_sem, o0, o1, o2, o3]) rfl ⟨(⟨0, 0, 0, []⟩ : AD), none, 0, er, rfl, HBF.out, fun h => absurd h HER.out⟩
        · go_upto_region 11 with (first | (go_at_call 27; refine (left_same HI6.out).mono ?_; rintro e w68 ⟨rfl, rfl⟩))
          have HEND := Lib.hid (fun (h : endR s4 ef = 0) => endR_0 h)
          have HCE := Lib.hid (end_in HI6.out)
          generalize endR s4 ef = er at HEND HCE
          have her : er ≠ 0 := fun h => HEF.out (HEND.out h).1
          have hne : (er != 0) = true := by simpa [bne_iff_ne] using her
          have HER := Lib.hid her
          clear her
          go_wp2_with (first
            | (go_at_call 53; (with_reducible refine (HCE.out).mono ?_); rintro e w7 hp; obtain ⟨rfl, hi, hc⟩ := hp; have HI7 := Lib.hid hi; have HB7 := Lib.hid (hc.blk HB6.out HNB.out); have HX7 := Lib.hid (hc.blk HX6.out HNX.out); have HW7 := Lib.hid (HW6.out.trans (hc.to_below HW6.out.size (fun k hk => hk ▸ HG.out))); obtain ⟨c0, c1, c2, c3⟩ := qcell HB7.out; obtain ⟨r0, r1, r2, r3⟩ := qcell HX7.out; have f0 := blk_frozen HX7.out 0; have f1 := blk_frozen HX7.out 1; have f2 := blk_frozen HX7.out 2; have f3 := blk_frozen HX7.out 3; clear hi hc))
          have HF := Lib.hid (blk_put (blk_put (blk_put (blk_put HX7.out 0 (.int .i64 0) rfl) 1 (.int .u32 0) rfl) 2 (.int .u8 0) rfl) 3 (.slice none 0 0) rfl)
          have HBF := Lib.hid (bset (bset (bset (bset HW7.out w.heap.size 0 (.int .i64 0) (Nat.le_refl _)) w.heap.size 1 (.int .u32 0) (Nat.le_refl _)) w.heap.size 2 (.int .u8 0) (Nat.le_refl _)) w.heap.size 3 (.slice none 0 0) (Nat.le_refl _))
          generalize ((((w7.setCell ⟨w.heap.size, 0, none⟩ (.int .i64 0)).setCell ⟨w.heap.size, 1, none⟩ (.int .u32 0)).setCell ⟨w.heap.size, 2, none⟩ (.int .u8 0)).setCell ⟨w.heap.size, 3, none⟩ (.slice none 0 0)) = WF at HF HBF ⊢
          obtain ⟨o0, o1, o2, o3⟩ := qcell HF.out
          exact bodyPost_ret (v := .tuple #[.agg #[.int .i64 0, .int .u32 0, .int .u8 0, .slice none 0 0], .int .i64 er]) (by simp [results, Tryz.results38, go_sem, o0, o1, o2, o3]) rfl ⟨(⟨0, 0, 0, []⟩ : AD), none, 0, er, rfl, HBF.out, fun h => absurd h HER.out⟩
      | true =>
        go_upto_region 9 with (fail)
        by_cases hz5 : 0 < s4.size
        · have HTK := Lib.hid (take0_calls HI5.out (show (0 : Int) = 0 → s4.size ≤ 100000 from fun h => by have h1 := (HE4.out h).2; have h2 := HSS.out; omega) (k : Nat) false)
          go_upto_region 11 with (first
            | (go_at_call 27; refine (left_same HI5.out).mono ?_; rintro e w58 ⟨rfl, rfl⟩)
            | (go_at_call 51; (with_reducible refine (HTK.out).mono ?_); rintro e w6 hp; obtain ⟨v, L, s5, e5, rfl, hpo, hok, hi, hc, hE⟩ := hp; have fz6 := blk_frozen (hc.blk HB5.out HNB.out) 3; have cz6 := qcell (hc.blk HB5.out HNB.out); have HI6 := Lib.hid (hi.setc w2.heap.size 3 v (fun e => HNB.out e.symm)); have HB6 := Lib.hid (blk_put (hc.blk HB5.out HNB.out) 3 v rfl); have HX6 := Lib.hid (blk_sfar (hc.blk HX5.out HNX.out) 3 v HXB.out); have HW6 := Lib.hid (bset (HW5.out.trans (hc.to_below HW5.out.size (fun k hk => hk ▸ HG.out))) w2.heap.size 3 v HLB.out); have HEL := Lib.hid hE; have HOK := Lib.hid hok; have HO6 := Lib.hid (hpo.setc w2.heap.size 3 v (hc.blk HB5.out HNB.out) (by decide)); obtain ⟨A, cc, rfl, hcc, _⟩ := HO6.out.form; obtain ⟨c0, c1, c2, c3⟩ := cz6; clear hpo hok hE; clear hi hc))
          clear HI5 HX5 HW5 HB5 c0 c1 c2 c3 fz6
          generalize (w6.setCell ⟨w2.heap.size, 3, none⟩ (.slice A L.length cc)) = W6 at HI6 HX6 HW6 HB6 HO6 ⊢
          have HEND := Lib.hid (fun (h : endR s5 e5 = 0) => endR_0 h)
          have HCE := Lib.hid (end_in HI6.out)
          generalize endR s5 e5 = er at HEND HCE
          by_cases her : er = 0
          · obtain rfl := her
            have HFIN := Lib.hid (HEND.out rfl)
            have HLEN := Lib.hid (show (AD.body (⟨k, id, c, L⟩ : AD)).length ≤ s.size by
              have h1 := HEL.out HFIN.out.1
              have h2 := HE4.out h1.1
              have h3 := tailB_2 c L
              show (be2 (id % 65536) ++ tailB c L).length ≤ s.size
              rw [List.length_append]
              show 2 + _ ≤ _
              omega
              )
            go_wp2_with (first
              | (go_at_call 53; (with_reducible refine (HCE.out).mono ?_); rintro e w7 hp; obtain ⟨rfl, hi, hc⟩ := hp; have HI7 := Lib.hid hi; have HB7 := Lib.hid (hc.blk HB6.out HNB.out); have HX7 := Lib.hid (hc.blk HX6.out HNX.out); have HW7 := Lib.hid (HW6.out.trans (hc.to_below HW6.out.size (fun k hk => hk ▸ HG.out))); have HO7 := Lib.hid (HO6.out.rd HI6.out hc); obtain ⟨c0, c1, c2, c3⟩ := qcell HB7.out; obtain ⟨r0, r1, r2, r3⟩ := qcell HX7.out; have f0 := blk_frozen HX7.out 0; have f1 := blk_frozen HX7.out 1; have f2 := blk_frozen HX7.out 2; have f3 := blk_frozen HX7.out 3; clear hi hc))
            have HF := Lib.hid (blk_put (blk_put (blk_put (blk_put HX7.out 0 (.int .i64 (k : Nat)) rfl) 1 (.int .u32 (id : Nat)) rfl) 2 (.int .u8 (c)) rfl) 3 (.slice A L.length cc) rfl)
            have HBF := Lib.hid (bset (bset (bset (bset HW7.out w.heap.size 0 (.int .i64 (k : Nat)) (Nat.le_refl _)) w.heap.size 1 (.int .u32 (id : Nat)) (Nat.le_refl _)) w.heap.size 2 (.int .u8 (c)) (Nat.le_refl _)) w.heap.size 3 (.slice A L.length cc) (Nat.le_refl _))
            have HOF := Lib.hid (PO.setc (PO.setc (PO.setc (PO.setc HO7.out w.heap.size 0 (.int .i64 (k : Nat)) HX7.out (by decide)) w.heap.size 1 (.int .u32 (id : Nat)) (blk_put HX7.out 0 (.int .i64 (k : Nat)) rfl) (by decide)) w.heap.size 2 (.int .u8 (c)) (blk_put (blk_put HX7.out 0 (.int .i64 (k : Nat)) rfl) 1 (.int .u32 (id : Nat)) rfl) (by decide)) w.heap.size 3 (.slice A L.length cc) (blk_put (blk_put (blk_put HX7.out 0 (.int .i64 (k : Nat)) rfl) 1 (.int .u32 (id : Nat)) rfl) 2 (.int .u8 (c)) rfl) (by decide))
            generalize ((((w7.setCell ⟨w.heap.size, 0, none⟩ (.int .i64 (k : Nat))).setCell ⟨w.heap.size, 1, none⟩ (.int .u32 (id : Nat))).setCell ⟨w.heap.size, 2, none⟩ (.int .u8 (c))).setCell ⟨w.heap.size, 3, none⟩ (.slice A L.length cc)) = WF at HF HBF HOF ⊢
            obtain ⟨o0, o1, o2, o3⟩ := qcell HF.out
            exact bodyPost_ret (v := .tuple #[.agg #[.int .i64 (k : Nat), .int .u32 (id : Nat), .int .u8 (c), .slice A L.length cc], .int .i64 0]) (by simp [results, Tryz.results38, go_sem, o0, o1, o2, o3]) rfl ⟨(⟨k, id, c, L⟩ : AD), A, cc, 0, rfl, HBF.out, fun _ => ⟨rfl, ⟨HK.out, by have := HID.out; show id ≤ 4294967295; omega, HC.out, HOK.out⟩, HOF.out, HLEN.out⟩⟩
          · have hne : (er != 0) = true := by simpa [bne_iff_ne] using her
            have HER := Lib.hid her
            clear her
            go_wp2_with (first
              | (go_at_call 53; (with_reducible refine (HCE.out).mono ?_); rintro e w7 hp; obtain ⟨rfl, hi, hc⟩ := hp; have HI7 := Lib.hid hi; have HB7 := Lib.hid (hc.blk HB6.out HNB.out); have HX7 := Lib.hid (hc.blk HX6.out HNX.out); have HW7 := Lib.hid (HW6.out.trans (hc.to_below HW6.out.size (fun k hk => hk ▸ HG.out))); have HO7 := Lib.hid (HO6.out.rd HI6.out hc); obtain ⟨c0, c1, c2, c3⟩ := qcell HB7.out; obtain ⟨r0, r1, r2, r3⟩ := qcell HX7.out; have f0 := blk_frozen HX7.out 0; have f1 := blk_frozen HX7.out 1; have f2 := blk_frozen HX7.out 2; have f3 := blk_frozen HX7.out 3; clear hi hc))
            have HF := Lib.hid (blk_put (blk_put (blk_put (blk_put HX7.out 0 (.int .i64 0) rfl) 1 (.int .u32 0) rfl) 2 (.int .u8 0) rfl) 3 (.slice none 0 0) rfl)
            have HBF := Lib.hid (bset (bset (bset (bset HW7.out w.heap.size 0 (.int .i64 0) (Nat.le_refl _)) w.heap.size 1 (.int .u32 0) (Nat.le_refl _)) w.heap.size 2 (.int .u8 0) (Nat.le_refl _)) w.heap.size 3 (.slice none 0 0) (Nat.le_refl _))
            generalize ((((w7.setCell ⟨w.heap.size, 0, none⟩ (.int .i64 0)).setCell ⟨w.heap.size, 1, none⟩ (.int .u32 0)).setCell ⟨w.heap.size, 2, none⟩ (.int .u8 0)).setCell ⟨w.heap.size, 3, none⟩ (.slice none 0 0)) = WF at HF HBF ⊢
            obtain ⟨o0, o1, o2, o3⟩ := qcell HF.out
            exact bodyPost_ret (v := .tuple #[.agg #[.int .i64 0, .int .u32 0, .int .u8 0, .slice none 0 0], .int .i64 er]) (by simp [results, Tryz.results38, go_sem, o0, o1, o2, o3]) rfl ⟨(⟨0, 0, 0, []⟩ : AD), none, 0, er, rfl, HBF.out, fun h => absurd h HER.out⟩
        · go_upto_region 11 with (first | (go_at_call 27; refine (left_same HI5.out).mono ?_; rintro e w58 ⟨rfl, rfl⟩))
          have HEND := Lib.hid (fun (h : endR s4 0 = 0) => endR_0 h)
          have HCE := Lib.hid (end_in HI5.out)
          generalize endR s4 0 = er at HEND HCE
          by_cases her : er = 0
          · obtain rfl := her
            have HFIN := Lib.hid (HEND.out rfl)
            have HLEN := Lib.hid (show (AD.body (⟨k, id, c, []⟩ : AD)).length ≤ s.size by
              have h2 := HE4.out HFIN.out.1
              have h3 := tailB_1 c
              show (be2 (id % 65536) ++ tailB c []).length ≤ s.size
              rw [List.length_append]
              show 2 + _ ≤ _
              omega
              )
            go_wp2_with (first
              | (go_at_call 53; (with_reducible refine (HCE.out).mono ?_); rintro e w6 hp; obtain ⟨rfl, hi, hc⟩ := hp; have HI6 := Lib.hid hi; have HB6 := Lib.hid (hc.blk HB5.out HNB.out); have HX6 := Lib.hid (hc.blk HX5.out HNX.out); have HW6 := Lib.hid (HW5.out.trans (hc.to_below HW5.out.size (fun k hk => hk ▸ HG.out))); obtain ⟨c0, c1, c2, c3⟩ := qcell HB6.out; obtain ⟨r0, r1, r2, r3⟩ := qcell HX6.out; have f0 := blk_frozen HX6.out 0; have f1 := blk_frozen HX6.out 1; have f2 := blk_frozen HX6.out 2; have f3 := blk_frozen HX6.out 3; clear hi hc))
            have HF := Lib.hid (blk_put (blk_put (blk_put (blk_put HX6.out 0 (.int .i64 (k : Nat)) rfl) 1 (.int .u32 (id : Nat)) rfl) 2 (.int .u8 (c)) rfl) 3 (.slice none 0 0) rfl)
            have HBF := Lib.hid (bset (bset (bset (bset HW6.out w.heap.size 0 (.int .i64 (k : Nat)) (Nat.le_refl _)) w.heap.size 1 (.int .u32 (id : Nat)) (Nat.le_refl _)) w.heap.size 2 (.int .u8 (c)) (Nat.le_refl _)) w.heap.size 3 (.slice none 0 0) (Nat.le_refl _))
            generalize ((((w6.setCell ⟨w.heap.size, 0, none⟩ (.int .i64 (k : Nat))).setCell ⟨w.heap.size, 1, none⟩ (.int .u32 (id : Nat))).setCell ⟨w.heap.size, 2, none⟩ (.int .u8 (c))).setCell ⟨w.heap.size, 3, none⟩ (.slice none 0 0)) = WF at HF HBF ⊢
            obtain ⟨o0, o1, o2, o3⟩ := qcell HF.out
            exact bodyPost_ret (v := .tuple #[.agg #[.int .i64 (k : Nat), .int .u32 (id : Nat), .int .u8 (c), .slice none 0 0], .int .i64 0]) (by simp [results, Tryz.results38, go_sem, o0, o1, o2, o3]) rfl ⟨(⟨k, id, c, []⟩ : AD), none, 0, 0, rfl, HBF.out, fun _ => ⟨rfl, ⟨HK.out, by have := HID.out; show id ≤ 4294967295; omega, HC.out, lok_nil⟩, po_nil _, HLEN.out⟩⟩
          · have hne : (er != 0) = true := by simpa [bne_iff_ne] using her
            have HER := Lib.hid her
            clear her
            go_wp2_with (first
              | (go_at_call 53; (with_reducible refine (HCE.out).mono ?_); rintro e w6 hp; obtain ⟨rfl, hi, hc⟩ := hp; have HI6 := Lib.hid hi; have HB6 := Lib.hid (hc.blk HB5.out HNB.out); have HX6 := Lib.hid (hc.blk HX5.out HNX.out); have HW6 := Lib.hid (HW5.out.trans (hc.to_below HW5.out.size (fun k hk => hk ▸ HG.out))); obtain ⟨c0, c1, c2, c3⟩ := qcell HB6.out; obtain ⟨r0, r1, r2, r3⟩ := qcell HX6.out; have f0 := blk_frozen HX6.out 0; have f1 := blk_frozen HX6.out 1; have f2 := blk_frozen HX6.out 2; have f3 := blk_frozen HX6.out 3; clear hi hc))
            have HF := Lib.hid (blk_put (blk_put (blk_put (blk_put HX6.out 0 (.int .i64 0) rfl) 1 (.int .u32 0) rfl) 2 (.int .u8 0) rfl) 3 (.slice none 0 0) rfl)
            have HBF := Lib.hid (bset (bset (bset (bset HW6.out w.heap.size 0 (.int .i64 0) (Nat.le_refl _)) w.heap.size 1 (.int .u32 0) (Nat.le_refl _)) w.heap.size 2 (.int .u8 0) (Nat.le_refl _)) w.heap.size 3 (.slice none 0 0) (Nat.le_refl _))
            generalize ((((w6.setCell ⟨w.heap.size, 0, none⟩ (.int .i64 0)).setCell ⟨w.heap.size, 1, none⟩ (.int .u32 0)).setCell ⟨w.heap.size, 2, none⟩ (.int .u8 0)).setCell ⟨w.heap.size, 3, none⟩ (.slice none 0 0)) = WF at HF HBF ⊢
            obtain ⟨o0, o1, o2, o3⟩ := qcell HF.out
            exact bodyPost_ret (v := .tuple #[.agg #[.int .i64 0, .int .u32 0, .int .u8 0, .slice none 0 0], .int .i64 er]) (by simp [results, Tryz.results38, go_sem, o0, o1, o2, o3]) rfl ⟨(⟨0, 0, 0, []⟩ : AD), none, 0, er, rfl, HBF.out, fun h => absurd h HER.out⟩
    · have hqe : (e4 == 0) = false := beq_eq_false_iff_ne.2 he4
      have HEF := Lib.hid he4
      clear he4
      go_upto_region 9 with (first | (go_at_call 25; refine (err_same HI4.out).mono ?_; rintro e w49 ⟨rfl, rfl⟩))
      by_cases hz4 : 0 < s4.size
      · have HTK := Lib.hid (take0_calls HI4.out (show (e4 : Int) = 0 → s4.size ≤ 100000 from fun h => absurd h HEF.out) (k : Nat) false)
        go_upto_region 11 with (first
          | (go_at_call 27; refine (left_same HI4.out).mono ?_; rintro e w48 ⟨rfl, rfl⟩)
          | (go_at_call 51; (with_reducible refine (HTK.out).mono ?_); rintro e w5 hp; obtain ⟨v, L, s5, e5, rfl, hpo, hok, hi, hc, hE⟩ := hp; have fz5 := blk_frozen (hc.blk HB4.out HNB.out) 3; have cz5 := qcell (hc.blk HB4.out HNB.out); have HI5 := Lib.hid (hi.setc w2.heap.size 3 v (fun e => HNB.out e.symm)); have HB5 := Lib.hid (blk_put (hc.blk HB4.out HNB.out) 3 v rfl); have HX5 := Lib.hid (blk_sfar (hc.blk HX4.out HNX.out) 3 v HXB.out); have HW5 := Lib.hid (bset (HW4.out.trans (hc.to_below HW4.out.size (fun k hk => hk ▸ HG.out))) w2.heap.size 3 v HLB.out); have HEL := Lib.hid hE; have HOK := Lib.hid hok; have HO5 := Lib.hid (hpo.setc w2.heap.size 3 v (hc.blk HB4.out HNB.out) (by decide)); obtain ⟨A, cc, rfl, hcc, _⟩ := HO5.out.form; obtain ⟨c0, c1, c2, c3⟩ := cz5; clear hpo hok hE; clear hi hc))
        clear HI4 HX4 HW4 HB4 c0 c1 c2 c3 fz5
        generalize (w5.setCell ⟨w2.heap.size, 3, none⟩ (.slice A L.length cc)) = W5 at HI5 HX5 HW5 HB5 HO5 ⊢
        have HEND := Lib.hid (fun (h : endR s5 e5 = 0) => endR_0 h)
        have HCE := Lib.hid (end_in HI5.out)
        generalize endR s5 e5 = er at HEND HCE
        have her : er ≠ 0 := fun h => HEF.out (HEL.out (HEND.out h).1).1
        have hne : (er != 0) = true := by simpa [bne_iff_ne] using her
        have HER := Lib.hid her
        clear her
        go_wp2_with (first
          | (go_at_call 53; (with_reducible refine (HCE.out).mono ?_); rintro e w6 hp; obtain ⟨rfl, hi, hc⟩ := hp; have HI6 := Lib.hid hi; have HB6 := Lib.hid (hc.blk HB5.out HNB.out); have HX6 := Lib.hid (hc.blk HX5.out HNX.out); have HW6 := Lib.hid (HW5.out.trans (hc.to_below HW5.out.size (fun k hk => hk ▸ HG.out))); have HO6 := Lib.hid (HO5.out.rd HI5.out hc); obtain ⟨c0, c1, c2, c3⟩ := qcell HB6.out; obtain ⟨r0, r1, r2, r3⟩ := qcell HX6.out; have f0 := blk_frozen HX6.out 0; have f1 := blk_frozen HX6.out 1; have f2 := blk_frozen HX6.out 2; have f3 := blk_frozen HX6.out 3; clear hi hc))
        have HF := Lib.hid (blk_put (blk_put (blk_put (blk_put HX6.out 0 (.int .i64 0) rfl) 1 (.int .u32 0) rfl) 2 (.int .u8 0) rfl) 3 (.slice none 0 0) rfl)
        have HBF := Lib.hid (bset (bset (bset (bset HW6.out w.heap.size 0 (.int .i64 0) (Nat.le_refl _)) w.heap.size 1 (.int .u32 0) (Nat.le_refl _)) w.heap.size 2 (.int .u8 0) (Nat.le_refl _)) w.heap.size 3 (.slice none 0 0) (Nat.le_refl _))
        generalize ((((w6.setCell ⟨w.heap.size, 0, none⟩ (.int .i64 0)).setCell ⟨w.heap.size, 1, none⟩ (.int .u32 0)).setCell ⟨w.heap.size, 2, none⟩ (.int .u8 0)).setCell ⟨w.heap.size, 3, none⟩ (.slice none 0 0)) = WF at HF HBF ⊢
        obtain ⟨o0, o1, o2, o3⟩ := qcell HF.out
        exact bodyPost_ret (v := .tuple #[.agg #[.int .i64 0, .int .u32 0, .int .u8 0, .slice none 0 0], .int .i64 er]) (by simp [results, Tryz.results38, go_sem, o0, o1, o2, o3]) rfl ⟨(⟨0, 0, 0, []⟩ : AD), none, 0, er, rfl, HBF.out, fun h => absurd h HER.out⟩
      · go_upto_region 11 with (first | (go_at_call 27; refine (left_same HI4.out).mono ?_; rintro e w48 ⟨rfl, rfl⟩))
        have HEND := Lib.hid (fun (h : endR s4 e4 = 0) => endR_0 h)
        have HCE := Lib.hid (end_in HI4.out)
        generalize endR s4 e4 = er at HEND HCE
        have her : er ≠ 0 := fun h => HEF.out (HEND.out h).1
        have hne : (er != 0) = true := by simpa [bne_iff_ne] using her
        have HER := Lib.hid her
        clear her
        go_wp2_with (first
          | (go_at_call 53; (with_reducible refine (HCE.out).mono ?_); rintro e w5 hp; obtain ⟨rfl, hi, hc⟩ := hp; have HI5 := Lib.hid hi; have HB5 := Lib.hid (hc.blk HB4.out HNB.out); have HX5 := Lib.hid (hc.blk HX4.out HNX.out); have HW5 := Lib.hid (HW4.out.trans (hc.to_below HW4.out.size (fun k hk => hk ▸ HG.out))); obtain ⟨c0, c1, c2, c3⟩ := qcell HB5.out; obtain ⟨r0, r1, r2, r3⟩ := qcell HX5.out; have f0 := blk_frozen HX5.out 0; have f1 := blk_frozen HX5.out 1; have f2 := blk_frozen HX5.out 2; have f3 := blk_frozen HX5.out 3; clear hi hc))
        have HF := Lib.hid (blk_put (blk_put (blk_put (blk_put HX5.out 0 (.int .i64 0) rfl) 1 (.int .u32 0) rfl) 2 (.int .u8 0) rfl) 3 (.slice none 0 0) rfl)
        have HBF := Lib.hid (bset (bset (bset (bset HW5.out w.heap.size 0 (.int .i64 0) (Nat.le_refl _)) w.heap.size 1 (.int .u32 0) (Nat.le_refl _)) w.heap.size 2 (.int .u8 0) (Nat.le_refl _)) w.heap.size 3 (.slice none 0 0) (Nat.le_refl _))
        generalize ((((w5.setCell ⟨w.heap.size, 0, none⟩ (.int .i64 0)).setCell ⟨w.heap.size, 1, none⟩ (.int .u32 0)).setCell ⟨w.heap.size, 2, none⟩ (.int .u8 0)).setCell ⟨w.heap.size, 3, none⟩ (.slice none 0 0)) = WF at HF HBF ⊢
        obtain ⟨o0, o1, o2, o3⟩ := qcell HF.out
        exact bodyPost_ret (v := .tuple #[.agg #[.int .i64 0, .int .u32 0, .int .u8 0, .slice none 0 0], .int .i64 er]) (by simp [results, Tryz.results38, go_sem, o0, o1, o2, o3]) rfl ⟨(⟨0, 0, 0, []⟩ : AD), none, 0, er, rfl, HBF.out, fun h => absurd h HER.out⟩
  · go_upto_region 7 with (first
      | (go_at_call 27; refine (left_same HI3.out).mono ?_; rintro e w38 ⟨rfl, rfl⟩))
    by_cases he3 : e2 = 0
    · obtain rfl := he3
      obtain ⟨c0, c1, c2, c3⟩ := qcell HB3.out
      go_upto_if 37 with (first
        | (go_at_call 25; refine (err_same HI3.out).mono ?_; rintro e w39 ⟨rfl, rfl⟩)
        | (go_at_call 54; (with_reducible refine (may_calls k HK.out _ _).mono ?_); rintro e w4 hp; obtain ⟨mb, rfl, hb⟩ := hp; have HI4 := Lib.hid (HI3.out.below hb); have HB4 := Lib.hid (blk_below HB3.out hb); have HX4 := Lib.hid (blk_below HX3.out hb); have HW4 := Lib.hid (HW3.out.trans (hb.mono HW3.out.size)); clear hb))
      clear c0 c1 c2 c3
      cases mb with
      | false =>
        go_upto_region 9 with (first
          | (go_at_call 43; (with_reducible refine (fail_any HI4.out 2 (by decide)).mono ?_); rintro e w5 hp; obtain ⟨ef, rfl, hef, hi, hc⟩ := hp; have HI5 := Lib.hid hi; have HB5 := Lib.hid (hc.blk HB4.out HNB.out); have HX5 := Lib.hid (hc.blk HX4.out HNX.out); have HW5 := Lib.hid (HW4.out.trans (hc.to_below HW4.out.size (fun k hk => hk ▸ HG.out))); have HEF := Lib.hid hef; clear hef; clear hi hc))
        go_upto_region 11 with (first | (go_at_call 27; refine (left_same HI5.out).mono ?_; rintro e w58 ⟨rfl, rfl⟩))
        have HEND := Lib.hid (fun (h : endR s2 ef = 0) => endR_0 h)
        have HCE := Lib.hid (end_in HI5.out)
        generalize endR s2 ef = er at HEND HCE
        have her : er ≠ 0 := fun h => HEF.out (HEND.out h).1
        have hne : (er != 0) = true := by simpa [bne_iff_ne] using her
        have HER := Lib.hid her
        clear her
        go_wp2_with (first
          | (go_at_call 53; (with_reducible refine (HCE.out).mono ?_); rintro e w6 hp; obtain ⟨rfl, hi, hc⟩ := hp; have HI6 := Lib.hid hi; have HB6 := Lib.hid (hc.blk HB5.out HNB.out); have HX6 := Lib.hid (hc.blk HX5.out HNX.out); have HW6 := Lib.hid (HW5.out.trans (hc.to_below HW5.out.size (fun k hk => hk ▸ HG.out))); obtain ⟨c0, c1, c2, c3⟩ := qcell HB6.out; obtain ⟨r0, r1, r2, r3⟩ := qcell HX6.out; have f0 := blk_frozen HX6.out 0; have f1 := blk_frozen HX6.out 1; have f2 := blk_frozen HX6.out 2; have f3 := blk_frozen HX6.out 3; clear hi hc))
        have HF := Lib.hid (blk_put (blk_put (blk_put (blk_put HX6.out 0 (.int .i64 0) rfl) 1 (.int .u32 0) rfl) 2 (.int .u8 0) rfl) 3 (.slice none 0 0) rfl)
        have HBF := Lib.hid (bset (bset (bset (bset HW6.out w.heap.size 0 (.int .i64 0) (Nat.le_refl _)) w.heap.size 1 (.int .u32 0) (Nat.le_refl _)) w.heap.size 2 (.int .u8 0) (Nat.le_refl _)) w.heap.size 3 (.slice none 0 0) (Nat.le_refl _))
        generalize ((((w6.setCell ⟨w.heap.size, 0, none⟩ (.int .i64 0)).setCell ⟨w.heap.size, 1, none⟩ (.int .u32 0)).setCell ⟨w.heap.size, 2, none⟩ (.int .u8 0)).setCell ⟨w.heap.size, 3, none⟩ (.slice none 0 0)) = WF at HF HBF ⊢
        obtain ⟨o0, o1, o2, o3⟩ := qcell HF.out
        exact bodyPost_ret (v := .tuple #[.agg #[.int .i64 0, .int .u32 0, .int .u8 0, .slice none 0 0], .int .i64 er]) (by simp [results, Tryz.results38, go_sem, o0, o1, o2, o3]) rfl ⟨(⟨0, 0, 0, []⟩ : AD), none, 0, er, rfl, HBF.out, fun h => absurd h HER.out⟩
      | true =>
        go_upto_region 9 with (fail)
        go_upto_region 11 with (first | (go_at_call 27; refine (left_same HI4.out).mono ?_; rintro e w48 ⟨rfl, rfl⟩))
        have HEND := Lib.hid (fun (h : endR s2 0 = 0) => endR_0 h)
        have HCE := Lib.hid (end_in HI4.out)
        generalize endR s2 0 = er at HEND HCE
        by_cases her : er = 0
        · obtain rfl := her
          have HFIN := Lib.hid (HEND.out rfl)
          have HLEN := Lib.hid (show (AD.body (⟨k, id, 0, []⟩ : AD)).length ≤ s.size by
            have h2 := HE3.out HFIN.out.1
            show (be2 (id % 65536) ++ tailB 0 []).length ≤ s.size
            rw [List.length_append]
            show 2 + 0 ≤ _
            omega
            )
          go_wp2_with (first
            | (go_at_call 53; (with_reducible refine (HCE.out).mono ?_); rintro e w5 hp; obtain ⟨rfl, hi, hc⟩ := hp; have HI5 := Lib.hid hi; have HB5 := Lib.hid (hc.blk HB4.out HNB.out); have HX5 := Lib.hid (hc.blk HX4.out HNX.out); have HW5 := Lib.hid (HW4.out.trans (hc.to_below HW4.out.size (fun k hk => hk ▸ HG.out))); obtain ⟨c0, c1, c2, c3⟩ := qcell HB5.out; obtain ⟨r0, r1, r2, r3⟩ := qcell HX5.out; have f0 := blk_frozen HX5.out 0; have f1 := blk_frozen HX5.out 1; have f2 := blk_frozen HX5.out 2; have f3 := blk_frozen HX5.out 3; clear hi hc))
          have HF := Lib.hid (blk_put (blk_put (blk_put (blk_put HX5.out 0 (.int .i64 (k : Nat)) rfl) 1 (.int .u32 (id : Nat)) rfl) 2 (.int .u8 (0)) rfl) 3 (.slice none 0 0) rfl)
          have HBF := Lib.hid (bset (bset (bset (bset HW5.out w.heap.size 0 (.int .i64 (k : Nat)) (Nat.le_refl _)) w.heap.size 1 (.int .u32 (id : Nat)) (Nat.le_refl _)) w.heap.size 2 (.int .u8 (0)) (Nat.le_refl _)) w.heap.size 3 (.slice none 0 0) (Nat.le_refl _))
          generalize ((((w5.setCell ⟨w.heap.size, 0, none⟩ (.int .i64 (k : Nat))).setCell ⟨w.heap.size, 1, none⟩ (.int .u32 (id : Nat))).setCell ⟨w.heap.size, 2, none⟩ (.int .u8 (0))).setCell ⟨w.heap.size, 3, none⟩ (.slice none 0 0)) = WF at HF HBF ⊢
          obtain ⟨o0, o1, o2, o3⟩ := qcell HF.out
          exact bodyPost_ret (v := .tuple #[.agg #[.int .i64 (k : Nat), .int .u32 (id : Nat), .int .u8 (0), .slice none 0 0], .int .i64 0]) (by simp [results, Tryz.results38, go_sem, o0, o1, o2, o3]) rfl ⟨(⟨k, id, 0, []⟩ : AD), none, 0, 0, rfl, HBF.out, fun _ => ⟨rfl, ⟨HK.out, by have := HID.out; show id ≤ 4294967295; omega, by show 0 < 256; decide, lok_nil⟩, po_nil _, HLEN.out⟩⟩
        · have hne : (er != 0) = true := by simpa [bne_iff_ne] using her
          have HER := Lib.hid her
          clear her
          go_wp2_with (first
            | (go_at_call 53; (with_reducible refine (HCE.out).mono ?_); rintro e w5 hp; obtain ⟨rfl, hi, hc⟩ := hp; have HI5 := Lib.hid hi; have HB5 := Lib.hid (hc.blk HB4.out HNB.out); have HX5 := Lib.hid (hc.blk HX4.out HNX.out); have HW5 := Lib.hid (HW4.out.trans (hc.to_below HW4.out.size (fun k hk => hk ▸ HG.out))); obtain ⟨c0, c1, c2, c3⟩ := qcell HB5.out; obtain ⟨r0, r1, r2, r3⟩ := qcell HX5.out; have f0 := blk_frozen HX5.out 0; have f1 := blk_frozen HX5.out 1; have f2 := blk_frozen HX5.out 2; have f3 := blk_frozen HX5.out 3; clear hi hc))
          have HF := Lib.hid (blk_put (blk_put (blk_put (blk_put HX5.out 0 (.int .i64 0) rfl) 1 (.int .u32 0) rfl) 2 (.int .u8 0) rfl) 3 (.slice none 0 0) rfl)
          have HBF := Lib.hid (bset (bset (bset (bset HW5.out w.heap.size 0 (.int .i64 0) (Nat.le_refl _)) w.heap.size 1 (.int .u32 0) (Nat.le_refl _)) w.heap.size 2 (.int .u8 0) (Nat.le_refl _)) w.heap.size 3 (.slice none 0 0) (Nat.le_refl _))
          generalize ((((w5.setCell ⟨w.heap.size, 0, none⟩ (.int .i64 0)).setCell ⟨w.heap.size, 1, none⟩ (.int .u32 0)).setCell ⟨w.heap.size, 2, none⟩ (.int .u8 0)).setCell ⟨w.heap.size, 3, none⟩ (.slice none 0 0)) = WF at HF HBF ⊢
          obtain ⟨o0, o1, o2, o3⟩ := qcell HF.out
          exact bodyPost_ret (v := .tuple #[.agg #[.int .i64 0, .int .u32 0, .int .u8 0, .slice none 0 0], .int .i64 er]) (by simp [results, Tryz.results38, go_sem, o0, o1, o2, o3]) rfl ⟨(⟨0, 0, 0, []⟩ : AD), none, 0, er, rfl, HBF.out, fun h => absurd h HER.out⟩
    · have hqe : (e2 == 0) = false := beq_eq_false_iff_ne.2 he3
      have HEF := Lib.hid he3
      clear he3
      go_upto_region 9 with (first | (go_at_call 25; refine (err_same HI3.out).mono ?_; rintro e w39 ⟨rfl, rfl⟩))
      go_upto_region 11 with (first | (go_at_call 27; refine (left_same HI3.out).mono ?_; rintro e w38 ⟨rfl, rfl⟩))
      have HEND := Lib.hid (fun (h : endR s2 e2 = 0) => endR_0 h)
      have HCE := Lib.hid (end_in HI3.out)
      generalize endR s2 e2 = er at HEND HCE
      have her : er ≠ 0 := fun h => HEF.out (HEND.out h).1
      have hne : (er != 0) = true := by simpa [bne_iff_ne] using her
      have HER := Lib.hid her
      clear her
      go_wp2_with (first
        | (go_at_call 53; (with_reducible refine (HCE.out).mono ?_); rintro e w4 hp; obtain ⟨rfl, hi, hc⟩ := hp; have HI4 := Lib.hid hi; have HB4 := Lib.hid (hc.blk HB3.out HNB.out); have HX4 := Lib.hid (hc.blk HX3.out HNX.out); have HW4 := Lib.hid (HW3.out.trans (hc.to_below HW3.out.size (fun k hk => hk ▸ HG.out))); obtain ⟨c0, c1, c2, c3⟩ := qcell HB4.out; obtain ⟨r0, r1, r2, r3⟩ := qcell HX4.out; have f0 := blk_frozen HX4.out 0; have f1 := blk_frozen HX4.out 1; have f2 := blk_frozen HX4.out 2; have f3 := blk_frozen HX4.out 3; clear hi hc))
      have HF := Lib.hid (blk_put (blk_put (blk_put (blk_put HX4.out 0 (.int .i64 0) rfl) 1 (.int .u32 0) rfl) 2 (.int .u8 0) rfl) 3 (.slice none 0 0) rfl)
      have HBF := Lib.hid (bset (bset (bset (bset HW4.out w.heap.size 0 (.int .i64 0) (Nat.le_refl _)) w.heap.size 1 (.int .u32 0) (Nat.le_refl _)) w.heap.size 2 (.int .u8 0) (Nat.le_refl _)) w.heap.size 3 (.slice none 0 0) (Nat.le_refl _))
      generalize ((((w4.setCell ⟨w.heap.size, 0, none⟩ (.int .i64 0)).setCell ⟨w.heap.size, 1, none⟩ (.int .u32 0)).setCell ⟨w.heap.size, 2, none⟩ (.int .u8 0)).setCell ⟨w.heap.size, 3, none⟩ (.slice none 0 0)) = WF at HF HBF ⊢
      obtain ⟨o0, o1, o2, o3⟩ := qcell HF.out
      exact bodyPost_ret (v := .tuple #[.agg #[.int .i64 0, .int .u32 0, .int .u8 0, .slice none 0 0], .int .i64 er]) (by simp [results, Tryz.results38, go_sem, o0, o1, o2, o3]) rfl ⟨(⟨0, 0, 0, []⟩ : AD), none, 0, er, rfl, HBF.out, fun h => absurd h HER.out⟩
end Go.Proofs.YtljbchghbpmghaaGreatDoor
