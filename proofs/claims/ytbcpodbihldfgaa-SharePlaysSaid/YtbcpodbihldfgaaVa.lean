/- The contract of the reference's Choose, where numbers wait. -/
import Derived.Test.YtbcpodbihldfgaaV
namespace Go.Proofs.Ytbcpodbihldfgaa
open Go.RowKit Go.Maps Go.Proofs.YtbcpodbihldfgaaW.PrintWords Go.Proofs.Ytbcpodbihldfgaa.PSharePlays
set_option linter.unusedVariables false

theorem far_cell {w w4 : World} {a : Addr} {v : Value} {b2 : Nat} (hb : Below w.heap.size w w4) (hx : w.cell? a = some v) (h : w.heap.size ≤ b2) (u : Value) : (w4.setCell ⟨b2, 1, none⟩ u).cell? a = some v := by
  have h1 := World.block_lt_of_cell? w _ hx
  refine (World.cell?_setCell_other _ _ _ _ (fun e => ?_)).trans ((hb.cell h1).trans hx)
  rw [← e] at h1
  simp only at h1
  omega

set_option maxHeartbeats 4000000 in
theorem rchoose_cons {w : World} {A1 A2 A3 : Option Addr} {c1 c2 c3 : Nat} {wait : List Int} {L : List S64} {T : List S57} (g : ByteArray) (hw : Kd.C (Kd.int .i64) w A1 wait.length wait) (hwc : wait.length ≤ c1) (hL : Kd.C k64 w A2 L.length L) (hLc : L.length ≤ c2) (hLl : L.length ≤ 1000)
    (hT : Kd.C k57 w A3 T.length T) (hc3 : T.length ≤ c3) (hl : T.length ≤ 1000) (hq0 : 0 ≤ askedL L g) (hq1 : askedL L g ≤ 1000000) (h0 : 0 < T.length) {x : Int} {r : List Int} (hwn : wait = x :: r) :
    Calls Try.prog 16 #[.agg #[.slice A1 wait.length c1, .slice A2 L.length c2], .string g, .slice A3 T.length c3] w (RSome w A1 c1 wait L g T) := by
  have hwl2 : 0 < wait.length := by rw [hwn]; simp
  obtain ⟨ad1, rfl, hx0⟩ := int_at hw 0 hwl2
  have hu47 := Try.underlying47
  obtain ⟨k, hk⟩ : ∃ k, (amongL T).length = k := ⟨_, rfl⟩
  obtain ⟨q, hq⟩ : ∃ q, askedL L g = q := ⟨_, rfl⟩
  have hk0 : 0 < k := by rw [← hk]; exact among_pos T h0
  have hk1 : k ≤ 1000 := by have := among_len T; omega
  have hfl : (forgetL L g).length ≤ 1000 := by have := forget_le L g L.length; rw [List.take_length] at this; omega
  rw [hq] at hq0 hq1
  have e0 : ((k : Int) == 0) = false := by rw [beq_eq_false_iff_ne]; omega
  have hwl : (0 : Int) < (wait.length : Int) := by omega
  obtain ⟨i0, hi0, hz0⟩ := Option.map_eq_some_iff.1 info3
  simp only [Prod.mk.injEq] at hz0
  have hcut := cut_from (P := Try.prog) 23 3 .i64 Try.underlying23 hi0 1 hz0.2.1 (some ad1) wait.length c1 1 (by omega) (by omega)
  obtain ⟨vr, hvr⟩ : ∃ vr, vr = (if c1 = (1 : Int).toNat then some ad1 else (some ad1).map (·.add ((1 : Int).toNat * 1))) := ⟨_, rfl⟩
  rw [← hvr] at hcut
  have hcut' : ∀ W : World, (Instr.slice 23 (.slice (some ad1) wait.length c1) (some (.int .i64 1)) none none).run Try.prog W = .ok (.slice vr (wait.length - 1) (c1 - 1)) W := by
    intro W
    have := hcut W
    simpa using this
  have HV := Lib.hid hvr
  have hx0' : w.cell? ad1 = some (.int .i64 x) := by
    have := hx0
    rw [hwn] at this
    simpa [Addr.add] using this
  have HX := Lib.hid hx0'
  clear hi0 hz0 hcut hvr hx0 hx0'
  have HQ := Lib.hid hq
  have HK := Lib.hid hk
  have hT' := Lib.hid hT
  have hL' := Lib.hid hL
  have hw' := Lib.hid hw
  have hwn' := Lib.hid hwn
  clear hT hL hw hq hk h0 hwn
  go_enter Try.func16, Try.ntmps16
  go_wp2_with (first
    | (go_at_call 22; obtain ⟨W, b0, b1, hW, h1, h0, k0, k1, hbW, hne, hge, hge1⟩ := two_boxes w #[.slice (some ad1) wait.length c1, .slice A2 L.length c2] #[.slice none 0 0, .slice none 0 0]; rw [hW, h1, h0]; refine (among_calls (Kd.C_below hT'.out hbW) hc3 hl).mono ?_; rintro e w1 ⟨v, rfl, hh⟩; obtain ⟨A4, c4, rfl, hc4⟩ := OwnRow.slice_ hh.out.1.2; rw [HK.out]; have J0 := Lib.hid (blk_below k0 hh.out.2); have J1 := Lib.hid (blk_below k1 hh.out.2); have x0 : w1.cell? ⟨b0, 0, none⟩ = some (.slice (some ad1) wait.length c1) := (blk_cell J0.out 0).trans rfl; have x1 : w1.cell? ⟨b0, 1, none⟩ = some (.slice A2 L.length c2) := (blk_cell J0.out 1).trans rfl; have HP := Lib.hid (Kd.R_lower hh.out.1 hbW.size); have HB := Lib.hid (hbW.trans (hh.out.2.mono hbW.size)); have hne1 := Ne.symm hne; clear hW h1 h0 k0 k1 hbW hc4 hh)
    | (go_at_call 19; refine (asked_calls (V := undef) g (Kd.C_below hL'.out HB.out) hLl).mono ?_; rintro e w2 ⟨rfl, hb2⟩; rw [HQ.out]; have J0b := Lib.hid (blk_below J0.out hb2); have J1b := Lib.hid (blk_below J1.out hb2); have x0b : w2.cell? ⟨b0, 0, none⟩ = some (.slice (some ad1) wait.length c1) := (blk_cell J0b.out 0).trans rfl; have x1b : w2.cell? ⟨b0, 1, none⟩ = some (.slice A2 L.length c2) := (blk_cell J0b.out 1).trans rfl; have HPb := Lib.hid (Kd.R_below HP.out hb2); have HBb := Lib.hid (HB.out.trans (hb2.mono HB.out.size)); clear J0 J1 x0 x1 HP HB hb2)
    | (go_at_call 18; refine (rforget_calls g (Kd.C_below hL'.out HBb.out) hLl).mono ?_; rintro e w3 ⟨v5, rfl, hR, hb3⟩; obtain ⟨A5, c5, rfl, hc5⟩ := OwnRow.slice_ hR.2; have HR := Lib.hid (Kd.R_lower hR HBb.out.size); have J0c := Lib.hid (blk_below J0b.out hb3); have J1c := Lib.hid (blk_below J1b.out hb3); have HPc := Lib.hid (Kd.R_below HPb.out hb3); have HBc := Lib.hid (HBb.out.trans (hb3.mono HBb.out.size)); clear J0b J1b x0b x1b HPb HBb hb3 hR hc5)
    | (at_builtin; refine Kd.R_append k64 (w0 := w) w.heap.size rfl (.tmp 27) (.tmp 32) 45 64 (.agg #[(.string ⟨#[]⟩), (.int .i64 0)]) 24 rfl Try.underlying45 info64 rfl (by decide) (by omega) (.slice A5 (forgetL L g).length c5) (forgetL L g) ⟨g, q + 1⟩ [.string g, .int .i64 (q + 1)] (fun _ => True) (fun _ => False) rfl (by first | (go_simp; done) | (go_simp; rfl)) ?aP (fun _ hk => hk.elim) ?aF ?aO ?aB ?aS ?aL ?_; (case aP => exact k64_mk2 _ _ _ _ _); (case aF => exact fun _ _ => trivial); (case aO => exact Kd.R_alloc HR.out _); (case aB => exact HBc.out.alloc HBc.out.size _); (case aS => have := HBc.out.size; simp; omega); (case aL => omega); intro v6 w4 hq1 hb1' hgr1 hat1; obtain ⟨b2, hb2⟩ : ∃ b2, w3.heap.size = b2 := ⟨_, rfl⟩; obtain ⟨A6, c6, hv6, hc6⟩ := OwnRow.slice_ hq1.2; subst hv6; have hst := Lib.hid (rc_step HR.out J0c.out J1c.out HPc.out HBc.out hb2 hgr1 (by decide)); rw [hb2]; have x0d : w4.cell? ⟨b0, 0, none⟩ = some (.slice (some ad1) wait.length c1) := (blk_cell hst.out.1 0).trans rfl; have z0 : w4.cell? ⟨b2, 0, none⟩ = some (.slice (some ad1) wait.length c1) := (blk_cell hst.out.2.2.1 0).trans rfl; have z1 : w4.cell? ⟨b2, 1, none⟩ = some (.slice A5 (forgetL L g).length c5) := (blk_cell hst.out.2.2.1 1).trans rfl; have g0 : w4.frozen? ⟨b2, 0, none⟩ = false := blk_frozen hst.out.2.2.1 0; have g1 : w4.frozen? ⟨b2, 1, none⟩ = false := blk_frozen hst.out.2.2.1 1; have cx := far_cell hb1' HX.out hst.out.2.2.2.1 (.slice A6 ((forgetL L g).length + 1) c6); have hn1 := hst.out.2.2.2.2.1; have hn2 := hst.out.2.2.2.2.2.1; have HRd := Lib.hid hq1; have HBd := Lib.hid hb1'; clear HR J0c J1c HPc HBc hb2 hq1 hb1' hgr1 hat1 hc6))
  have hb2 := hst.out.2.2.2.1
  have hs4 : w4.heap[b1]? = some (.cells #[.slice none 0 0, .slice none 0 0] 47 (0, 0)) := hst.out.2.1
  have hne5 : ∀ k : Nat, (True ∧ w.heap.size ≤ k ∧ k < w4.heap.size ∧ ∃ q, q ∈ 3 :: (Kd.int .i64).E ∧ ∃ cells, w4.heap[k]? = some (.cells cells q (0, 0))) → k ≠ b2 := by
    rintro k ⟨_, _, _, q, hq, cells, hc⟩ e
    rw [e, hst.out.2.2.1] at hc
    injection hc with hc
    injection hc with _ hc
    revert hq
    rw [← hc]
    decide
  have hR5 := Kd.R_far (p := ⟨b2, 0, none⟩) (Kd.R_far (p := ⟨b2, 1, none⟩) (Kd.R_bound hst.out.2.2.2.2.2.2) hne5 (.slice A6 ((forgetL L g).length + 1) c6)) hne5 (.slice vr (wait.length - 1) (c1 - 1))
  have hB5 : Below w.heap.size w ((w4.setCell ⟨b2, 1, none⟩ (.slice A6 ((forgetL L g).length + 1) c6)).setCell ⟨b2, 0, none⟩ (.slice vr (wait.length - 1) (c1 - 1))) := (HBd.out.setCell hb2 _).setCell hb2 _
  obtain ⟨ad4, ad3, j, pn, rfl, rfl, ej, hjk, hpl, hc4, hc3'⟩ := rc_reads (d := x) HK.out hk0 (by have := hR5; rw [HK.out] at this; exact this) (Kd.C_below hT'.out hB5)
  have hpk := Lib.hid hst.out.2.2.1
  have hb4 := (blk_set hpk.out 1 (.slice A6 ((forgetL L g).length + 1) c6)).trans rfl
  have hb5 := (blk_set hb4 0 (.slice vr (wait.length - 1) (c1 - 1))).trans rfl
  have hb14 := (Below.heap_setCell w4 ⟨b2, 1, none⟩ (.slice A6 ((forgetL L g).length + 1) c6) b1 hn2).trans hs4
  have hb15 := (Below.heap_setCell _ ⟨b2, 0, none⟩ (.slice vr (wait.length - 1) (c1 - 1)) b1 hn2).trans hb14
  have hR6 := Lib.hid (Kd.R_set (Kd.R_set HRd.out hpk.out (by decide) 1 (.slice A6 ((forgetL L g).length + 1) c6)) hb4 (by decide) 0 (.slice vr (wait.length - 1) (c1 - 1)))
  obtain ⟨w5, hw5⟩ : ∃ w5, (w4.setCell ⟨b2, 1, none⟩ (.slice A6 ((forgetL L g).length + 1) c6)).setCell ⟨b2, 0, none⟩ (.slice vr (wait.length - 1) (c1 - 1)) = w5 := ⟨_, rfl⟩
  rw [hw5] at hB5 hc4 hc3' hb5 hb15 hR6 ⊢
  have z0' : w5.cell? ⟨b2, 0, none⟩ = some (.slice vr (wait.length - 1) (c1 - 1)) := (blk_cell hb5 0).trans rfl
  have z1' : w5.cell? ⟨b2, 1, none⟩ = some (.slice A6 ((forgetL L g).length + 1) c6) := (blk_cell hb5 1).trans rfl
  have y0 : w5.cell? ⟨b1, 0, none⟩ = some (.slice none 0 0) := (blk_cell hb15 0).trans rfl
  have y1 : w5.cell? ⟨b1, 1, none⟩ = some (.slice none 0 0) := (blk_cell hb15 1).trans rfl
  have f1 : w5.frozen? ⟨b1, 0, none⟩ = false := blk_frozen hb15 0
  have f2 : w5.frozen? ⟨b1, 1, none⟩ = false := blk_frozen hb15 1
  have htm := tmod_bd x k hk0
  have t1 : -1000 ≤ x.tmod (k : Int) := by omega
  have t2 : x.tmod (k : Int) ≤ 1000 := by omega
  have t3 : 0 ≤ x.tmod (k : Int) + (k : Int) := by omega
  have t4 := htm.1
  have t5 := htm.2
  have t6 : (pn : Int) < (T.length : Int) := by omega
  have t7 : (j : Int) < (k : Int) := by omega
  have t8 : (0 : Int) ≤ (pn : Int) := by omega
  have t9 : (0 : Int) ≤ (j : Int) := by omega
  have HB5 := Lib.hid hB5
  have hb15' := Lib.hid hb15
  have k00 : ¬ k = 0 := by omega
  have k01 : ¬ (k : Int) = 0 := by omega
  have ej' : (x.tmod (k : Int) + (k : Int)).tmod (k : Int) = (j : Int) := by rw [Int.tmod_eq_emod_of_nonneg t3]; exact ej
  have w1' := IntWalk.i64_in (x.tmod (k : Int)) (by omega)
  have w2' := IntWalk.i64_in (x.tmod (k : Int) + (k : Int)) (by omega)
  have w3' := IntWalk.i64_in (j : Int) (by omega)
  clear hR5 hb5 hb15 hb4 hb14 hne5 hw5 htm hB5 hst hs4 HRd HBd hpk z0 z1 g0 g1 x0d cx
  have a0 : ad4.add j ≠ ⟨b1, 0, none⟩ := fun e => by rw [e, y0] at hc4; cases hc4
  have a1 : ad4.add j ≠ ⟨b1, 1, none⟩ := fun e => by rw [e, y1] at hc4; cases hc4
  have a2 : ad3.add (pn * 2) ≠ ⟨b1, 0, none⟩ := fun e => by rw [e, y0] at hc3'; cases hc3'
  have a3 : ad3.add (pn * 2) ≠ ⟨b1, 1, none⟩ := fun e => by rw [e, y1] at hc3'; cases hc3'
  have u4 : ((w5.setCell ⟨b1, 0, none⟩ (.slice vr (wait.length - 1) (c1 - 1))).setCell ⟨b1, 1, none⟩ (.slice A6 ((forgetL L g).length + 1) c6)).cell? (ad4.add j) = some (.int .i64 (pn : Int)) := (World.cell?_setCell_other _ _ _ _ (Ne.symm a1)).trans ((World.cell?_setCell_other _ _ _ _ (Ne.symm a0)).trans hc4)
  have u3 : ((w5.setCell ⟨b1, 0, none⟩ (.slice vr (wait.length - 1) (c1 - 1))).setCell ⟨b1, 1, none⟩ (.slice A6 ((forgetL L g).length + 1) c6)).cell? (ad3.add (pn * 2)) = some (.string (rPick T x)) := (World.cell?_setCell_other _ _ _ _ (Ne.symm a3)).trans ((World.cell?_setCell_other _ _ _ _ (Ne.symm a2)).trans hc3')
  have u0 : ((w5.setCell ⟨b1, 0, none⟩ (.slice vr (wait.length - 1) (c1 - 1))).setCell ⟨b1, 1, none⟩ (.slice A6 ((forgetL L g).length + 1) c6)).cell? ⟨b2, 0, none⟩ = some (.slice vr (wait.length - 1) (c1 - 1)) := (World.cell?_setCell_other _ _ _ _ (fun e => hn2 (by injection e))).trans ((World.cell?_setCell_other _ _ _ _ (fun e => hn2 (by injection e))).trans z0')
  have u1 : ((w5.setCell ⟨b1, 0, none⟩ (.slice vr (wait.length - 1) (c1 - 1))).setCell ⟨b1, 1, none⟩ (.slice A6 ((forgetL L g).length + 1) c6)).cell? ⟨b2, 1, none⟩ = some (.slice A6 ((forgetL L g).length + 1) c6) := (World.cell?_setCell_other _ _ _ _ (fun e => hn2 (by injection e))).trans ((World.cell?_setCell_other _ _ _ _ (fun e => hn2 (by injection e))).trans z1')
  have U4 := Lib.hid u4
  have U3 := Lib.hid u3
  have U0 := Lib.hid u0
  have U1 := Lib.hid u1
  clear u4 u3 u0 u1 a0 a1 a2 a3
  go_region_held3 (fun w' => w'.cell? ⟨b2, 0, none⟩ = some (.slice vr (wait.length - 1) (c1 - 1)) ∧ w'.cell? ⟨b2, 1, none⟩ = some (.slice A6 ((forgetL L g).length + 1) c6) ∧ w'.cell? (ad4.add j) = some (.int .i64 (pn : Int)) ∧ w'.cell? (ad3.add (pn * 2)) = some (.string (rPick T x))) (first | exact ⟨U0.out, U1.out, U4.out, U3.out⟩ | go_keep) (fail)
  go_wp2
  refine bodyPost_ret (v := .tuple #[.agg #[(.slice vr (wait.length - 1) (c1 - 1)), (.slice A6 ((forgetL L g).length + 1) c6)], .string (rPick T x), .bool true]) (by simp [results, Try.results16, go_sem, y0, y1]) rfl ⟨(.slice vr (wait.length - 1) (c1 - 1)), (.slice A6 ((forgetL L g).length + 1) c6), ?_, ⟨⟨vr, c1 - 1, ?_, ?_, ?_⟩, ?_, ?_⟩⟩
  · rw [HQ.out, hwn'.out]; rfl
  · rw [hwn'.out]; rfl
  · rw [hwn'.out] at hwc ⊢; simp at hwc ⊢; omega
  · intro W h
    have := Kd.C_drop (m := 1) (c := c1) h (by omega) hwc
    rw [HV.out, hwn'.out]
    rw [hwn'.out] at this
    exact this
  · have r1 := Kd.R_set hR6.out hb15'.out (by decide) 0 (.slice vr (wait.length - 1) (c1 - 1))
    have r2 := Kd.R_set r1 ((blk_set hb15'.out 0 (.slice vr (wait.length - 1) (c1 - 1))).trans rfl) (by decide) 1 (.slice A6 ((forgetL L g).length + 1) c6)
    rw [HQ.out]
    have e1 : (forgetL L g ++ [(⟨g, q + 1⟩ : S64)]).length = (forgetL L g).length + 1 := by simp
    rw [e1] at r2
    exact Kd.R_drew r2
  · exact ((HB5.out.setCell hge1 _).setCell hge1 _).drew
end Go.Proofs.Ytbcpodbihldfgaa
