/- SharePlays: any calls do what they should: the walk. -/
import Derived.Test.YtbcpodbihldfgaaYb
import Derived.Test.YtbcpodbihldfgaaJb
import Derived.Test.YtbcpodbihldfgaaZ
namespace Go.Proofs.Ytbcpodbihldfgaa
open Go.RowKit Go.Maps Go.Proofs.YtbcpodbihldfgaaW.PrintWords Go.Proofs.Ytbcpodbihldfgaa.PSharePlays
set_option linter.unusedVariables false

theorem kept_cell1 {w w4 : World} {bx : Nat} {a b : Int} {s : ByteArray} {v : Value} {S : Nat → Prop} (h : w.heap[bx]? = some (.cells #[.int .i64 a, .int .i64 b, .string s, v] 49 (0, 0))) (hk : Kept w w4 (fun k => S k ∧ k < bx)) : w4.cell? ⟨bx, 1, none⟩ = some (.int .i64 b) :=
  (blk_cell ((hk.2 bx (blk_lt h) (fun hk => by have := hk.2; omega)).trans h) 1).trans rfl
theorem two_box8 (w8 : World) (a b : Value) {xb : Nat} {u v : Value} (h : w8.heap[xb]? = some (.cells #[u, v] 47 (0, 0))) :
    ∃ w9, w8.alloc (.cells #[a, b] 47) = w9 ∧ w9.cell? ⟨w8.heap.size, 0, none⟩ = some a ∧ w9.cell? ⟨w8.heap.size, 1, none⟩ = some b ∧ w9.cell? ⟨xb, 0, none⟩ = some u ∧ w9.cell? ⟨xb, 1, none⟩ = some v ∧ w9.frozen? ⟨xb, 0, none⟩ = false ∧ w9.frozen? ⟨xb, 1, none⟩ = false ∧ Hid (Below w8.heap.size w8 w9) := by
  have hb := below_alloc (Below.refl w8.heap.size w8) (.cells #[a, b] 47)
  have e := heap_alloc_new w8 (.cells #[a, b] 47)
  have h9 := blk_below h hb
  exact ⟨_, rfl, (blk_cell e 0).trans rfl, (blk_cell e 1).trans rfl, (blk_cell h9 0).trans rfl, (blk_cell h9 1).trans rfl, blk_frozen h9 0, blk_frozen h9 1, Lib.hid hb⟩

set_option maxHeartbeats 8000000 in
set_option maxRecDepth 100000 in
theorem plays_walk (w : World) (A : Option Addr) (cp : Nat) (acts : List SAct) (hr : Kd.C kA w A acts.length acts) (hs : ∀ a ∈ acts, actOk a) (hcp : acts.length ≤ cp) (hz : acts.length ≤ 1000000000000000) :
    Calls Try.prog 7 #[.slice A acts.length cp] w fun e w' => e = .returned (.bool true) ∧ Below w.heap.size w w' := by
  have hu47 := Try.underlying47
  have hu49 := Try.underlying49
  have HA := Lib.hid hr
  have HS := Lib.hid hs
  have hnew := Lib.hid (new_calls (w0 := w) (w := w) (Nat.le_refl _))
  clear hr hs
  go_enter Try.func7, Try.ntmps7
  go_wp2_with (first
    | (go_at_call 10; refine hnew.out.mono ?_; rintro e w1 ⟨g, rfl, hp, hb⟩; have HI := Lib.hid (px_init hp hb); obtain ⟨xb, hxb⟩ : ∃ xb, w1.heap.size = xb := ⟨_, rfl⟩; rw [hxb] at HI; clear hp hb hnew)
    | (go_at_call 9; refine (awake_calls _).mono ?_; rintro e w2 ⟨rfl, hb⟩; have H0 := Lib.hid (HI.out.to hb); clear hb HI hxb))
  go_loopw [5] (fun i wr => ∃ i' : Nat, i' ≤ acts.length ∧ i' ≤ 90 ∧ i = .int .i64 i' ∧ Hid (PLRel w wr g xb i')) (fun i _ => acts.length - (intOf i).toNat)
  case atStart => exact ⟨0, Nat.zero_le _, by omega, rfl, _, _, _, _, H0.out, by simp, by simp, by simp⟩
  case round =>
    clear H0
    obtain ⟨i, hi, hi90, rfl, HP⟩ := hrel
    by_cases hlt : i < acts.length ∧ i < 90
    · obtain ⟨hlt, hlt90⟩ := hlt
      obtain ⟨ad, a, B, c, rfl, ha, q0, q1, q2, q3, hM, hMc⟩ := act_at HA.out i hlt
      obtain ⟨S, n, wait, L, hpx, hw64, hLi, hni⟩ := HP.out
      have hsz : a.grp.size ≤ maxLen ∧ ∀ m ∈ a.l, m.f0.size ≤ maxLen := HS.out a (List.mem_of_getElem? ha)
      replace q0 := (hpx.below.cell (World.block_lt_of_cell? w _ q0)).trans q0
      replace q1 := (hpx.below.cell (World.block_lt_of_cell? w _ q1)).trans q1
      replace q2 := (hpx.below.cell (World.block_lt_of_cell? w _ q2)).trans q2
      replace q3 := (hpx.below.cell (World.block_lt_of_cell? w _ q3)).trans q3
      obtain ⟨kind, num, grp, M⟩ := a
      simp only at q0 q1 q2 q3 hM hMc hsz
      have HM := Lib.hid hM
      have HX := Lib.hid hpx
      have hcut := Lib.hid (fun W => cut_calls grp W hsz.1)
      have hsm := Lib.hid hsz.2
      clear hM hpx ha hsz HP
      obtain ⟨grp', hgrp⟩ : ∃ g', cut10 grp = g' := ⟨_, rfl⟩
      have hgl : grp'.size ≤ 10 := by rw [← hgrp]; exact cut10_len grp
      rw [hgrp] at hcut
      clear hgrp
      go_upto_block 2 with (go_at_call 15; refine (hcut.out _).mono ?_; rintro e w3 ⟨rfl, rfl⟩)
      clear hcut
      have hb5 := Lib.hid (below_alloc (Below.refl wr.heap.size wr) (.cells #[.int .i64 kind, .int .i64 num, .string grp, .slice B M.length c] 49))
      have yk := box_c (wr := wr) (a := kind) (b := num) (s := grp) (v := .slice B M.length c)
      have HX5 := Lib.hid (HX.out.to hb5.out)
      have HM5 := Lib.hid (Kd.C_below (Kd.C_below HM.out HX.out.below) hb5.out)
      clear q0 q1 q2 q3 hb5
      obtain ⟨W5, hW5⟩ : ∃ W5, wr.alloc (.cells #[.int .i64 kind, .int .i64 num, .string grp, .slice B M.length c] 49) = W5 := ⟨_, rfl⟩
      rw [hW5] at HX5 HM5 yk ⊢
      clear hW5
      generalize wr.heap.size = bx at yk HX5 ⊢
      go_cut [] (fun wx => Hid (∃ S n wait L, PX w wx g xb n S wait (GL L) wait L ∧ wait.length ≤ 64 ∧ L.length ≤ i + 1 ∧ n ≤ i + 1))
      case first =>
        clear HM HX HA HS
        have hgm : grp'.size ≤ maxLen := by unfold maxLen; omega
        obtain ⟨y0, y1, y3⟩ := box_facts yk.out
        by_cases k1 : kind = 1
        · subst k1
          have hpu := HX5.out.push hw64 num
          by_cases h64 : wait.length = 64
          · rw [if_pos h64, if_pos h64] at hpu
            have hpu' := Lib.hid hpu
            have e64 : ((wait.length : Int) == 64) = true := beq_iff_eq.2 (by omega)
            have e64' : (wait.length == 64) = true := beq_iff_eq.2 h64
            clear hpu h64 hw64
            go_wp2_with (first
              | (go_at_call 11; refine hpu'.out.mono ?_; rintro e w4 ⟨rfl, h4⟩; have H4 := Lib.hid h4.out.1; obtain ⟨Bw, dw, Bl, dl, hblk, hdw, hdl, hCw, hCl, hkeep⟩ := H4.out.cells; have x0 : w4.cell? ⟨xb, 0, none⟩ = some (.slice Bw wait.length dw) := (blk_cell hblk 0).trans rfl; clear hblk hCw hCl hkeep hpu' h4))
            go_meet
            case rel => exact Lib.hid ⟨_, _, _, _, H4.out, by simpa using Nat.le_of_eq (beq_iff_eq.1 e64'), by omega, by omega⟩
          · rw [if_neg h64, if_neg h64] at hpu
            have hpu' := Lib.hid hpu
            have hw63 : wait.length ≤ 63 := by omega
            have e64 : ((wait.length : Int) == 64) = false := beq_eq_false_iff_ne.2 (by omega)
            have e64' : (wait.length == 64) = false := beq_eq_false_iff_ne.2 h64
            clear hpu h64
            go_upto_region 16 with (first
              | (go_at_call 11; refine hpu'.out.mono ?_; rintro e w4 ⟨rfl, h4⟩; have y1 := kept_cell1 yk.out h4.out.2; have H4 := Lib.hid (h4.out.1.to (Below.refl _ _)); obtain ⟨Bw, dw, Bl, dl, hblk, hdw, hdl, hCw, hCl, hkeep⟩ := H4.out.cells; have HBK := Lib.hid hblk; have HCW := Lib.hid hCw; have x0 : w4.cell? ⟨xb, 0, none⟩ = some (.slice Bw wait.length dw) := (blk_cell hblk 0).trans rfl; clear hblk hCw hCl hkeep hpu' h4))
            have hbd : (([] : List Int).length + wait.length) * 8 ≤ 140737488355328 := by simp; omega
            have hbd2 : (([] ++ wait : List Int).length + 1) * 8 ≤ 140737488355328 := by simp; omega
            have hy1 := Lib.hid y1
            have z1 : (w4.alloc (.cells #[] 3)).cell? ⟨xb, 0, none⟩ = some (.slice Bw wait.length dw) := al_cell x0 _
            have z2 : (w4.alloc (.cells #[.int .i64 num] 3)).cell? ⟨xb, 0, none⟩ = some (.slice Bw wait.length dw) := al_cell x0 _
            have z3 : ((w4.alloc (.cells #[] 3)).alloc (.cells #[.int .i64 num] 3)).cell? ⟨xb, 0, none⟩ = some (.slice Bw wait.length dw) := al_cell z1 _
            have z4 : ((w4.alloc (.cells #[.int .i64 num] 3)).alloc (.cells #[] 3)).cell? ⟨xb, 0, none⟩ = some (.slice Bw wait.length dw) := al_cell z2 _
            have z5 : (w4.alloc (.cells #[] 3)).cell? ⟨bx, 1, none⟩ = some (.int .i64 num) := al_cell y1 _
            go_region_law (first | (refine Kd.R_append_rows_step (Kd.int .i64) (w0 := w4) w4.heap.size rfl (.tmp 66) (.tmp 68) 23 3 (.int .i64 0) 8 rfl Try.underlying23 info3' rfl (by decide) (by omega) _ [] wait Bw wait.length dw (fun _ => True) (fun _ => False) rfl rfl (Kd.R_drew (e_row rfl (Nat.le_refl _))) (Kd.C_below HCW.out (by repeat (first | exact Below.refl _ _ | apply below_drew1 | apply pw_below_drewN | apply below_alloc))) (fun _ _ h => h) (fun _ h => h.elim) (fun _ _ => trivial) (by repeat (first | exact Below.refl _ _ | apply below_drew1 | apply pw_below_drewN | apply below_alloc)) (below_size (by repeat (first | exact Below.refl _ _ | apply below_drew1 | apply pw_below_drewN | apply below_alloc))) hbd ?_; intro v69 w69 hq69 hb69 hgr69 hat69; skip; have HQ := Lib.hid hq69; have x69 := S16 HBK.out hb69 hy1; have y69 := x69.2; have x69a := x69.1; clear x69; have HB69 := Lib.hid hb69; clear hq69 hb69 hgr69 hat69) | (refine Kd.R_append_rows_step (Kd.int .i64) (w0 := w4) w4.heap.size rfl (.tmp 66) (.tmp 68) 23 3 (.int .i64 0) 8 rfl Try.underlying23 info3' rfl (by decide) (by omega) (.slice (some ⟨w4.heap.size, 0, none⟩) 0 0) [] wait Bw wait.length dw (fun _ => True) (fun _ => False) rfl rfl (Kd.R_drew (Kd.R_alloc (e_row rfl (Nat.le_refl _)) _)) (Kd.C_below HCW.out (by repeat (first | exact Below.refl _ _ | apply below_drew1 | apply pw_below_drewN | apply below_alloc))) (fun _ _ h => h) (fun _ h => h.elim) (fun _ _ => trivial) (by repeat (first | exact Below.refl _ _ | apply below_drew1 | apply pw_below_drewN | apply below_alloc)) (below_size (by repeat (first | exact Below.refl _ _ | apply below_drew1 | apply pw_below_drewN | apply below_alloc))) hbd ?_; intro v69 w69 hq69 hb69 hgr69 hat69; have hbox := Lib.hid (box_read ((hgr69.block (w4.heap.size + 1) (by simp) (by simp [Value.ownBlock])).trans (box_at2 w4 _ _ (by simp)))); have HQ := Lib.hid hq69; have x69 := S16 HBK.out hb69 hy1; have y69 := x69.2; have x69a := x69.1; clear x69; have HB69 := Lib.hid hb69; clear hq69 hb69 hgr69 hat69) | (refine Kd.R_append_rows_step (Kd.int .i64) (w0 := w4) w4.heap.size rfl (.tmp 66) (.tmp 68) 23 3 (.int .i64 0) 8 rfl Try.underlying23 info3' rfl (by decide) (by omega) (.slice (some ⟨w4.heap.size + 1, 0, none⟩) 0 0) [] wait Bw wait.length dw (fun _ => True) (fun _ => False) rfl rfl (Kd.R_drew (e_row (W0 := w4.alloc (.cells #[.int .i64 num] 3)) (by simp) (by omega))) (Kd.C_below HCW.out (by repeat (first | exact Below.refl _ _ | apply below_drew1 | apply pw_below_drewN | apply below_alloc))) (fun _ _ h => h) (fun _ h => h.elim) (fun _ _ => trivial) (by repeat (first | exact Below.refl _ _ | apply below_drew1 | apply pw_below_drewN | apply below_alloc)) (below_size (by repeat (first | exact Below.refl _ _ | apply below_drew1 | apply pw_below_drewN | apply below_alloc))) hbd ?_; intro v69 w69 hq69 hb69 hgr69 hat69; have hbox := Lib.hid (box_read ((hgr69.block w4.heap.size (by simp; omega) (by simp [Value.ownBlock])).trans (box_at1 w4 _ _))); have HQ := Lib.hid hq69; have x69 := S16 HBK.out hb69 hy1; have y69 := x69.2; have x69a := x69.1; clear x69; have HB69 := Lib.hid hb69; clear hq69 hb69 hgr69 hat69) | (refine Kd.R_append_step (Kd.int .i64) (w0 := w4) w4.heap.size rfl (.tmp 69) (.tmp 72) 23 3 (.int .i64 0) 8 rfl Try.underlying23 info3' rfl (by decide) (by omega) v69 ([] ++ wait) num [.int .i64 num] (fun _ => True) (fun _ => False) rfl rfl rfl (fun _ h => h.elim) (fun _ _ => trivial) HQ.out HB69.out HB69.out.size hbd2 ?_; intro v73 w73 hq73 hb73 hgr73 hat73; obtain ⟨A73, c73, k73, rfl, HK73, HQ3⟩ := r_form hq73; have x73 := (S16 HBK.out hb73 hy1).1; have y73 := (S16 HBK.out hb73 hy1).2; have f73 := blk_frozen (blk_below HBK.out hb73) 0; have HB73 := Lib.hid hb73; clear hq73 hb73 hgr73 hat73) | (refine Kd.R_append_rows_step (Kd.int .i64) (w0 := w4) w4.heap.size rfl (.tmp 69) (.tmp 72) 23 3 (.int .i64 0) 8 rfl Try.underlying23 info3' rfl (by decide) (by omega) v69 ([] ++ wait) [num] _ 1 1 (fun _ => True) (fun _ => False) rfl rfl HQ.out hbox.out (fun _ _ h => h) (fun _ h => h.elim) (fun _ _ => trivial) HB69.out HB69.out.size hbd2 ?_; intro v73 w73 hq73 hb73 hgr73 hat73; obtain ⟨A73, c73, k73, rfl, HK73, HQ3⟩ := r_form hq73; have x73 := (S16 HBK.out hb73 hy1).1; have y73 := (S16 HBK.out hb73 hy1).2; have f73 := blk_frozen (blk_below HBK.out hb73) 0; have HB73 := Lib.hid hb73; clear hq73 hb73 hgr73 hat73))
            all_goals
              go_wp2
              go_meet
              case rel => exact Lib.hid ⟨_, _, _, _, H4.out.after0 HB73.out HK73.out HQ3.out, by simp; omega, by omega, by omega⟩
        · have e1 : (kind == 1) = false := beq_eq_false_iff_ne.2 k1
          clear k1
          by_cases k2 : kind = 2
          · subst k2
            go_wp2_with (first
              | (go_at_call 8; refine (few_any HM5.out hsm.out hMc (Kd.C_max HM5.out)).mono ?_; rintro e w6 hp6; obtain ⟨v, u, rfl, hR1, hR2, hb6⟩ := hp6; obtain ⟨A1, c1, rfl, _⟩ := OwnRow.slice_ hR1.2; obtain ⟨A2, c2, rfl, _⟩ := OwnRow.slice_ hR2.2; obtain ⟨str, b, hch⟩ := (HX5.out.to hb6).two (fun k hk => hk.2) (by omega) grp' hgm (by omega) hR1 hR2; have HCH := Lib.hid hch; have HS1 := Lib.hid hb6; clear hR1 hR2 hb6 hch; generalize (fewL M).length = kl1 at HCH; generalize (fewT M).length = kl2 at HCH)
              | (go_at_call 12; refine HCH.out.mono ?_; rintro e w7 hp7; obtain ⟨rfl, Bw, dw, Bl, dl, hcc⟩ := hp7; have x0 := hcc.x0; have x1 := hcc.x1; have HC16 := Lib.hid hcc.ch; clear hcc HCH)
              | (go_at_call 16; refine HC16.out.mono ?_; rintro e w8 hp8; obtain ⟨A3, k3, c3, A4, k4, c4, rfl, HF1, HF8⟩ := hp8; obtain ⟨w9, hw9, z0, z1, z2, z3, z4, z5, z6⟩ := two_box8 w8 (.slice A3 k3 c3) (.slice A4 k4 c4) HF1.out; clear x0 x1 HC16))
            go_meet
            case rel =>
              obtain ⟨S', n', wait', L', hp, h1, h2, h3⟩ := HF8.out w9 z6.out
              exact Lib.hid ⟨S', n', wait', L', hp, by omega, by omega, by omega⟩
          · have e2 : (kind == 2) = false := beq_eq_false_iff_ne.2 k2
            clear k2
            by_cases k3 : kind = 3
            · subst k3
              have hfo := Lib.hid (HX5.out.forget grp' hgm)
              go_wp2_with (first
                | (go_at_call 17; refine hfo.out.mono ?_; rintro e w4 ⟨rfl, h4⟩; have H4 := Lib.hid (h4.out.to (Below.refl _ _)); obtain ⟨Bw, dw, Bl, dl, hblk, hdw, hdl, hCw, hCl, hkeep⟩ := H4.out.cells; have HBK := Lib.hid hblk; have HCL := Lib.hid hCl; have HKP := Lib.hid hkeep; have x0 : w4.cell? ⟨xb, 0, none⟩ = some (.slice Bw wait.length dw) := (blk_cell hblk 0).trans rfl; have x1 : w4.cell? ⟨xb, 1, none⟩ = some (.slice Bl L.length dl) := (blk_cell hblk 1).trans rfl; clear hblk hCw hCl hkeep hfo h4)
                | (go_at_call 18; refine (rforget_calls grp' HCL.out (by omega)).mono ?_; rintro e w5 ⟨v, rfl, hR, hb5⟩; obtain ⟨A5, c5, rfl, hc5⟩ := OwnRow.slice_ hR.2; have HR5 := Lib.hid hR; have HB5 := Lib.hid hb5; have hblk5 := blk_below HBK.out hb5; have x0' : w5.cell? ⟨xb, 0, none⟩ = some (.slice Bw wait.length dw) := (blk_cell hblk5 0).trans rfl; have x1' : w5.cell? ⟨xb, 1, none⟩ = some (.slice Bl L.length dl) := (blk_cell hblk5 1).trans rfl; have f0' := blk_frozen hblk5 0; have f1' := blk_frozen hblk5 1; clear hR hb5 hblk5 hc5 x0 x1))
              have hfl := forget_le L grp' L.length
              rw [List.take_length] at hfl
              go_meet
              case rel => exact Lib.hid ⟨_, _, _, _, (H4.out.after HB5.out (fun W h => (HKP.out W h).1) hdw (fun W h => h) (fun k hk => hk.2) HR5.out).congr (GL_forget L grp'), hw64, by omega, by omega⟩
            · have e3 : (kind == 3) = false := beq_eq_false_iff_ne.2 k3
              clear k3
              go_wp2
              go_meet
              case rel => exact Lib.hid ⟨_, _, _, _, HX5.out, hw64, by omega, by omega⟩
      case rest =>
        obtain ⟨S, n, wait, L, hpx, hw64, hLi, hni⟩ := hcut.out
        have HX5 := Lib.hid hpx
        clear hpx hcut
        obtain ⟨Aw, cw, Al, cl, hta⟩ := HX5.out.tail grp' hgl (by omega)
        have HT := Lib.hid hta
        have x0 := hta.x0
        have x1 := hta.x1
        have hb0 := Below.refl wc.heap.size wc
        clear hta
        go_upto_region 27 with fail
        go_region_held3 (fun w' => w'.cell? ⟨xb, 0, none⟩ = some (.slice Aw wait.length cw) ∧ w'.cell? ⟨xb, 1, none⟩ = some (.slice Al L.length cl)) (first | exact hs9 | go_keep) (first | (go_at_call 14; refine (HT.out.len _ (by repeat (first | exact Below.refl _ _ | apply below_drew1 | apply pw_below_drewN | assumption))).mono ?_; rintro e w6 ⟨rfl, rfl⟩) | (go_at_call 13; refine (HT.out.turn _ (by repeat (first | exact Below.refl _ _ | apply below_drew1 | apply pw_below_drewN | assumption))).mono ?_; rintro e w7 ⟨rfl, rfl⟩) | (go_at_call 19; refine (HT.out.ask _ (by repeat (first | exact Below.refl _ _ | apply below_drew1 | apply pw_below_drewN | assumption))).mono ?_; rintro e w8 ⟨rfl, hb8, hs9⟩))
        go_wp2
        go_roundw
        case rel => exact ⟨i + 1, by omega, by omega, by go_num, _, _, _, _, HX5.out.to (by repeat (first | exact hb8 | apply below_drew1 | apply pw_below_drewN)), hw64, by omega, by omega⟩
        case measure => simp [intOf]; omega
    · obtain ⟨S, n, wait, L, hpx, _, _, _⟩ := HP.out
      have hb := Lib.hid hpx.below
      clear hpx HP
      by_cases h3 : i < acts.length
      all_goals
        have h4 : 90 ≤ i ∨ acts.length ≤ i := by omega
        clear hlt
        go_wp2
        go_ret
        exact ⟨rfl, hb.out⟩

theorem plays_any (A : Option Addr) (cp : Nat) (acts : List SAct) (w : World) (hr : Kd.C kA w A acts.length acts) (hcp : acts.length ≤ cp) (hy : (∀ a ∈ acts, actOk a) ∧ acts.length * 56 ≤ 140737488351232) :
    Calls Try.prog 7 #[.slice A acts.length cp] w fun e w' => e = .returned (.bool true) ∧ Below w.heap.size w w' :=
  plays_walk w A cp acts hr hy.1 hcp (by have := hy.2; omega)
end Go.Proofs.Ytbcpodbihldfgaa
