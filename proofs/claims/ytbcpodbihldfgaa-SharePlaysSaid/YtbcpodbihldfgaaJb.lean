/- few, whatever the length. -/
import Derived.Test.YtbcpodbihldfgaaJ
namespace Go.Proofs.Ytbcpodbihldfgaa
open Go.RowKit Go.Maps Go.Proofs.YtbcpodbihldfgaaW.PrintWords Go.Proofs.Ytbcpodbihldfgaa.PSharePlays
set_option linter.unusedVariables false

set_option maxHeartbeats 2000000 in
theorem few_any {w : World} {A : Option Addr} {c : Nat} {l : List S33} (hr : Kd.C k33 w A l.length l) (hs : ∀ m ∈ l, m.f0.size ≤ maxLen) (hc : l.length ≤ c) (hl : l.length ≤ 9223372036854775807) :
    Calls Try.prog 8 #[.slice A l.length c] w (FewPost w l) := by
  have HR := Lib.hid hr
  have HS := Lib.hid hs
  clear hr hs
  go_enter Try.func8, Try.ntmps8
  go_wp2_with (first
    | ((with_reducible refine gate_dst (N := 8) rfl ?_); refine Kd.R_lit k33 (w0 := w) w.heap.size 33 ?hg (N := 8) ?hd (xs := ([] : List S33)) (inner := []) (ok := fun _ => True) (okp := fun _ => True) ?hr ?hp (fun _ hk => hk) trivial (Below.refl _ _) (Nat.le_refl _) (by simp) ?_; (case hd => rfl); (case hg => rfl); (case hr => first | (go_simp; done) | (go_simp; rfl)); (case hp => exact (Reps.none _ _)); intro v1 w2 hq bh hg_ hnew_; obtain ⟨A1, c1, rfl, hc1⟩ := OwnRow.slice_ hq.2; have HO := Lib.hid hq; have HB := Lib.hid bh; clear hq bh hg_ hnew_)
    | ((with_reducible refine gate_dst (N := 9) rfl ?_); refine Kd.R_lit k57 (w0 := w) w.heap.size 57 ?hg (N := 9) ?hd (xs := ([] : List S57)) (inner := []) (ok := fun _ => True) (okp := fun _ => True) ?hr ?hp (fun _ hk => hk) trivial (HB.out) (HB.out.size) (by simp) ?_; (case hd => rfl); (case hg => rfl); (case hr => first | (go_simp; done) | (go_simp; rfl)); (case hp => exact (Reps.none _ _)); intro v2 w3 hq bh hg_ hnew_; obtain ⟨A2, c2, rfl, hc2⟩ := OwnRow.slice_ hq.2; have HO2 := Lib.hid hq; have HB2 := Lib.hid bh; have HO1 := Lib.hid (Kd.R_step HO.out (fun k _ hk => hg_.block k hk (by simp))); clear hq bh hg_ hnew_ HO HB))
  go_loopw [4, 5, 6] (fun v u i wr => ∃ k : Nat, k ≤ l.length ∧ k ≤ 8 ∧ i = .int .i64 k ∧ Hid (Kd.R k33 33 wr w.heap.size (fun _ => True) v (fewL (l.take k))) ∧ Hid (Kd.R k57 57 wr w.heap.size (fun _ => True) u (fewT (l.take k))) ∧ Hid (Below w.heap.size w wr)) (fun _ _ i _ => l.length - (intOf i).toNat)
  case atStart => exact ⟨0, Nat.zero_le _, by omega, rfl, HO1.out, HO2.out, HB2.out⟩
  case round =>
    clear HO1 HO2 HB2
    obtain ⟨k, hk, hk8, rfl, HO1, HO2, HB⟩ := hrel
    by_cases hlt : k < l.length ∧ k < 8
    · obtain ⟨hlt, hlt8⟩ := hlt
      have g0 : (0 : Int) ≤ (k : Int) := by omega
      have g1 : (k : Int) < (l.length : Int) := by omega
      obtain ⟨ad, rfl, hx0, hx1⟩ := at_T33 HR.out (k : Int) (by omega) (by omega)
      rw [Int.toNat_natCast] at hx0 hx1
      replace hx0 := (HB.out.cell (World.block_lt_of_cell? w _ hx0)).trans hx0
      replace hx1 := (HB.out.cell (World.block_lt_of_cell? w _ hx1)).trans hx1
      have hsz : (rd_T33 l (k : Int)).f0.size ≤ maxLen := HS.out _ (by unfold rd_T33; rw [Int.toNat_natCast, List.getD_eq_getElem?_getD, List.getElem?_eq_getElem hlt]; exact List.getElem_mem hlt)
      have HN := Lib.hid (few_snoc l k hlt hlt8)
      generalize hp : rd_T33 l (k : Int) = p at hx0 hx1 HN hsz
      have HP := Lib.hid hp
      clear hp
      obtain ⟨p0, p1⟩ := p
      simp only at hx0 hx1 hsz
      have hcut := Lib.hid (fun W => cut_calls p0 W hsz)
      clear hsz
      have n0 := World.new_ne wr _ hx0
      have n1 := World.new_ne wr _ hx1
      go_wp2_with fail
      go_region_held3 (fun w' => w'.cell? (ad.add (k * 2)) = some (.string p0) ∧ w'.cell? ⟨(ad.add (k * 2)).block, (ad.add (k * 2)).off + 1, none⟩ = some (.bool p1)) (go_keep) (first | (go_at_call 15; refine (hcut.out _).mono ?_; rintro e w' ⟨rfl, rfl⟩))
      all_goals
        obtain ⟨W, gb, hW, hgb, hbk, HA, HD, HC, hne⟩ := few_box HO1.out HO2.out HB.out (cut10 p0) p1
        rw [hW, hgb]
        have b0 : W.cell? ⟨gb, 0, none⟩ = some (.string (cut10 p0)) := (blk_cell hbk 0).trans rfl
        have b1 : W.cell? ⟨gb, 1, none⟩ = some (.bool p1) := (blk_cell hbk 1).trans rfl
        have hfl := few_len l k hk8
        obtain ⟨hfl1, hfl2⟩ := hfl
        replace hbk := Lib.hid hbk
        clear hW hgb HO1 HO2 HB hx0 hx1 n0 n1
        go_wp2_with (first
          | (at_builtin; refine Kd.R_append k33 (w0 := w) w.heap.size rfl (.tmp 32) (.tmp 34) 22 33 (.agg #[(.string ⟨#[]⟩), (.bool false)]) 24 rfl Try.underlying22 info33 rfl (by decide) (by omega) u4 (fewL (l.take k)) ⟨cut10 p0, p1⟩ [.string (cut10 p0), .bool p1] (fun _ => True) (fun _ => False) rfl (by first | (go_simp; done) | (go_simp; rfl)) ?aP (fun _ hk => hk.elim) ?aF ?aO ?aB ?aS ?aL ?_; (case aP => exact k33_mk3 _ _ _ _ _); (case aF => exact fun _ _ => trivial); (case aO => exact HA.out); (case aB => exact HC.out); (case aS => exact HC.out.size); (case aL => omega); intro v1 w1 hq1 hb1 hgr1 hat1; have HA1 := Lib.hid hq1; have HD1 := Lib.hid (Kd.R_over' HD.out (Kd.R_typed HA.out) (by decide) hgr1); have HC1 := Lib.hid hb1; have hbk1 := (hgr1.block gb (blk_lt hbk.out) hne.out).trans hbk.out; have b2 : w1.cell? ⟨gb, 0, none⟩ = some (.string (cut10 p0)) := (blk_cell hbk1 0).trans rfl; have b3 : w1.cell? ⟨gb, 1, none⟩ = some (.bool p1) := (blk_cell hbk1 1).trans rfl; clear hq1 hb1 hgr1 hat1 hbk1 HA HD HC hbk)
          | (at_builtin; refine Kd.R_append k57 (w0 := w) w.heap.size rfl (.tmp 36) (.tmp 38) 24 57 (.agg #[(.string ⟨#[]⟩), (.bool false)]) 24 rfl Try.underlying24 info57 rfl (by decide) (by omega) u5 (fewT (l.take k)) ⟨cut10 p0, p1⟩ [.string (cut10 p0), .bool p1] (fun _ => True) (fun _ => False) rfl (by first | (go_simp; done) | (go_simp; rfl)) ?bP (fun _ hk => hk.elim) ?bF ?bO ?bB ?bS ?bL ?_; (case bP => exact k57_mk2 _ _ _ _ _); (case bF => exact fun _ _ => trivial); (case bO => exact HD1.out); (case bB => exact HC1.out); (case bS => exact HC1.out.size); (case bL => omega); intro v2 w2' hq2 hb2 hgr2 hat2; have HD2 := Lib.hid hq2; have HA2 := Lib.hid (Kd.R_over' HA1.out (Kd.R_typed HD1.out) (by decide) hgr2); have HC2 := Lib.hid hb2; clear hq2 hb2 hgr2 hat2 HA1 HD1 HC1))
        go_roundw
        case rel => exact ⟨k + 1, by omega, by omega, by go_num, by rw [HN.out.1]; exact HA2.out, by rw [HN.out.2]; exact HD2.out, HC2.out⟩
        case measure => simp [intOf]; omega
    · have he : k = 8 ∨ k = l.length := by omega
      have HE := few_end l k he hk8
      rw [HE.1] at HO1
      rw [HE.2] at HO2
      have hfin : FewPost w l (.returned (.tuple #[u4, u5])) wr := ⟨_, _, rfl, HO1.out, HO2.out, HB.out⟩
      have HF := Lib.hid hfin
      clear HE HO1 HO2 HB hfin he
      by_cases h3 : k < l.length
      · have h4 : 8 ≤ k := by omega
        clear hlt
        go_wp2
        go_ret2
        exact HF.out
      · have h4 : l.length ≤ k := by omega
        clear hlt
        go_wp2
        go_ret2
        exact HF.out
end Go.Proofs.Ytbcpodbihldfgaa
