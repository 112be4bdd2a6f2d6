/- ShareThere: one of those that are there is chosen: the walk. -/
import Derived.Test.YtbcpodbihldfgaaJ
namespace Go.Proofs.Ytbcpodbihldfgaa
open Go.RowKit Go.Maps Go.Proofs.YtbcpodbihldfgaaW.PrintWords Go.Proofs.Ytbcpodbihldfgaa.PSharePlays
set_option linter.unusedVariables false

theorem ST.to {w0 w w1 : World} {g n : Nat} {wait : List Int} {G : List UInt8 → Int} {v : Value} {l : List S33} (h : ST w0 w g wait n G v l) (hb : Below w.heap.size w w1) : ST w0 w1 g wait n G v l :=
  ⟨Kd.R_below h.row hb, h.pk.below hb, h.below.trans (hb.mono h.below.size)⟩

/-- x is chosen rightly. -/
def Right (M : List S33) (s : ByteArray) (k : Nat) : Prop := ∃ x ∈ M.take k, x.f0 = s ∧ (x.f1 = true ∨ (onL M).length = 0)
theorem right_pick (wait : List Int) (G : List UInt8 → Int) (s : List UInt8) (M : List S33) (h : 0 < M.length) : Right M (pickS wait G s M) M.length := by
  unfold Right pickS
  rw [List.take_length]
  have hp := thereL_pos M h
  obtain ⟨b0, b1⟩ := chooseI_bd (wait.headD (G s)) (thereL M).length hp
  generalize chooseI (wait.headD (G s)) (thereL M).length = i at b0 b1
  obtain ⟨k, rfl⟩ := Int.eq_ofNat_of_zero_le b0
  have hk : k < (thereL M).length := by omega
  have hm : rd_T33 (thereL M) (k : Int) ∈ thereL M := by
    unfold rd_T33
    rw [Int.toNat_natCast, List.getD_eq_getElem?_getD, List.getElem?_eq_getElem hk]
    exact List.getElem_mem hk
  refine ⟨rd_T33 (thereL M) (k : Int), ?_, rfl, ?_⟩
  · generalize rd_T33 (thereL M) (k : Int) = x at hm
    unfold thereL at hm
    split at hm
    · exact hm
    · exact (List.mem_filter.1 hm).1
  · generalize rd_T33 (thereL M) (k : Int) = x at hm
    unfold thereL at hm
    split at hm
    · rename_i e; exact .inr e
    · left
      exact (List.mem_filter.1 hm).2

theorem right_snoc (M : List S33) (s : ByteArray) (k : Nat) (h : k < M.length) : Right M s (k + 1) ↔ Right M s k ∨ ((rd_T33 M k).f0 = s ∧ ((rd_T33 M k).f1 = true ∨ (onL M).length = 0)) := by
  unfold Right rd_T33
  rw [List.take_succ_eq_append_getElem h, Int.toNat_natCast, List.getD_eq_getElem?_getD, List.getElem?_eq_getElem h]
  simp only [List.mem_append, List.mem_singleton, Option.getD_some]
  constructor
  · rintro ⟨x, hx | rfl, e1, e2⟩
    · exact .inl ⟨x, hx, e1, e2⟩
    · exact .inr ⟨e1, e2⟩
  · rintro (⟨x, hx, e1, e2⟩ | ⟨e1, e2⟩)
    · exact ⟨x, .inl hx, e1, e2⟩
    · exact ⟨_, .inr rfl, e1, e2⟩
theorem right_zero (M : List S33) (s : ByteArray) : ¬ Right M s 0 := by rintro ⟨x, hx, _⟩; simp at hx

/-- Choose, of a row that may be empty. -/
theorem choose_all {w0 w : World} {g n : Nat} {wait : List Int} {G : List UInt8 → Int} {M : List S33} {A : Option Addr} {c : Nat} (h : ST w0 w g wait n G (.slice A M.length c) M) (hn : n < 1000000) (hl : M.length ≤ 1000) :
    ∃ s, (0 < M.length → Right M s M.length) ∧ Calls Try.prog 12 #[.pointer (some ⟨g, 0, none⟩), .string ⟨#[103]⟩, .slice A M.length c] w fun e w' => e = .returned (.tuple #[.string s, .bool (decide (0 < M.length))]) ∧ Hid (∃ wait G, ST w0 w' g wait (n + 1) G (.slice A M.length c) M) := by
  rcases Nat.eq_zero_or_pos M.length with h0 | h0
  · refine ⟨⟨#[]⟩, fun h => by omega, ?_⟩
    have hz : (thereL M).length = 0 := by have := thereL_len M; omega
    refine (choose_none (l := M) h.below h.pk ⟨#[103]⟩ (fun W hk => ?_) (Kd.R_reads' h.row).2.1 hl hz).mono ?_
    · exact Kd.C_kept_own h.row (S := fun k => (Value.slice A M.length c).ownBlock ≠ some k ∧ k < w.heap.size) (fun k hk hn => hn.1 hk) W hk
    · rintro e w' ⟨rfl, hp, hd⟩
      refine ⟨by rw [decide_eq_false (by omega)], wait, G, ?_⟩
      have := h.did hp hd
      refine ⟨this.row, ?_, this.below⟩
      obtain ⟨v, bm, D, h1, h2, h3, h5, h6, h7, h8, h9, h10⟩ := this.pk.st
      exact ⟨v, bm, D, h1, h2, h3, h5, h6, h7, h8.mono (Nat.le_succ _), h9, fun s => by have := h10 s; omega⟩
  · refine ⟨pickS wait G [103] M, fun _ => right_pick wait G [103] M h0, (h.choose hn hl h0 ⟨#[103]⟩ (by decide)).mono ?_⟩
    rintro e w' ⟨rfl, hs⟩
    exact ⟨by rw [decide_eq_true h0], _, _, hs⟩

theorem str_eq {a b : ByteArray} : a.toList = b.toList ↔ a = b := by
  rw [ByteArray.toList_eq, ByteArray.toList_eq]
  constructor
  · intro h
    cases a; cases b
    congr 1
    exact Array.toList_inj.1 h
  · rintro rfl
    rfl

def ThereRel (w wr : World) (g : Nat) (j : Nat) (v : Value) (M : List S33) : Prop := ∃ wait, wait.length ≤ j ∧ ST w wr g wait 0 (fun _ => 0) v M

set_option maxHeartbeats 4000000 in
theorem there_walk (w : World) (A : Option Addr) (c : Nat) (l : List S33) (hr : Kd.C k33 w A l.length l) (hs : ∀ m ∈ l, m.f0.size ≤ maxLen) (hc : l.length ≤ c) (hl : l.length ≤ 1000000000000000)
    (A2 : Option Addr) (cp : Nat) (zs : List Int) (hr2 : ReadsInt w .i64 A2 zs.length zs) (hcp : zs.length ≤ cp) (hz : zs.length ≤ 1000000000000000) :
    Calls Try.prog 3 #[.slice A l.length c, .slice A2 zs.length cp] w fun e w' => e = .returned (.bool true) ∧ Below w.heap.size w w' := by
  have hfew := Lib.hid (few_calls hr hs hc hl)
  have HZ := Lib.hid hr2
  clear hr hs hr2
  go_enter Try.func3, Try.ntmps3
  go_wp2_with (first
    | (go_at_call 8; refine hfew.out.mono ?_; rintro e w1 ⟨v, u, rfl, hv, hu, hb⟩; have HV := Lib.hid hv; have HB := Lib.hid hb; have haw := Lib.hid (awake_calls w1); clear hv hu hb hfew)
    | (go_at_call 9; refine haw.out.mono ?_; rintro e w2 ⟨rfl, hb⟩; have HV2 := Lib.hid (Kd.R_below HV.out hb); have HB2 := Lib.hid (HB.out.trans (hb.mono HB.out.size)); have HN := Lib.hid (ST.new (R_flat HV2.out) HB2.out); obtain ⟨A1, c1, rfl, hc1⟩ := OwnRow.slice_ HV.out.2; clear hb haw HV HB HV2 HB2 hc1)
    | (go_at_call 10; refine HN.out.mono ?_; rintro e w3 ⟨g, rfl, hst⟩; have H0 := Lib.hid hst; clear hst HN))
  have hM8 : (fewL l).length ≤ 8 := by rw [fewL_len]; omega
  obtain ⟨M, hM⟩ : ∃ M, M = fewL l := ⟨_, rfl⟩
  rw [← hM] at H0 hM8 ⊢
  clear hM
  go_loopw [8] (fun i wr => ∃ j : Nat, j ≤ zs.length ∧ j ≤ 20 ∧ i = .int .i64 j ∧ Hid (ThereRel w wr g j (.slice A1 M.length c1) M)) (fun i _ => zs.length - (intOf i).toNat)
  case atStart => exact ⟨0, Nat.zero_le _, by omega, rfl, [], Nat.le_refl _, H0.out⟩
  case round =>
    clear H0
    obtain ⟨j, hj, hj20, rfl, HS⟩ := hrel
    by_cases hlt : j < zs.length ∧ j < 20
    · obtain ⟨hlt, hlt20⟩ := hlt
      obtain ⟨ad, rfl, hx⟩ := HZ.out.at_ (j : Int) (by omega) (by omega)
      rw [Int.toNat_natCast] at hx
      obtain ⟨wait, hw, hst⟩ := HS.out
      replace hx := (hst.below.cell (World.block_lt_of_cell? w _ hx)).trans hx
      generalize rd zs (j : Int) = x at hx
      have hpu := Lib.hid (hst.push (by omega) x)
      clear hst HS
      go_wp2_with (go_at_call 11; refine hpu.out.mono ?_; rintro e w4 ⟨rfl, hs4⟩; have H4 := Lib.hid hs4; clear hs4 hpu)
      go_roundw
      case rel => exact ⟨j + 1, by omega, by omega, by go_num, _, (by split <;> first | omega | (simp; omega)), H4.out⟩
      case measure => simp [intOf]; omega
    · obtain ⟨wait, hw, hst⟩ := HS.out
      have HS := Lib.hid hst
      clear hst
      by_cases h3 : j < zs.length
      all_goals
        have h4 : 20 ≤ j ∨ zs.length ≤ j := by omega
        clear hlt
        go_wp2
        go_loopw [9, 44] (fun o i wr => ∃ k : Nat, k ≤ M.length ∧ i = .int .i64 k ∧ o = .int .i64 (onL (M.take k)).length ∧ Hid (ST w wr g wait 0 (fun _ => 0) (.slice A1 M.length c1) M)) (fun _ i _ => M.length - (intOf i).toNat)
        case atStart => exact ⟨0, Nat.zero_le _, rfl, rfl, HS.out⟩
        case round =>
          clear HS
          obtain ⟨k, hk, rfl, rfl, HS⟩ := hrel
          by_cases hkl : k < M.length
          · have hrow := Kd.R_reads' HS.out.row
            obtain ⟨ad, rfl, hx0, hx1⟩ := at_T33 hrow.2.2 (k : Int) (by omega) (by omega)
            rw [Int.toNat_natCast] at hx0 hx1
            have hns := onL_snoc M k hkl
            have hol := onL_le M k
            generalize hp : rd_T33 M (k : Int) = p at hx0 hx1 hns
            clear hp hrow
            obtain ⟨p0, p1⟩ := p
            simp only at hx0 hx1 hns
            have HNS := Lib.hid hns
            clear hns
            cases p1 with
            | true =>
              go_wp2
              go_roundw
              case rel => exact ⟨k + 1, by omega, by go_num, by have := HNS.out; rw [if_pos rfl] at this; rw [this, List.length_append]; go_num, HS.out.to (below_alloc (Below.refl _ _) _)⟩
              case measure => simp [intOf]; omega
            | false =>
              go_wp2
              go_roundw
              case rel => exact ⟨k + 1, by omega, by go_num, by have := HNS.out; rw [if_neg (by simp), List.append_nil] at this; rw [this], HS.out.to (below_alloc (Below.refl _ _) _)⟩
              case measure => simp [intOf]; omega
          · obtain rfl : k = M.length := by omega
            rw [List.take_length]
            go_wp2
            go_loopw [12] (fun i wr => ∃ r : Nat, r ≤ 25 ∧ i = .int .i64 r ∧ Hid (∃ wait G, ST w wr g wait r G (.slice A1 M.length c1) M)) (fun i _ => 25 - (intOf i).toNat)
            case atStart => exact ⟨0, Nat.zero_le _, rfl, wait, _, HS.out⟩
            case round =>
              clear HS
              obtain ⟨r, hr25, rfl, HX⟩ := hrel
              by_cases hr : r < 25
              · obtain ⟨wt, G, hst⟩ := HX.out
                obtain ⟨s, hR, hch⟩ := choose_all hst (by omega) (by omega)
                clear hst HX
                have HCH := Lib.hid hch
                have HRR := Lib.hid hR
                clear hch hR
                rcases Nat.eq_zero_or_pos M.length with h0 | h0
                · have hd := Lib.hid (decide_eq_false (show ¬ 0 < M.length by omega))
                  have h0' := Lib.hid h0
                  have h0i : (M.length : Int) ≤ 0 := by omega
                  clear h0
                  go_wp2_with (go_at_call 12; refine HCH.out.mono ?_; rw [hd.out]; rintro e w5 ⟨rfl, hs5⟩; clear HCH)
                  have HX := Lib.hid hs5.out
                  clear hs5
                  refine wp_loop_rounds 1 ?_
                  rw [rounds_succ]
                  go_wp2
                  go_roundw
                  case rel => exact ⟨r + 1, by omega, by go_num, HX.out⟩
                  case measure => simp [intOf]; omega
                · have hd := Lib.hid (decide_eq_true h0)
                  go_wp2_with (go_at_call 12; refine HCH.out.mono ?_; rw [hd.out]; rintro e w5 ⟨rfl, hs5⟩; clear HCH)
                  obtain ⟨wt5, G5, hst5⟩ := hs5.out
                  have H5 := Lib.hid hst5
                  clear hst5 hs5
                  obtain ⟨wo, rfl⟩ : ∃ wo : World, wo = wr := ⟨_, rfl⟩
                  go_loopw [15, 72] (fun f i wq => ∃ k : Nat, k ≤ M.length ∧ i = .int .i64 k ∧ ∃ fb : Bool, f = .bool fb ∧ Hid (fb = true ↔ Right M s k) ∧ Hid (ST w wq g wt5 (r + 1) G5 (.slice A1 M.length c1) M)) (fun _ i _ => M.length - (intOf i).toNat)
                  case atStart => exact ⟨0, Nat.zero_le _, rfl, false, rfl, ⟨fun h => by simp at h, fun h => absurd h (right_zero M s)⟩, H5.out⟩
                  case round =>
                    clear H5
                    obtain ⟨k, hk, rfl, fb, rfl, HF, HS⟩ := hrel
                    by_cases hkl : k < M.length
                    · have hrow := Kd.R_reads' HS.out.row
                      obtain ⟨ad, rfl, hx0, hx1⟩ := at_T33 hrow.2.2 (k : Int) (by omega) (by omega)
                      rw [Int.toNat_natCast] at hx0 hx1
                      have hns := right_snoc M s k hkl
                      generalize hp : rd_T33 M (k : Int) = p at hx0 hx1 hns
                      clear hp hrow
                      obtain ⟨p0, p1⟩ := p
                      simp only at hx0 hx1 hns
                      have HNS := Lib.hid hns
                      clear hns
                      cases fb with
                      | true =>
                        go_wp2
                        go_roundw
                        case rel => exact ⟨k + 1, by omega, by go_num, true, rfl, ⟨fun _ => HNS.out.2 (.inl (HF.out.1 rfl)), fun _ => rfl⟩, HS.out.to (below_alloc (Below.refl _ _) _)⟩
                        case measure => simp [intOf]; omega
                      | false =>
                        go_wp2
                        all_goals go_roundw
                        all_goals first
                          | (case measure => simp [intOf]; omega)
                          | skip
                        all_goals first
                          | (case rel =>
                              have e0 : p0.toList = s.toList := by assumption
                              have e1 : p1 = true := by assumption
                              exact ⟨k + 1, by omega, by go_num, true, rfl, ⟨fun _ => HNS.out.2 (.inr ⟨str_eq.1 e0, .inl e1⟩), fun _ => rfl⟩, HS.out.to (below_alloc (Below.refl _ _) _)⟩)
                          | (case rel =>
                              have e0 : p0.toList = s.toList := by assumption
                              have e1 : ¬ p1 = true := by assumption
                              refine ⟨k + 1, by omega, by go_num, _, rfl, ⟨fun h => HNS.out.2 (.inr ⟨str_eq.1 e0, .inr (by have := beq_iff_eq.1 h; omega)⟩), fun h => ?_⟩, HS.out.to (below_alloc (Below.refl _ _) _)⟩
                              rcases HNS.out.1 h with h | ⟨_, h | h⟩
                              · exact absurd (HF.out.2 h) (by simp)
                              · exact absurd h e1
                              · rw [h]; rfl)
                          | (case rel =>
                              have e0 : ¬ p0.toList = s.toList := by assumption
                              refine ⟨k + 1, by omega, by go_num, false, rfl, ⟨fun h => by simp at h, fun h => ?_⟩, HS.out.to (below_alloc (Below.refl _ _) _)⟩
                              rcases HNS.out.1 h with h | ⟨h, _⟩
                              · exact HF.out.2 h
                              · exact absurd (str_eq.2 h) e0)
                    · obtain rfl : k = M.length := by omega
                      obtain rfl : fb = true := HF.out.2 (HRR.out h0)
                      have H6 := Lib.hid HS.out
                      clear HS HF
                      go_wp2
                      go_roundw
                      case rel => exact ⟨r + 1, by omega, by go_num, _, _, H6.out⟩
                      case measure => simp [intOf]; omega
              · have : r = 25 := by omega
                obtain ⟨wt, G, hst⟩ := HX.out
                have hb := Lib.hid hst.below
                clear hst HX
                go_wp2
                go_ret
                exact ⟨rfl, hb.out⟩
end Go.Proofs.Ytbcpodbihldfgaa
