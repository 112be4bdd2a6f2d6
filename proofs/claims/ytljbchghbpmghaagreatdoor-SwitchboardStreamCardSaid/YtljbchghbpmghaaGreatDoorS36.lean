/- The stream read again: plain facts. SwitchboardStream's walk. -/
import Derived.Test.YtljbchghbpmghaaGreatDoorS34
import Derived.Deep.RegionHeld3
import Derived.IntWalk
namespace Go.Proofs.YtljbchghbpmghaaGreatDoor
open Go.RowKit Go.Lib Go.Proofs.YtljbchghbpmghaaGreatDoorW.PrintWords Go.Proofs.YtljbchghbpmghaaGreatDoor.PSwitchboardGreat
set_option linter.unusedVariables false
set_option linter.unusedSimpArgs false
theorem own_at {w : World} {base n c : Nat} {A : Option Addr} {zs : List Value} (h : w.ownsRow base 30 1 (.slice A n c) zs.length zs) (j : Nat) (hj : j < zs.length) : ∃ ad, A = some ad ∧ w.cell? (ad.add j) = some zs[j] := by
  obtain ⟨_, hq⟩ := h
  rcases hq with ⟨h1, h2⟩ | ⟨g, cap, cur, e1, e2, e3, e4, e5, e6, e7⟩
  · rw [h2] at hj; cases hj
  · injection e1 with e1 _ _
    refine ⟨_, e1, ?_⟩
    have h8 := congrArg (fun l : List Value => l[j]?) e7
    have h9 : (⟨g, 0, none⟩ : Addr).add j = ⟨g, j, none⟩ := by simp [Addr.add]; exact fun h => h.symm
    rw [h9]
    refine (blk_cell e3 j).trans ?_
    rw [← Array.getElem?_toList]
    rw [List.getElem?_eq_getElem hj] at h8
    rw [← h8]
    simp [List.getElem?_take, hj]
theorem toB_app (a b : List UInt8) : toB a ++ toB b = toB (a ++ b) := by
  apply ByteArray.ext
  simp [toB]
theorem tot_drop (ps : List (Value × List UInt8)) (k : Nat) (hk : k < ps.length) : tot (ps.drop k) = ps[k].2 ++ tot (ps.drop (k + 1)) := by
  rw [List.drop_eq_getElem_cons hk]
  show (_ :: _ : List (List UInt8)).flatten = _
  rw [List.flatten_cons]
  rfl
theorem tot_take (ps : List (Value × List UInt8)) (k : Nat) (hk : k < ps.length) : tot (ps.take (k + 1)) = tot (ps.take k) ++ ps[k].2 := by
  rw [List.take_succ_eq_append_getElem hk, tot_snoc]
theorem tot_part (ps : List (Value × List UInt8)) (k : Nat) : tot ps = tot (ps.take k) ++ tot (ps.drop k) := by
  unfold tot
  rw [← List.flatten_append, ← List.map_append, List.take_append_drop]
theorem tot_len (ps : List (Value × List UInt8)) (h : ∀ p ∈ ps, p.2 ≠ []) : ps.length ≤ (tot ps).length := by
  induction ps with
  | nil => exact Nat.zero_le _
  | cons p ps ih =>
    have h1 := ih (fun q hq => h q (List.mem_cons_of_mem _ hq))
    have h2 : p.2.length ≠ 0 := fun h3 => h p (List.mem_cons_self) (List.length_eq_zero_iff.1 h3)
    have h3 : (tot (p :: ps)).length = p.2.length + (tot ps).length := by unfold tot; simp
    rw [h3, List.length_cons]
    omega
theorem pf_ne {w : World} {p : Value × List UInt8} (h : PF w p) : p.2 ≠ [] := by
  obtain ⟨_, ⟨k, f, body, _, _, _, _, h⟩, _⟩ := h
  rw [h]
  unfold frB
  exact List.cons_ne_nil _ _
/-- X, a part of what is to come behind k frames, holds no whole frame. -/
def Short (ps : List (Value × List UInt8)) (k : Nat) (X : List UInt8) : Prop := (∀ hk : k < ps.length, ∃ q, q ≠ [] ∧ ps[k].2 = X ++ q) ∧ (ps.length ≤ k → X = [])
theorem short_end {ps : List (Value × List UInt8)} {k : Nat} {X : List UInt8} (h : Short ps k X) (ht : tot (ps.drop k) = X ++ []) : ps.length ≤ k ∧ X = [] := by
  by_cases hk : k < ps.length
  · obtain ⟨q, hq, h1⟩ := h.1 hk
    rw [tot_drop ps k hk, List.append_nil, h1] at ht
    have h2 := congrArg List.length ht
    rw [List.length_append, List.length_append] at h2
    have h3 : q.length ≠ 0 := fun h3 => hq (List.length_eq_zero_iff.1 h3)
    omega
  · exact ⟨by omega, h.2 (by omega)⟩
theorem go_or {ps : List (Value × List UInt8)} {k : Nat} {X Y : List UInt8} (h : tot (ps.drop k) = X ++ Y) : (∃ (hk : k < ps.length) (a : List UInt8), X = ps[k].2 ++ a ∧ tot (ps.drop (k + 1)) = a ++ Y) ∨ Short ps k X := by
  by_cases hk : k < ps.length
  · rw [tot_drop ps k hk] at h
    rcases List.append_eq_append_iff.1 h with ⟨a, h1, h2⟩ | ⟨q, h1, h2⟩
    · exact .inl ⟨hk, a, h1, h2⟩
    · by_cases hq : q = []
      · subst hq
        rw [List.append_nil] at h1
        rw [List.nil_append] at h2
        exact .inl ⟨hk, [], by rw [List.append_nil, h1], by rw [List.nil_append, h2]⟩
      · exact .inr ⟨fun _ => ⟨q, hq, h1⟩, fun h3 => absurd hk (by omega)⟩
  · have h0 : ps.drop k = [] := List.drop_eq_nil_of_le (by omega)
    rw [h0] at h
    have h1 : X ++ Y = [] := h.symm
    exact .inr ⟨fun h2 => absurd h2 hk, fun _ => (List.append_eq_nil_iff.1 h1).1⟩
/-- The reader waits. -/
theorem next_wait {w W : World} {g : Nat} {most : Int} {ps : List (Value × List UInt8)} {k : Nat} {X : List UInt8} (hp : PFs w ps) (hm : ((tot ps).length : Int) ≤ most) (hs : Short ps k X) (hr : RD W g most (toB X) 0) : Calls Tryz.prog 11 #[.pointer (some ⟨g, 0, none⟩)] W (RPost W g (.tuple #[.agg #[.int .i64 0, .int .i64 0, .string ⟨#[]⟩], .int .i64 1]) most (toB X) 0) := by
  by_cases hX : X = []
  · subst hX
    exact next_nil hr
  · have hk : k < ps.length := Nat.lt_of_not_le (fun h => hX (hs.2 h))
    obtain ⟨q, hq, h1⟩ := hs.1 hk
    obtain ⟨_, ⟨kk, f, body, h2, h3, h4, h5, h6⟩, _⟩ := hp ps[k] (List.getElem_mem hk)
    have hpos : 0 < (toB X).size := by rw [toB_size]; exact List.length_pos_iff.2 hX
    have hn := next_calls hr hpos
    have hfl : (frB kk f (toB body)).length ≤ (tot ps).length := by
      rw [tot_part ps k, tot_drop ps k hk, List.length_append, List.length_append, h6]
      omega
    rw [nextF_short most kk f (toB body) X q hX hq (h6.symm.trans h1) h2 h3 h4 (by rw [toB_size]; exact h5) (by omega)] at hn
    exact hn
/-- The reader gives the next frame. -/
theorem next_give {w W : World} {g : Nat} {most : Int} {ps : List (Value × List UInt8)} {k : Nat} {a : List UInt8} (hp : PFs w ps) (hm : ((tot ps).length : Int) ≤ most) (hm2 : (tot ps).length ≤ 500000) (hk : k < ps.length) (hr : RD W g most (toB (ps[k].2 ++ a)) 0) : ∃ (kk f : Nat) (B : ByteArray), Calls Tryz.prog 11 #[.pointer (some ⟨g, 0, none⟩)] W (RPost W g (.tuple #[.agg #[.int .i64 (kk : Nat), .int .i64 (f : Nat), .string B], .int .i64 0]) most (toB a) 0) ∧ (∀ W', Calls Tryz.prog 12 #[.agg #[.int .i64 (kk : Nat), .int .i64 (f : Nat), .string B]] W' fun e w' => e = .returned (.string (toB ps[k].2)) ∧ Below W'.heap.size W' w') := by
  obtain ⟨_, ⟨kk, f, body, h2, h3, h4, h5, h6⟩, _⟩ := hp ps[k] (List.getElem_mem hk)
  have hfl : (frB kk f (toB body)).length ≤ (tot ps).length := by
    rw [tot_part ps k, tot_drop ps k hk, List.length_append, List.length_append, h6]
    omega
  have hpos : 0 < (toB (ps[k].2 ++ a)).size := by
    rw [toB_size, List.length_append]
    have := List.length_pos_iff.2 (pf_ne (hp ps[k] (List.getElem_mem hk)))
    omega
  have hn := next_calls hr hpos
  rw [h6, nextF_fr most kk f (toB body) a h2 h3 h4 (by rw [toB_size]; exact h5), if_neg (by omega)] at hn
  refine ⟨kk, f, toB body, hn, fun W' => ?_⟩
  rw [h6]
  exact frtext_calls kk f (toB body) h2 h3 (by rw [frB_size] at hfl; omega)
set_option maxHeartbeats 4000000 in
set_option maxRecDepth 1000000 in
theorem stream_calls (s0 : ByteArray) (a : Option Addr) (cap : Nat) (l : List Int) (w : World) (hm : HasM w) (hr : ReadsInt w .i64 a l.length l) (hc : l.length ≤ cap) (hy : l.length * 8 ≤ 140737488351232) (hw : ∀ x ∈ l, (Lit.int .i64 x).wf = true) : Calls Tryz.prog 3 #[.string s0, .slice a l.length cap] w (Ret w) := by
  have HM := Lib.hid hm
  have HRI := Lib.hid hr
  have HLC := Lib.hid hc
  have HLY := Lib.hid hy
  have HCUT := Lib.hid (fun W => cut_calls s0 400 W)
  rw [show ((400 : Nat) : Int) = 400 from rfl] at HCUT
  have HL := Lib.hid (fun W hm => live_calls W hm)
  clear hm hr hc hy hw
  go_enter Tryz.func3, Tryz.ntmps3
  go_upto_region 4 with (first
    | (go_at_call 5; (with_reducible refine (HCUT.out _).mono ?_); rintro e w1 ⟨s, rfl, hs, hb⟩; have HSS := Lib.hid hs; have HB1 := Lib.hid hb; clear hb hs)
    | (go_at_call 6; refine (HL.out _ (HM.out.to HB1.out)).mono ?_; rintro e w2 ⟨rfl, hb⟩; have HB2 := Lib.hid (HB1.out.trans (hb.mono HB1.out.size)); clear hb))
  have HALL := Lib.hid (fun W => all_calls (w := W) s (Nat.le_trans HSS.out (by decide)) 1000)
  go_upto_region 5 with (first
    | (go_at_call 7; (with_reducible refine (HALL.out _).mono ?_); rintro e w4 ⟨ps, v, er, rfl, hb, hro, hpf, htl⟩; have HB4 := Lib.hid (HB2.out.trans (hb.mono HB2.out.size)); have HRO := Lib.hid hro; have HPF := Lib.hid hpf; have HTL := Lib.hid htl; clear hb hro hpf htl))
  obtain ⟨A, n, c, rfl, rfl, HCL⟩ : ∃ A n c, v = .slice A n c ∧ ps.length = n ∧ Hid (∀ j (hj : j < ps.length), ∃ ad, A = some ad ∧ w4.cell? (ad.add j) = some ps[j].1) := by
    obtain ⟨A, c, h⟩ := own_slice1 HRO.out
    refine ⟨A, ps.length, c, by rw [h, List.length_map], rfl, Lib.hid (fun j hj => ?_)⟩
    have h2 := HRO.out
    rw [h] at h2
    obtain ⟨ad, h3, h4⟩ := own_at h2 j (by rw [List.length_map]; exact hj)
    exact ⟨ad, h3, by rw [h4, List.getElem_map]⟩
  have HTX := Lib.hid (fun (j : Nat) (hj : j < ps.length) W (hb : Below w4.heap.size w4 W) => ((HPF.out ps[j] (List.getElem_mem hj)).2.2 (fun _ => False) W (fun k hk => hk.elim) (Chg.of_below hb)))
  have HNE := Lib.hid (fun p hp => pf_ne (HPF.out p hp))
  have HPL := Lib.hid (show ps.length ≤ 400 from Nat.le_trans (tot_len ps HNE.out) (Nat.le_trans HTL.out HSS.out))
  have HT4 := Lib.hid (show (tot ps).length ≤ 400 from Nat.le_trans HTL.out HSS.out)
  clear HALL HB1 HB2 HL HCUT HRO
  have HW4 := Lib.hid (Below.refl w4.heap.size w4)
  go_upto_region 7 with (fail)
  go_loopg [7, 28] ps.length (fun gh v7 v28 wx => ∃ j : Nat, Hid (j + gh = ps.length) ∧ v28 = .int .i64 j ∧ v7 = .string (toB (tot (ps.take j))) ∧ Hid (Below w4.heap.size w4 wx))
  case atStart => exact ⟨0, Lib.hid (Nat.zero_add _), rfl, rfl, HW4⟩
  case round =>
    clear HW4
    obtain ⟨j, hj, rfl, rfl, HWX⟩ := hrel
    cases gk with
    | succ g1 =>
      have hkb := hj.out
      have hlt2 : j < ps.length := by omega
      have hlt : (j : Int) < (ps.length : Int) := by omega
      have HJ := Lib.hid (show j + g1 + 1 = ps.length by omega)
      obtain ⟨ad, rfl, hc4⟩ := HCL.out j hlt2
      obtain ⟨ty, u, hvu⟩ := (HPF.out ps[j] (List.getElem_mem hlt2)).1
      have hcell := (Chg.of_below (S := fun _ => False) HWX.out).cell hc4 (fun h => h)
      have HT := Lib.hid (HTX.out j hlt2 _ HWX.out)
      have HCAT := Lib.hid (show toB (tot (ps.take j)) ++ toB ps[j].2 = toB (tot (ps.take (j + 1))) by rw [toB_app, tot_take ps j hlt2])
      rw [hvu] at hcell HT
      have hcs : (toB (tot (ps.take j))).size + (toB ps[j].2).size ≤ 9223372036854775807 := by
        rw [toB_size, toB_size, ← List.length_append, ← tot_take ps j hlt2]
        have h1 := HT4.out
        rw [tot_part ps (j + 1), List.length_append] at h1
        omega
      generalize toB (tot (ps.take j)) = X at HCAT hcs ⊢
      generalize toB ps[j].2 = Y at HCAT HT hcs
      have hcs1 : decide (X.size + Y.size ≤ 9223372036854775807) = true := decide_eq_true hcs
      have hcs2 : (9223372036854775807 < X.size + Y.size) = False := eq_false (Nat.not_lt.2 hcs)
      clear hkb hj hc4 hvu
      go_wp2_with (first | (go_at_call 8; (with_reducible refine (HT.out).mono ?_); rintro e w5 ⟨rfl, hb⟩; have HWY := Lib.hid (HWX.out.trans (hb.mono HWX.out.size)); clear hb))
      go_roundg g1
      case measure => omega
      case rel => exact ⟨j + 1, Lib.hid (by have := HJ.out; omega), by have h1 := HJ.out; have h2 := HPL.out; rw [w64n j (by omega)], by rw [← HCAT.out], HWY⟩
    | zero =>
      obtain rfl : j = ps.length := by have := hj.out; omega
      have hlt : ¬ (ps.length : Int) < (ps.length : Int) := by omega
      rw [List.take_length]
      have HGS := Lib.hid (toB_size (tot ps))
      have HGE := Lib.hid (fun (Z Y : List UInt8) (h : tot ps = Z ++ Y) (m : Nat) => (show (toB (tot ps)).extract Z.length (Z.length + m) = toB (Y.take m) by rw [h, toB_extract, List.drop_left, Nat.add_sub_cancel_left]))
      generalize toB (tot ps) = G at HGS HGE ⊢
      have hbig : ¬ (s.size : Int) < (G.size : Int) := by have h1 := HGS.out; have h2 := HTL.out; omega
      clear hj
      go_upto_region 13 with (fail)
      go_cut [47] (fun v47 wx => v47 = .bool false ∧ wr = wx)
      case first =>
        cases he : er == 0
        all_goals
          go_wp2
          go_meet
          exact ⟨rfl, rfl⟩
      case rest =>
        obtain ⟨rfl, rfl⟩ := hcut
        clear hbig hlt
        go_upto_region 18 with (first
          | (go_at_call 9; refine (new_rd 1000).mono ?_; rintro e w5 ⟨g, rfl, hr, hg, hb⟩; have HR5 := Lib.hid hr; have HG := Lib.hid (show w4.heap.size ≤ g from Nat.le_trans HWX.out.size hg); have HW5 := Lib.hid (HWX.out.trans (hb.mono HWX.out.size)); clear hr hg hb))
        clear HWX
        obtain ⟨M, hM⟩ : ∃ M, M = min (l.length + 1) 60 := ⟨_, rfl⟩
        have HMM := Lib.hid (show M ≤ l.length + 1 ∧ M ≤ 60 ∧ 0 < M ∧ (M = l.length + 1 ∨ M = 60) by omega)
        clear hM
        have HSH := Lib.hid (show Short ps 0 [] from ⟨fun hk => ⟨ps[0].2, HNE.out _ (List.getElem_mem hk), rfl⟩, fun _ => rfl⟩)
        go_loopg [11, 12, 13] M (fun gh v11 v12 v13 wx => ∃ (i k : Nat) (X Y Z : List UInt8), Hid (i + gh = M) ∧ v13 = .int .i64 i ∧ v11 = .int .i64 k ∧ v12 = .int .i64 (Z.length : Nat) ∧ Hid (k ≤ ps.length ∧ tot (ps.drop k) = X ++ Y ∧ tot ps = Z ++ Y ∧ Short ps k X ∧ (gh = 0 → Y = [])) ∧ Hid (RD wx g 1000 (toB X) 0) ∧ Hid (Below w4.heap.size w4 wx))
        case atStart => exact ⟨0, 0, [], tot ps, [], Lib.hid (Nat.zero_add _), rfl, rfl, rfl, Lib.hid ⟨Nat.zero_le _, rfl, rfl, HSH.out, fun h => absurd h (by have := HMM.out; omega)⟩, HR5, HW5⟩
        case round =>
          clear HR5 HW5 HSH
          obtain ⟨i, k, X, Y, Z, hi, rfl, rfl, rfl, HF, HR, HW⟩ := hrel
          cases gk with
          | zero =>
            obtain ⟨hk1, hk2, hk3, hk4, hk5⟩ := HF.out
            obtain rfl := hk5 rfl
            obtain ⟨hk6, rfl⟩ := short_end hk4 hk2
            obtain rfl : k = ps.length := by omega
            have hki : i = M := hi.out
            have HR0 := Lib.hid (show RD _ g 1000 ⟨#[]⟩ 0 from HR.out)
            have HBW := Lib.hid (HB4.out.trans (HW.out.mono HB4.out.size))
            have hmm := HMM.out
            have hcase : (¬ (i : Int) ≤ (l.length : Int)) ∨ ((i : Int) ≤ (l.length : Int) ∧ ¬ (i : Int) < 60) := by omega
            clear hk1 hk2 hk3 hk4 hk5 hk6 hki hmm
            rcases hcase with h1 | ⟨h1, h2⟩
            all_goals
              go_wp2_with (first | (go_at_call 13; refine (waits_rd HR0.out).mono ?_; rintro e w7 ⟨rfl, hr, hc⟩; have HB7 := Lib.hid (HBW.out.trans (hc.to_below HBW.out.size (fun k hk => hk ▸ Nat.le_trans HB4.out.size HG.out))); clear hr hc))
              go_ret
              exact ⟨rfl, HB7.out⟩
          | succ g1 =>
            have hkb := hi.out
            have hmm := HMM.out
            have HI := Lib.hid (show i ≤ l.length ∧ i < 60 ∧ (i + 1 = M ↔ g1 = 0) by omega)
            have h1 : (i : Int) ≤ (l.length : Int) := by omega
            have h2 : (i : Int) < 60 := by omega
            have HZY := Lib.hid (show Z.length + Y.length = G.size ∧ G.size ≤ 400 by
              have h3 := HGS.out
              have h4 := HT4.out
              rw [HF.out.2.2.1, List.length_append] at h3 h4
              omega)
            have hzy := HZY.out
            have hsub : wrap64 ((G.size : Int) - (Z.length : Int)) = ((Y.length : Nat) : Int) := by
              unfold wrap64
              omega
            clear hkb hmm hzy
            go_upto_region 21 with (fail)
            rw [hsub]
            clear h1 h2 hsub
            go_cut [70] (fun v70 wx => ∃ b : Bool, v70 = .bool b ∧ Hid ((b = true → i < l.length ∧ i + 1 ≠ M) ∧ (b = false → i + 1 = M)) ∧ wr = wx)
            case first =>
              have hmm := HMM.out
              have hii := HI.out
              by_cases hl : i < l.length
              · have q1 : (i : Int) < (l.length : Int) := by omega
                by_cases h59 : i < 59
                · have q2 : (i : Int) < 59 := by omega
                  have HB := Lib.hid (show i < l.length ∧ i + 1 ≠ M from ⟨hl, by omega⟩)
                  clear hmm hii hl h59
                  go_wp2
                  go_meet
                  exact ⟨true, rfl, Lib.hid ⟨fun _ => HB.out, fun h => absurd h (by decide)⟩, rfl⟩
                · have q2 : ¬ (i : Int) < 59 := by omega
                  have HB := Lib.hid (show i + 1 = M by omega)
                  clear hmm hii hl h59
                  go_wp2
                  go_meet
                  exact ⟨false, rfl, Lib.hid ⟨fun h => absurd h (by decide), fun _ => HB.out⟩, rfl⟩
              · have q1 : ¬ (i : Int) < (l.length : Int) := by omega
                have HB := Lib.hid (show i + 1 = M by omega)
                clear hmm hii hl
                go_wp2
                go_meet
                exact ⟨false, rfl, Lib.hid ⟨fun h => absurd h (by decide), fun _ => HB.out⟩, rfl⟩
            case rest =>
              obtain ⟨b, rfl, HBB, rfl⟩ := hcut
              go_upto_if 70 with (fail)
              go_cut [14] (fun v14 wx => ∃ m : Nat, v14 = .int .i64 m ∧ Hid (m ≤ Y.length ∧ (i + 1 = M → m = Y.length)) ∧ wr = wx)
              case first =>
                cases b with
                | false =>
                  go_wp2
                  go_meet
                  exact ⟨Y.length, rfl, Lib.hid ⟨Nat.le_refl _, fun _ => rfl⟩, rfl⟩
                | true =>
                  obtain ⟨hl, hne⟩ := HBB.out.1 rfl
                  obtain ⟨ad, rfl, hcl⟩ := HRI.out.2.2 (by omega)
                  have hcell := (Chg.of_below (S := fun _ => False) (HB4.out.trans (HW.out.mono HB4.out.size))).cell (hcl i hl) (fun h => h)
                  generalize l.getD i 0 = x at hcell
                  have HMY := Lib.hid (show (min (max x 0) (Y.length : Int)).toNat ≤ Y.length ∧ (i + 1 = M → (min (max x 0) (Y.length : Int)).toNat = Y.length) from ⟨by omega, fun h => absurd h hne⟩)
                  have hmm : min (max x 0) (Y.length : Int) = (((min (max x 0) (Y.length : Int)).toNat : Nat) : Int) := by omega
                  generalize (min (max x 0) (Y.length : Int)).toNat = m at HMY hmm
                  have q1 : (i : Int) < (l.length : Int) := by omega
                  clear hl hne hcl
                  go_wp2
                  go_meet
                  exact ⟨m, rfl, HMY, rfl⟩
              case rest =>
                obtain ⟨m, rfl, HMY, rfl⟩ := hcut
                clear HBB
                have hadd : wrap64 ((Z.length : Int) + (m : Int)) = ((Z.length + m : Nat) : Int) := by
                  have h1 := HZY.out
                  have h2 := HMY.out.1
                  unfold wrap64
                  omega
                have hext := HGE.out Z Y HF.out.2.2.1 m
                have hadd2 : IntKind.i64.wrap ((Z.length : Int) + (m : Int)) = (Z.length : Int) + (m : Int) := IntWalk.i64_in _ (by have h1 := HZY.out; have h2 := HMY.out.1; omega)
                have htn : ((Z.length : Int) + (m : Int)).toNat = Z.length + m := by omega
                have hs0 : (Z.length : Int) + (m : Int) ≤ (G.size : Int) := by have h1 := HZY.out; have h2 := HMY.out.1; omega
                have hs3 : (Z.length : Int) ≤ (Z.length : Int) + (m : Int) := by omega
                have hs1 : (Z.length : Int) ≤ ((Z.length + m : Nat) : Int) := by omega
                have hs2 : ((Z.length + m : Nat) : Int) ≤ (G.size : Int) := by have h1 := HZY.out; have h2 := HMY.out.1; omega
                have HFD := Lib.hid (feed_rd HR.out (toB (Y.take m)) (by
                  rw [toB_size, toB_size, List.length_take]
                  have h1 := HZY.out
                  have h3 := congrArg List.length HF.out.2.1
                  rw [tot_part ps k, List.length_append] at HT4
                  have h4 := HT4.out
                  rw [List.length_append] at h3
                  omega))
                rw [toB_app] at HFD
                go_upto_region 24 with (first
                  | (go_at_call 10; refine (HFD.out).mono ?_; rintro e w6 ⟨rfl, hr, hc⟩; have HR6 := Lib.hid hr; have HW6 := Lib.hid (HW.out.trans (hc.to_below HW.out.size (fun k hk => hk ▸ HG.out))); clear hr hc))
                clear hext hs0 hs1 hs2 hs3 htn hadd2
                go_upto_region 25 with (fail)
                rw [hadd]
                clear hadd
                have HT5 := Lib.hid (show tot (ps.drop k) = (X ++ Y.take m) ++ Y.drop m by rw [List.append_assoc, List.take_append_drop]; exact HF.out.2.1)
                clear HR HW HFD
                go_loopg [11] (ps.length - k) (fun gh v11 wx => ∃ (k1 : Nat) (X1 : List UInt8), Hid (k1 + gh = ps.length) ∧ v11 = .int .i64 k1 ∧ Hid (tot (ps.drop k1) = X1 ++ Y.drop m) ∧ Hid (RD wx g 1000 (toB X1) 0) ∧ Hid (Below w4.heap.size w4 wx))
                case atStart => exact ⟨k, X ++ Y.take m, Lib.hid (by have := HF.out.1; omega), rfl, HT5, HR6, HW6⟩
                case round =>
                  clear HR6 HW6 HT5
                  obtain ⟨k1, X1, hk1, rfl, HT6, HR6, HW6⟩ := hrel
                  rcases go_or HT6.out with ⟨hlt, Xa, rfl, hta⟩ | hsh
                  · cases gk with
                    | zero => exact absurd hlt (by have := hk1.out; omega)
                    | succ g2 =>
                      obtain ⟨kk, f, B, hN, hT12⟩ := next_give HPF.out (by have := HT4.out; omega) (by have := HT4.out; omega) hlt HR6.out
                      have HN := Lib.hid hN
                      have HT12 := Lib.hid hT12
                      have HTA := Lib.hid hta
                      obtain ⟨ad, rfl, hc4⟩ := HCL.out k1 hlt
                      obtain ⟨ty, u, hvu⟩ := (HPF.out ps[k1] (List.getElem_mem hlt)).1
                      have HT8 := Lib.hid (HTX.out k1 hlt)
                      rw [hvu] at hc4 HT8
                      have hge : ¬ (ps.length : Int) ≤ (k1 : Int) := by omega
                      have hlt1 : (k1 : Int) < (ps.length : Int) := by omega
                      clear hN hT12 hta hvu HT6 HR6
                      generalize toB ps[k1].2 = FT at HT8 HT12
                      have hgeN : ¬ ps.length ≤ k1 := by omega
                      have hged : decide (ps.length ≤ k1) = false := decide_eq_false hgeN
                      go_upto_region 27 with (first
                        | (go_at_call 11; refine (HN.out).mono ?_; rintro e w8 ⟨rfl, hr, hc⟩; have hw8 := HW6.out.trans (hc.to_below HW6.out.size (fun k hk => hk ▸ HG.out)); have HW8 := Lib.hid (hw8.alloc hw8.size (.cells #[.int .i64 (kk : Nat), .int .i64 (f : Nat), .string B] 36)); have HR8 := Lib.hid (hr.below ((Below.refl w8.heap.size w8).alloc (Nat.le_refl _) (.cells #[.int .i64 (kk : Nat), .int .i64 (f : Nat), .string B] 36))); clear hr hc hw8))
                      have HX9 := Lib.hid (heap_alloc_new w8 (.cells #[.int .i64 (kk : Nat), .int .i64 (f : Nat), .string B] 36))
                      have hbd : Below (w8.alloc (.cells #[.int .i64 (kk : Nat), .int .i64 (f : Nat), .string B] 36)).heap.size (w8.alloc (.cells #[.int .i64 (kk : Nat), .int .i64 (f : Nat), .string B] 36)) (w8.alloc (.cells #[.int .i64 (kk : Nat), .int .i64 (f : Nat), .string B] 36)).drew := ⟨rfl, rfl, rfl, Nat.le_refl _, fun _ _ => rfl⟩
                      have HXD := Lib.hid (blk_below HX9.out hbd)
                      have HWD := Lib.hid (HW8.out.trans (hbd.mono HW8.out.size))
                      have HRD := Lib.hid (HR8.out.below hbd)
                      obtain ⟨x0, x1, x2⟩ := frcell HXD.out
                      have x3 := (Chg.of_below (S := fun _ => False) HWD.out).cell hc4 (fun h => h)
                      clear hbd HX9 HW8 HR8 HN HW6 hc4
                      go_region_held3 (fun w' => w'.cell? ⟨w8.heap.size, 0, none⟩ = some (.int .i64 (kk : Nat)) ∧ w'.cell? ⟨w8.heap.size, 1, none⟩ = some (.int .i64 (f : Nat)) ∧ w'.cell? ⟨w8.heap.size, 2, none⟩ = some (.string B) ∧ w'.cell? (ad.add k1) = some (.iface ty u)) (first | exact ⟨x0, x1, x2, x3⟩ | exact ⟨y0, y1, y2, y3⟩ | exact ⟨z0, z1, z2, z3⟩ | go_keep) (first
                        | (go_at_call 12; refine (HT12.out _).mono ?_; rintro e wA ⟨rfl, hb⟩; have HWA := Lib.hid (HWB.out.trans (hb.mono HWB.out.size)); have HRA := Lib.hid (HRB.out.below hb); have HXA := Lib.hid (blk_below HXB.out hb); obtain ⟨y0, y1, y2⟩ := frcell HXA.out; have y3 := (Chg.of_below (S := fun _ => False) hb).cell z3 (fun h => h); clear hb)
                        | (go_at_call 12; refine (HT12.out _).mono ?_; rintro e wA ⟨rfl, hb⟩; have HWA := Lib.hid (HWD.out.trans (hb.mono HWD.out.size)); have HRA := Lib.hid (HRD.out.below hb); have HXA := Lib.hid (blk_below HXD.out hb); obtain ⟨y0, y1, y2⟩ := frcell HXA.out; have y3 := (Chg.of_below (S := fun _ => False) hb).cell x3 (fun h => h); clear hb)
                        | (go_at_call 8; refine (HT8.out _ HWA.out).mono ?_; rintro e wB ⟨rfl, hb⟩; have HWB := Lib.hid (HWA.out.trans (hb.mono HWA.out.size)); have HRB := Lib.hid (HRA.out.below hb); have HXB := Lib.hid (blk_below HXA.out hb); obtain ⟨z0, z1, z2⟩ := frcell HXB.out; have z3 := (Chg.of_below (S := fun _ => False) hb).cell y3 (fun h => h); clear hb)
                        | (go_at_call 8; refine (HT8.out _ HWD.out).mono ?_; rintro e wB ⟨rfl, hb⟩; have HWB := Lib.hid (HWD.out.trans (hb.mono HWD.out.size)); have HRB := Lib.hid (HRD.out.below hb); have HXB := Lib.hid (blk_below HXD.out hb); obtain ⟨z0, z1, z2⟩ := frcell HXB.out; have z3 := (Chg.of_below (S := fun _ => False) hb).cell x3 (fun h => h); clear hb))
                      all_goals
                        go_wp2
                        go_roundg g2
                        case measure => omega
                        case rel => first
                          | exact ⟨k1 + 1, Xa, Lib.hid (by have := hk1.out; omega), by have h1 := hk1.out; have h2 := HPL.out; rw [w64n k1 (by omega)], HTA, HRA, HWA⟩
                          | exact ⟨k1 + 1, Xa, Lib.hid (by have := hk1.out; omega), by have h1 := hk1.out; have h2 := HPL.out; rw [w64n k1 (by omega)], HTA, HRB, HWB⟩
                  · have HNW := Lib.hid (next_wait HPF.out (by have := HT4.out; omega) hsh HR6.out)
                    have HSH := Lib.hid hsh
                    clear hsh
                    go_wp2_with (first
                      | (go_at_call 11; refine (HNW.out).mono ?_; rintro e w8 ⟨rfl, hr, hc⟩; have hw8 := HW6.out.trans (hc.to_below HW6.out.size (fun k hk => hk ▸ HG.out)); have HW8 := Lib.hid (hw8.alloc hw8.size (.cells #[.int .i64 0, .int .i64 0, .string ⟨#[]⟩] 36)); have HR8 := Lib.hid (hr.below ((Below.refl w8.heap.size w8).alloc (Nat.le_refl _) (.cells #[.int .i64 0, .int .i64 0, .string ⟨#[]⟩] 36))); clear hr hc hw8))
                    go_roundg g1
                    case measure => omega
                    case rel => exact ⟨i + 1, k1, X1, Y.drop m, Z ++ Y.take m, Lib.hid (by have := hi.out; omega), by have h1 := HI.out.2.1; rw [w64n i (by omega)], rfl, by have h1 := HMY.out.1; rw [List.length_append, List.length_take, Nat.min_eq_left h1, Int.natCast_add], Lib.hid ⟨by have := hk1.out; omega, HT6.out, by rw [List.append_assoc, List.take_append_drop]; exact HF.out.2.2.1, HSH.out, fun h => by rw [HMY.out.2 (HI.out.2.2.2 h), List.drop_length]⟩, HR8, HW8⟩
end Go.Proofs.YtljbchghbpmghaaGreatDoor
