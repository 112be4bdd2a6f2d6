/- topic.Match, and the reference's. -/
import Derived.Test.YtjlohmhmnghjkaaDoorT3
import Derived.Test.YtjlohmhmnghjkaaDoorQ6
namespace Go.Proofs.YtjlohmhmnghjkaaDoor
open Go.RowKit Go.Lib Go.Proofs.YtjlohmhmnghjkaaDoorW.PrintWords Go.Proofs.YtjlohmhmnghjkaaDoor.PTopicReads
set_option linter.unusedVariables false
set_option linter.unusedSimpArgs false

/-- Do levels of a name meet those of a filter. -/
def meetsL : List ByteArray → List ByteArray → Bool
  | [], n => n.isEmpty
  | x :: f, n => if x.toList = [35] ∧ f = [] then true else
    match n with
    | [] => false
    | y :: n => if x.toList = [43] ∨ x.toList = y.toList then meetsL f n else false
/-- Begins a name with a $. -/
def hidB (s : ByteArray) : Bool := if 1 ≤ s.size then ((s.extract 0 1).toList == (⟨#[36]⟩ : ByteArray).toList) else false
theorem hidden_f (s : ByteArray) : topic_Hidden.f s = some (hidB s) := by
  unfold topic_Hidden.f strings_HasPrefix.f stringslite_HasPrefix.f hidB
  have e : ((⟨#[36]⟩ : ByteArray).size : Int) = 1 := rfl
  rw [e]
  by_cases h : 1 ≤ s.size
  · rw [if_pos (by omega), if_pos (by omega), if_pos (by omega), if_pos h]; rfl
  · rw [if_neg (by omega), if_neg h]; rfl
/-- May the first level meet a hidden name. -/
def signFirst : List ByteArray → Bool
  | [] => false
  | x :: _ => (x.toList == [43]) || (x.toList == [35])
def matchB (f n : ByteArray) : Bool := if hidB n && signFirst (levelsOf f) then false else meetsL (levelsOf f) (levelsOf n)
theorem levelsOf_ne (s : ByteArray) : 0 < (levelsOf s).length := by rw [levelsOf_length]; omega
set_option maxHeartbeats 4000000 in
set_option maxRecDepth 1000000 in
theorem match_calls (f n : ByteArray) (w : World) (hm : HasM w) (hf : f.size ≤ 1000000) (hn : n.size ≤ 1000000) : Calls Tryd.prog 28 #[.string f, .string n] w fun e w' => e = .returned (.bool (matchB f n)) ∧ Below w.heap.size w w' := by
  have HL1 := Lib.hid (levels_calls f w hm (by omega))
  have HL2 := Lib.hid (fun W hm => levels_calls n W hm (by omega))
  have HM := Lib.hid hm
  obtain ⟨Lf, hLf⟩ : ∃ L, levelsOf f = L := ⟨_, rfl⟩
  obtain ⟨Ln, hLn⟩ : ∃ L, levelsOf n = L := ⟨_, rfl⟩
  obtain ⟨hd, hhd⟩ : ∃ b, hidB n = b := ⟨_, rfl⟩
  have hlf : Lf.length ≤ 1000001 := by rw [← hLf, ← split_count]; have := count_small f; omega
  have hln : Ln.length ≤ 1000001 := by rw [← hLn, ← split_count]; have := count_small n; omega
  have hlf0 : 0 < Lf.length := by rw [← hLf]; exact levelsOf_ne f
  have HH := Lib.hid (hidden_f n)
  rw [hhd] at HH
  have HMB := Lib.hid (show matchB f n = if hd && signFirst Lf then false else meetsL Lf Ln by unfold matchB; rw [hLf, hLn, hhd])
  unfold LevelsPost at HL1 HL2
  rw [hLf] at HL1
  rw [hLn] at HL2
  generalize matchB f n = mb at HMB ⊢
  clear hm hhd hLf hLn hf hn
  have hsf : signFirst Lf = ((Lf[0].toList == ([43] : List UInt8)) || (Lf[0].toList == ([35] : List UInt8))) := by
    cases Lf with
    | nil => simp at hlf0
    | cons x l => rfl
  have HSF := Lib.hid hsf
  clear hsf
  go_enter Tryd.func28, Tryd.ntmps28
  go_upto_region 2 with (first
    | (go_at_call 23; refine HL1.out.mono ?_; rintro e w1 hp; obtain ⟨A1, c1, rfl, hR, hb⟩ := hp; have HR1 := Lib.hid hR; have HB := Lib.hid hb; clear hR hb HL1)
    | (go_at_call 23; refine (HL2.out _ (HM.out.to HB.out)).mono ?_; rintro e w2 hp; obtain ⟨A2, c2, rfl, hR, hb⟩ := hp; have HR2 := Lib.hid hR; have HB2 := Lib.hid (HB.out.trans (hb.mono HB.out.size)); have HR1' := Lib.hid (Kd.R_below HR1.out hb); clear hR hb HR1))
  have HC1 := Lib.hid (Kd.R_reads' HR1'.out).2.2
  have HC2 := Lib.hid (Kd.R_reads' HR2.out).2.2
  clear HR1' HR2 HB HL2
  cases hd with
  | false =>
    simp only [Bool.false_and, Bool.false_eq_true, if_false] at HMB
    go_upto_region 4 with (go_at_call 27; refine (topic_Hidden.calls n _ _ HH.out).mono ?_; rintro e w3 ⟨rfl, hdr⟩; have HB23 := Lib.hid hdr.below; have HB3 := Lib.hid (HB2.out.trans (hdr.below.mono HB2.out.size)); clear hdr)
    clear HH
    go_upto_region 5 with (fail)
    go_loopg [29] Lf.length (fun gh v wx => ∃ j : Nat, Hid (j + gh = Lf.length) ∧ Hid (j ≤ Ln.length) ∧ v = .int .i64 j ∧ Hid (mb = meetsL (Lf.drop j) (Ln.drop j)) ∧ Hid (Below w3.heap.size w3 wx))
    case atStart => exact ⟨0, Lib.hid (Nat.zero_add _), Lib.hid (Nat.zero_le _), rfl, HMB, Lib.hid (Below.refl _ _)⟩
    case round =>
      clear HMB
      obtain ⟨j, hj, hjn, rfl, HMB, HB⟩ := hrel
      cases gk with
      | zero =>
        have hjl : ¬ j < Lf.length := by have := hj.out; omega
        have hmb : mb = ((Lf.length : Int) == (Ln.length : Int)) := by
          rw [HMB.out, List.drop_eq_nil_of_le (by omega)]
          have h1 := hj.out
          have h2 := hjn.out
          cases hd : Ln.drop j with
          | nil =>
            have h3 := congrArg List.length hd
            simp only [List.length_drop, List.length_nil] at h3
            show true = _
            exact (beq_iff_eq.2 (by omega)).symm
          | cons a l =>
            have h3 := congrArg List.length hd
            simp only [List.length_drop, List.length_cons] at h3
            show false = _
            exact (beq_eq_false_iff_ne.2 (by omega)).symm
        have HMB2 := Lib.hid hmb
        clear hmb
        go_wp2
        go_ret
        exact ⟨by rw [HMB2.out]; rfl, HB3.out.trans (HB.out.mono HB3.out.size)⟩
      | succ g1 =>
        have hjl : j < Lf.length := by have := hj.out; omega
        obtain ⟨ad, hA, hcell⟩ := Kd.at_string HC1.out (j : Int) (by omega) (by omega)
        cases hA
        have hcell := ((HB23.out.trans (HB.out.mono HB23.out.size)).cell (World.block_lt_of_cell? w2 _ hcell)).trans hcell
        rw [Int.toNat_natCast, rdOf_at Lf j hjl] at hcell
        rw [List.drop_eq_getElem_cons hjl] at HMB
        have hlast : (Lf.drop (j + 1) = []) ↔ j + 1 = Lf.length := by rw [List.drop_eq_nil_iff]; omega
        have hlen1 : ((j : Int) == (Lf.length : Int) - 1) = decide (j + 1 = Lf.length) := by
          by_cases h : j + 1 = Lf.length
          · rw [decide_eq_true h]; exact beq_iff_eq.2 (by omega)
          · rw [decide_eq_false h]; exact beq_eq_false_iff_ne.2 (by omega)
        generalize Lf[j] = x at hcell HMB
        unfold meetsL at HMB
        by_cases h35 : x.toList = [35] ∧ j + 1 = Lf.length
        · have b35 : (x.toList == ([35] : List UInt8)) = true := beq_iff_eq.2 h35.1
          have hl2 : ((j : Int) == (Lf.length : Int) - 1) = true := by rw [hlen1, decide_eq_true h35.2]
          rw [if_pos ⟨h35.1, hlast.2 h35.2⟩] at HMB
          clear h35 hlast hlen1
          go_wp2
          go_ret
          exact ⟨by rw [HMB.out]; rfl, HB3.out.trans (HB.out.mono HB3.out.size)⟩
        · rw [if_neg (fun h => h35 ⟨h.1, hlast.1 h.2⟩)] at HMB
          have hcs : ((x.toList == ([35] : List UInt8)) = false) ∨ ((x.toList == ([35] : List UInt8)) = true ∧ ((j : Int) == (Lf.length : Int) - 1) = false) := by
            by_cases h1 : x.toList = [35]
            · exact .inr ⟨beq_iff_eq.2 h1, by rw [hlen1]; exact decide_eq_false (fun h => h35 ⟨h1, h⟩)⟩
            · exact .inl (beq_eq_false_iff_ne.2 h1)
          clear h35 hlast hlen1
          by_cases hjn2 : j < Ln.length
          · obtain ⟨ad2, hA2, hcell2⟩ := Kd.at_string HC2.out (j : Int) (by omega) (by omega)
            cases hA2
            have hcell2 := ((HB23.out.trans (HB.out.mono HB23.out.size)).cell (World.block_lt_of_cell? w2 _ hcell2)).trans hcell2
            rw [Int.toNat_natCast, rdOf_at Ln j hjn2] at hcell2
            rw [List.drop_eq_getElem_cons hjn2] at HMB
            generalize Ln[j] = y at hcell2 HMB
            simp only at HMB
            by_cases h43 : x.toList = [43]
            · have b43 : (x.toList == ([43] : List UInt8)) = true := beq_iff_eq.2 h43
              have hjn3 : ¬ Ln.length ≤ j := by omega
              rw [if_pos (.inl h43)] at HMB
              clear h43
              rcases hcs with b35 | ⟨b35, hl2⟩
              all_goals
                go_wp2
                go_roundg g1
                case measure => omega
                case rel => exact ⟨j + 1, Lib.hid (by have := hj.out; omega), Lib.hid (by omega), by simp, HMB, HB⟩
            · have b43 : (x.toList == ([43] : List UInt8)) = false := beq_eq_false_iff_ne.2 h43
              have hjn3 : ¬ Ln.length ≤ j := by omega
              by_cases hxy : x.toList = y.toList
              · have bxy : (x.toList == y.toList) = true := beq_iff_eq.2 hxy
                rw [if_pos (.inr hxy)] at HMB
                clear h43 hxy
                rcases hcs with b35 | ⟨b35, hl2⟩
                all_goals
                  go_wp2
                  go_roundg g1
                  case measure => omega
                  case rel => exact ⟨j + 1, Lib.hid (by have := hj.out; omega), Lib.hid (by omega), by simp, HMB, HB⟩
              · have bxy : (x.toList == y.toList) = false := beq_eq_false_iff_ne.2 hxy
                rw [if_neg (fun h => h.elim h43 hxy)] at HMB
                clear h43 hxy
                rcases hcs with b35 | ⟨b35, hl2⟩
                all_goals
                  go_wp2
                  go_ret
                  exact ⟨by rw [HMB.out]; rfl, HB3.out.trans (HB.out.mono HB3.out.size)⟩
          · rw [List.drop_eq_nil_of_le (by omega)] at HMB
            simp only at HMB
            have hjn3 : Ln.length ≤ j := by omega
            rcases hcs with b35 | ⟨b35, hl2⟩
            all_goals
              go_wp2
              go_ret
              exact ⟨by rw [HMB.out]; rfl, HB3.out.trans (HB.out.mono HB3.out.size)⟩
  | true =>
    obtain ⟨ad0, hA0, hx0⟩ := Kd.at_string HC1.out 0 (by omega) (by omega)
    cases hA0
    rw [show rdOf ByteArray.empty Lf 0 = Lf[0] from rdOf_at Lf 0 hlf0] at hx0
    simp only [Bool.true_and] at HMB
    rw [HSF.out] at HMB
    generalize Lf[0] = x0 at HMB hx0
    have hx0 : w2.cell? ad0 = some (.string x0) := by
      have h := hx0
      rw [show ad0.add (0 : Int).toNat = ad0 by unfold Addr.add; simp] at h
      exact h
    cases b43 : (x0.toList == ([43] : List UInt8)) with
    | true =>
      rw [b43] at HMB
      simp only [Bool.true_or, if_true] at HMB
      go_wp2_with (first | (go_at_call 27; refine (topic_Hidden.calls n _ _ HH.out).mono ?_; rintro e w3 ⟨rfl, hdr⟩; have HB23 := Lib.hid hdr.below; have HB3 := Lib.hid (HB2.out.trans (hdr.below.mono HB2.out.size)); have hx0 := (hdr.below.cell (World.block_lt_of_cell? w2 _ hx0)).trans hx0; clear hdr))
      go_ret
      exact ⟨by rw [HMB.out]; rfl, HB3.out⟩
    | false =>
      rw [b43, Bool.false_or] at HMB
      cases b35 : (x0.toList == ([35] : List UInt8)) with
      | true =>
        rw [b35] at HMB
        simp only [if_true] at HMB
        go_wp2_with (first | (go_at_call 27; refine (topic_Hidden.calls n _ _ HH.out).mono ?_; rintro e w3 ⟨rfl, hdr⟩; have HB23 := Lib.hid hdr.below; have HB3 := Lib.hid (HB2.out.trans (hdr.below.mono HB2.out.size)); have hx0 := (hdr.below.cell (World.block_lt_of_cell? w2 _ hx0)).trans hx0; clear hdr))
        go_ret
        exact ⟨by rw [HMB.out]; rfl, HB3.out⟩
      | false =>
        rw [b35] at HMB
        simp only [Bool.false_eq_true, if_false] at HMB
        go_upto_region 4 with (go_at_call 27; refine (topic_Hidden.calls n _ _ HH.out).mono ?_; rintro e w3 ⟨rfl, hdr⟩; have HB23 := Lib.hid hdr.below; have HB3 := Lib.hid (HB2.out.trans (hdr.below.mono HB2.out.size)); have hx0 := (hdr.below.cell (World.block_lt_of_cell? w2 _ hx0)).trans hx0; clear hdr)
        clear hx0 b43 b35
        clear HH
        go_upto_region 5 with (fail)
        go_loopg [29] Lf.length (fun gh v wx => ∃ j : Nat, Hid (j + gh = Lf.length) ∧ Hid (j ≤ Ln.length) ∧ v = .int .i64 j ∧ Hid (mb = meetsL (Lf.drop j) (Ln.drop j)) ∧ Hid (Below w3.heap.size w3 wx))
        case atStart => exact ⟨0, Lib.hid (Nat.zero_add _), Lib.hid (Nat.zero_le _), rfl, HMB, Lib.hid (Below.refl _ _)⟩
        case round =>
          clear HMB
          obtain ⟨j, hj, hjn, rfl, HMB, HB⟩ := hrel
          cases gk with
          | zero =>
            have hjl : ¬ j < Lf.length := by have := hj.out; omega
            have hmb : mb = ((Lf.length : Int) == (Ln.length : Int)) := by
              rw [HMB.out, List.drop_eq_nil_of_le (by omega)]
              have h1 := hj.out
              have h2 := hjn.out
              cases hd : Ln.drop j with
              | nil =>
                have h3 := congrArg List.length hd
                simp only [List.length_drop, List.length_nil] at h3
                show true = _
                exact (beq_iff_eq.2 (by omega)).symm
              | cons a l =>
                have h3 := congrArg List.length hd
                simp only [List.length_drop, List.length_cons] at h3
                show false = _
                exact (beq_eq_false_iff_ne.2 (by omega)).symm
            have HMB2 := Lib.hid hmb
            clear hmb
            go_wp2
            go_ret
            exact ⟨by rw [HMB2.out]; rfl, HB3.out.trans (HB.out.mono HB3.out.size)⟩
          | succ g1 =>
            have hjl : j < Lf.length := by have := hj.out; omega
            obtain ⟨ad, hA, hcell⟩ := Kd.at_string HC1.out (j : Int) (by omega) (by omega)
            cases hA
            have hcell := ((HB23.out.trans (HB.out.mono HB23.out.size)).cell (World.block_lt_of_cell? w2 _ hcell)).trans hcell
            rw [Int.toNat_natCast, rdOf_at Lf j hjl] at hcell
            rw [List.drop_eq_getElem_cons hjl] at HMB
            have hlast : (Lf.drop (j + 1) = []) ↔ j + 1 = Lf.length := by rw [List.drop_eq_nil_iff]; omega
            have hlen1 : ((j : Int) == (Lf.length : Int) - 1) = decide (j + 1 = Lf.length) := by
              by_cases h : j + 1 = Lf.length
              · rw [decide_eq_true h]; exact beq_iff_eq.2 (by omega)
              · rw [decide_eq_false h]; exact beq_eq_false_iff_ne.2 (by omega)
            generalize Lf[j] = x at hcell HMB
            unfold meetsL at HMB
            by_cases h35 : x.toList = [35] ∧ j + 1 = Lf.length
            · have b35 : (x.toList == ([35] : List UInt8)) = true := beq_iff_eq.2 h35.1
              have hl2 : ((j : Int) == (Lf.length : Int) - 1) = true := by rw [hlen1, decide_eq_true h35.2]
              rw [if_pos ⟨h35.1, hlast.2 h35.2⟩] at HMB
              clear h35 hlast hlen1
              go_wp2
              go_ret
              exact ⟨by rw [HMB.out]; rfl, HB3.out.trans (HB.out.mono HB3.out.size)⟩
            · rw [if_neg (fun h => h35 ⟨h.1, hlast.1 h.2⟩)] at HMB
              have hcs : ((x.toList == ([35] : List UInt8)) = false) ∨ ((x.toList == ([35] : List UInt8)) = true ∧ ((j : Int) == (Lf.length : Int) - 1) = false) := by
                by_cases h1 : x.toList = [35]
                · exact .inr ⟨beq_iff_eq.2 h1, by rw [hlen1]; exact decide_eq_false (fun h => h35 ⟨h1, h⟩)⟩
                · exact .inl (beq_eq_false_iff_ne.2 h1)
              clear h35 hlast hlen1
              by_cases hjn2 : j < Ln.length
              · obtain ⟨ad2, hA2, hcell2⟩ := Kd.at_string HC2.out (j : Int) (by omega) (by omega)
                cases hA2
                have hcell2 := ((HB23.out.trans (HB.out.mono HB23.out.size)).cell (World.block_lt_of_cell? w2 _ hcell2)).trans hcell2
                rw [Int.toNat_natCast, rdOf_at Ln j hjn2] at hcell2
                rw [List.drop_eq_getElem_cons hjn2] at HMB
                generalize Ln[j] = y at hcell2 HMB
                simp only at HMB
                by_cases h43 : x.toList = [43]
                · have b43 : (x.toList == ([43] : List UInt8)) = true := beq_iff_eq.2 h43
                  have hjn3 : ¬ Ln.length ≤ j := by omega
                  rw [if_pos (.inl h43)] at HMB
                  clear h43
                  rcases hcs with b35 | ⟨b35, hl2⟩
                  all_goals
                    go_wp2
                    go_roundg g1
                    case measure => omega
                    case rel => exact ⟨j + 1, Lib.hid (by have := hj.out; omega), Lib.hid (by omega), by simp, HMB, HB⟩
                · have b43 : (x.toList == ([43] : List UInt8)) = false := beq_eq_false_iff_ne.2 h43
                  have hjn3 : ¬ Ln.length ≤ j := by omega
                  by_cases hxy : x.toList = y.toList
                  · have bxy : (x.toList == y.toList) = true := beq_iff_eq.2 hxy
                    rw [if_pos (.inr hxy)] at HMB
                    clear h43 hxy
                    rcases hcs with b35 | ⟨b35, hl2⟩
                    all_goals
                      go_wp2
                      go_roundg g1
                      case measure => omega
                      case rel => exact ⟨j + 1, Lib.hid (by have := hj.out; omega), Lib.hid (by omega), by simp, HMB, HB⟩
                  · have bxy : (x.toList == y.toList) = false := beq_eq_false_iff_ne.2 hxy
                    rw [if_neg (fun h => h.elim h43 hxy)] at HMB
                    clear h43 hxy
                    rcases hcs with b35 | ⟨b35, hl2⟩
                    all_goals
                      go_wp2
                      go_ret
                      exact ⟨by rw [HMB.out]; rfl, HB3.out.trans (HB.out.mono HB3.out.size)⟩
              · rw [List.drop_eq_nil_of_le (by omega)] at HMB
                simp only at HMB
                have hjn3 : Ln.length ≤ j := by omega
                rcases hcs with b35 | ⟨b35, hl2⟩
                all_goals
                  go_wp2
                  go_ret
                  exact ⟨by rw [HMB.out]; rfl, HB3.out.trans (HB.out.mono HB3.out.size)⟩
end Go.Proofs.YtjlohmhmnghjkaaDoor
