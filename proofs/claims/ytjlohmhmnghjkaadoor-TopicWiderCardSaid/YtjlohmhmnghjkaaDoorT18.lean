/- TopicWider: the cases. -/
import Derived.Test.YtjlohmhmnghjkaaDoorT17
namespace Go.Proofs.YtjlohmhmnghjkaaDoor
open Go.RowKit Go.Lib Go.Proofs.YtjlohmhmnghjkaaDoorW.PrintWords Go.Proofs.YtjlohmhmnghjkaaDoor.PTopicReads
set_option linter.unusedVariables false
set_option linter.unusedSimpArgs false

set_option maxHeartbeats 2000000 in
set_option maxRecDepth 1000000 in
theorem wider_calls (f0 n0 : ByteArray) (at0 : Int) (w : World) (hm : HasM w) (ha : (Lit.int .i64 at0).wf = true) : Calls Tryd.prog 8 #[.string f0, .string n0, .int .i64 at0] w fun e w' => e = .returned (.bool true) ∧ Below w.heap.size w w' := by
  by_cases hall : filterB (cutS f0 80) = true ∧ nameB (cutS n0 80) = true ∧ hidB (cutS n0 80) = false ∧ matchB (cutS f0 80) (cutS n0 80) = true ∧ 0 ≤ at0 ∧ at0 < (levelsOf (cutS f0 80)).length
  · obtain ⟨h1, h2, h3, h4, h5, h6⟩ := hall
    obtain ⟨k, rfl⟩ : ∃ k : Nat, at0 = k := ⟨at0.toNat, (Int.toNat_of_nonneg h5).symm⟩
    exact wider_main f0 n0 k w hm h1 h2 h3 h4 (by omega)
  have HM := Lib.hid hm
  have HB := Lib.hid (Below.refl w.heap.size w)
  have HC1 := Lib.hid (cut_f f0 80)
  have HC2 := Lib.hid (cut_f n0 80)
  have hs1 := cutS_size f0 80
  have hs2 := cutS_size n0 80
  generalize cutS f0 80 = f at HC1 hs1 hall
  generalize cutS n0 80 = n at HC2 hs2 hall
  have HN := Lib.hid (fun W => name_callsB n W (by omega))
  have HF := Lib.hid (fun W hm => filter_callsB f W hm (by omega))
  have HMC := Lib.hid (fun W hm => match_calls f n W hm (by omega) (by omega))
  have HH := Lib.hid (hidden_f n)
  have HLV := Lib.hid (fun W hm => levels_calls f W hm (by omega))
  have hll : (levelsOf f).length ≤ 81 := by rw [← split_count]; have := count_small f; omega
  unfold LevelsPost at HLV
  clear hm ha hs1 hs2
  generalize filterB f = fb at HF hall
  generalize nameB n = nb at HN hall
  generalize matchB f n = mb at HMC hall
  generalize hidB n = hb0 at HH hall
  generalize levelsOf f = L at HLV hll hall
  have out : fb = false ∨ nb = false ∨ hb0 = true ∨ mb = false → Calls Tryd.prog 8 #[.string f0, .string n0, .int .i64 at0] w fun e w' => e = .returned (.bool true) ∧ Below w.heap.size w w' := fun ho => by
    clear hall hll HLV
    cases fb with
    | false =>
      clear ho
      go_enter Tryd.func8, Tryd.ntmps8
      go_wp2_with (first
      | (go_at_call 10; refine (switchboardlaw01_Cut.calls f0 80 _ _ HC1.out).mono ?_; rintro e w1 ⟨rfl, hd⟩; have HB1 := Lib.hid (HB.out.trans ((hd.below).mono HB.out.size)); clear HB hd HC1; have HB := HB1; clear HB1)
      | (go_at_call 10; refine (switchboardlaw01_Cut.calls n0 80 _ _ HC2.out).mono ?_; rintro e w1 ⟨rfl, hd⟩; have HB1 := Lib.hid (HB.out.trans ((hd.below).mono HB.out.size)); clear HB hd HC2; have HB := HB1; clear HB1)
      | (go_at_call 21; refine (awake10_calls _ (HM.out.to HB.out)).mono ?_; rintro e w1 ⟨rfl, hb⟩; have HB1 := Lib.hid (HB.out.trans ((hb).mono HB.out.size)); clear HB hb ; have HB := HB1; clear HB1)
      | (go_at_call 17; refine (HF.out _ (HM.out.to HB.out)).mono ?_; rintro e w1 ⟨rfl, hb⟩; have HB1 := Lib.hid (HB.out.trans ((hb).mono HB.out.size)); clear HB hb HF; have HB := HB1; clear HB1)
      | (go_at_call 16; refine (HN.out _).mono ?_; rintro e w1 ⟨rfl, hb⟩; have HB1 := Lib.hid (HB.out.trans ((hb).mono HB.out.size)); clear HB hb HN; have HB := HB1; clear HB1)
      | (go_at_call 27; refine (topic_Hidden.calls n _ _ HH.out).mono ?_; rintro e w1 ⟨rfl, hd⟩; have HB1 := Lib.hid (HB.out.trans ((hd.below).mono HB.out.size)); clear HB hd ; have HB := HB1; clear HB1)
      | (go_at_call 28; refine (HMC.out _ (HM.out.to HB.out)).mono ?_; rintro e w1 ⟨rfl, hb⟩; have HB1 := Lib.hid (HB.out.trans ((hb).mono HB.out.size)); clear HB hb HMC; have HB := HB1; clear HB1))
      go_ret
      exact ⟨rfl, HB.out⟩
    | true =>
      cases nb with
      | false =>
        clear ho
        go_enter Tryd.func8, Tryd.ntmps8
        go_wp2_with (first
      | (go_at_call 10; refine (switchboardlaw01_Cut.calls f0 80 _ _ HC1.out).mono ?_; rintro e w1 ⟨rfl, hd⟩; have HB1 := Lib.hid (HB.out.trans ((hd.below).mono HB.out.size)); clear HB hd HC1; have HB := HB1; clear HB1)
      | (go_at_call 10; refine (switchboardlaw01_Cut.calls n0 80 _ _ HC2.out).mono ?_; rintro e w1 ⟨rfl, hd⟩; have HB1 := Lib.hid (HB.out.trans ((hd.below).mono HB.out.size)); clear HB hd HC2; have HB := HB1; clear HB1)
      | (go_at_call 21; refine (awake10_calls _ (HM.out.to HB.out)).mono ?_; rintro e w1 ⟨rfl, hb⟩; have HB1 := Lib.hid (HB.out.trans ((hb).mono HB.out.size)); clear HB hb ; have HB := HB1; clear HB1)
      | (go_at_call 17; refine (HF.out _ (HM.out.to HB.out)).mono ?_; rintro e w1 ⟨rfl, hb⟩; have HB1 := Lib.hid (HB.out.trans ((hb).mono HB.out.size)); clear HB hb HF; have HB := HB1; clear HB1)
      | (go_at_call 16; refine (HN.out _).mono ?_; rintro e w1 ⟨rfl, hb⟩; have HB1 := Lib.hid (HB.out.trans ((hb).mono HB.out.size)); clear HB hb HN; have HB := HB1; clear HB1)
      | (go_at_call 27; refine (topic_Hidden.calls n _ _ HH.out).mono ?_; rintro e w1 ⟨rfl, hd⟩; have HB1 := Lib.hid (HB.out.trans ((hd.below).mono HB.out.size)); clear HB hd ; have HB := HB1; clear HB1)
      | (go_at_call 28; refine (HMC.out _ (HM.out.to HB.out)).mono ?_; rintro e w1 ⟨rfl, hb⟩; have HB1 := Lib.hid (HB.out.trans ((hb).mono HB.out.size)); clear HB hb HMC; have HB := HB1; clear HB1))
        go_ret
        exact ⟨rfl, HB.out⟩
      | true =>
        cases hb0 with
        | true =>
          clear ho
          go_enter Tryd.func8, Tryd.ntmps8
          go_wp2_with (first
      | (go_at_call 10; refine (switchboardlaw01_Cut.calls f0 80 _ _ HC1.out).mono ?_; rintro e w1 ⟨rfl, hd⟩; have HB1 := Lib.hid (HB.out.trans ((hd.below).mono HB.out.size)); clear HB hd HC1; have HB := HB1; clear HB1)
      | (go_at_call 10; refine (switchboardlaw01_Cut.calls n0 80 _ _ HC2.out).mono ?_; rintro e w1 ⟨rfl, hd⟩; have HB1 := Lib.hid (HB.out.trans ((hd.below).mono HB.out.size)); clear HB hd HC2; have HB := HB1; clear HB1)
      | (go_at_call 21; refine (awake10_calls _ (HM.out.to HB.out)).mono ?_; rintro e w1 ⟨rfl, hb⟩; have HB1 := Lib.hid (HB.out.trans ((hb).mono HB.out.size)); clear HB hb ; have HB := HB1; clear HB1)
      | (go_at_call 17; refine (HF.out _ (HM.out.to HB.out)).mono ?_; rintro e w1 ⟨rfl, hb⟩; have HB1 := Lib.hid (HB.out.trans ((hb).mono HB.out.size)); clear HB hb HF; have HB := HB1; clear HB1)
      | (go_at_call 16; refine (HN.out _).mono ?_; rintro e w1 ⟨rfl, hb⟩; have HB1 := Lib.hid (HB.out.trans ((hb).mono HB.out.size)); clear HB hb HN; have HB := HB1; clear HB1)
      | (go_at_call 27; refine (topic_Hidden.calls n _ _ HH.out).mono ?_; rintro e w1 ⟨rfl, hd⟩; have HB1 := Lib.hid (HB.out.trans ((hd.below).mono HB.out.size)); clear HB hd ; have HB := HB1; clear HB1)
      | (go_at_call 28; refine (HMC.out _ (HM.out.to HB.out)).mono ?_; rintro e w1 ⟨rfl, hb⟩; have HB1 := Lib.hid (HB.out.trans ((hb).mono HB.out.size)); clear HB hb HMC; have HB := HB1; clear HB1))
          go_ret
          exact ⟨rfl, HB.out⟩
        | false =>
          obtain rfl : mb = false := by simpa using ho
          clear ho
          go_enter Tryd.func8, Tryd.ntmps8
          go_wp2_with (first
      | (go_at_call 10; refine (switchboardlaw01_Cut.calls f0 80 _ _ HC1.out).mono ?_; rintro e w1 ⟨rfl, hd⟩; have HB1 := Lib.hid (HB.out.trans ((hd.below).mono HB.out.size)); clear HB hd HC1; have HB := HB1; clear HB1)
      | (go_at_call 10; refine (switchboardlaw01_Cut.calls n0 80 _ _ HC2.out).mono ?_; rintro e w1 ⟨rfl, hd⟩; have HB1 := Lib.hid (HB.out.trans ((hd.below).mono HB.out.size)); clear HB hd HC2; have HB := HB1; clear HB1)
      | (go_at_call 21; refine (awake10_calls _ (HM.out.to HB.out)).mono ?_; rintro e w1 ⟨rfl, hb⟩; have HB1 := Lib.hid (HB.out.trans ((hb).mono HB.out.size)); clear HB hb ; have HB := HB1; clear HB1)
      | (go_at_call 17; refine (HF.out _ (HM.out.to HB.out)).mono ?_; rintro e w1 ⟨rfl, hb⟩; have HB1 := Lib.hid (HB.out.trans ((hb).mono HB.out.size)); clear HB hb HF; have HB := HB1; clear HB1)
      | (go_at_call 16; refine (HN.out _).mono ?_; rintro e w1 ⟨rfl, hb⟩; have HB1 := Lib.hid (HB.out.trans ((hb).mono HB.out.size)); clear HB hb HN; have HB := HB1; clear HB1)
      | (go_at_call 27; refine (topic_Hidden.calls n _ _ HH.out).mono ?_; rintro e w1 ⟨rfl, hd⟩; have HB1 := Lib.hid (HB.out.trans ((hd.below).mono HB.out.size)); clear HB hd ; have HB := HB1; clear HB1)
      | (go_at_call 28; refine (HMC.out _ (HM.out.to HB.out)).mono ?_; rintro e w1 ⟨rfl, hb⟩; have HB1 := Lib.hid (HB.out.trans ((hb).mono HB.out.size)); clear HB hb HMC; have HB := HB1; clear HB1))
          go_ret
          exact ⟨rfl, HB.out⟩
  by_cases hc : fb = false ∨ nb = false ∨ hb0 = true ∨ mb = false
  · exact out hc
  · obtain rfl : fb = true := by cases fb <;> simp_all
    obtain rfl : nb = true := by cases nb <;> simp_all
    obtain rfl : hb0 = false := by cases hb0 <;> simp_all
    obtain rfl : mb = true := by cases mb <;> simp_all
    have hat : ¬ (0 ≤ at0 ∧ at0 < L.length) := fun h => hall ⟨rfl, rfl, rfl, rfl, h.1, h.2⟩
    clear hall hc out
    by_cases h1 : at0 < 0
    · have h1d : decide (at0 < 0) = true := decide_eq_true h1
      clear hat h1 hll
      go_enter Tryd.func8, Tryd.ntmps8
      go_wp2_with (first
      | (go_at_call 10; refine (switchboardlaw01_Cut.calls f0 80 _ _ HC1.out).mono ?_; rintro e w1 ⟨rfl, hd⟩; have HB1 := Lib.hid (HB.out.trans ((hd.below).mono HB.out.size)); clear HB hd HC1; have HB := HB1; clear HB1)
      | (go_at_call 10; refine (switchboardlaw01_Cut.calls n0 80 _ _ HC2.out).mono ?_; rintro e w1 ⟨rfl, hd⟩; have HB1 := Lib.hid (HB.out.trans ((hd.below).mono HB.out.size)); clear HB hd HC2; have HB := HB1; clear HB1)
      | (go_at_call 21; refine (awake10_calls _ (HM.out.to HB.out)).mono ?_; rintro e w1 ⟨rfl, hb⟩; have HB1 := Lib.hid (HB.out.trans ((hb).mono HB.out.size)); clear HB hb ; have HB := HB1; clear HB1)
      | (go_at_call 17; refine (HF.out _ (HM.out.to HB.out)).mono ?_; rintro e w1 ⟨rfl, hb⟩; have HB1 := Lib.hid (HB.out.trans ((hb).mono HB.out.size)); clear HB hb HF; have HB := HB1; clear HB1)
      | (go_at_call 16; refine (HN.out _).mono ?_; rintro e w1 ⟨rfl, hb⟩; have HB1 := Lib.hid (HB.out.trans ((hb).mono HB.out.size)); clear HB hb HN; have HB := HB1; clear HB1)
      | (go_at_call 27; refine (topic_Hidden.calls n _ _ HH.out).mono ?_; rintro e w1 ⟨rfl, hd⟩; have HB1 := Lib.hid (HB.out.trans ((hd.below).mono HB.out.size)); clear HB hd ; have HB := HB1; clear HB1)
      | (go_at_call 28; refine (HMC.out _ (HM.out.to HB.out)).mono ?_; rintro e w1 ⟨rfl, hb⟩; have HB1 := Lib.hid (HB.out.trans ((hb).mono HB.out.size)); clear HB hb HMC; have HB := HB1; clear HB1)
      | (go_at_call 23; refine (HLV.out _ (HM.out.to HB.out)).mono ?_; rintro e w1 hp; obtain ⟨A1, c1, rfl, hR, hb⟩ := hp; have HB1 := Lib.hid (HB.out.trans (hb.mono HB.out.size)); clear HB hb hR HLV; have HB := HB1; clear HB1))
      go_ret
      exact ⟨rfl, HB.out⟩
    · have h1d : decide (at0 < 0) = false := decide_eq_false h1
      have h2d : ((L.length : Int) ≤ at0) := by omega
      clear hat h1 hll
      go_enter Tryd.func8, Tryd.ntmps8
      go_wp2_with (first
      | (go_at_call 10; refine (switchboardlaw01_Cut.calls f0 80 _ _ HC1.out).mono ?_; rintro e w1 ⟨rfl, hd⟩; have HB1 := Lib.hid (HB.out.trans ((hd.below).mono HB.out.size)); clear HB hd HC1; have HB := HB1; clear HB1)
      | (go_at_call 10; refine (switchboardlaw01_Cut.calls n0 80 _ _ HC2.out).mono ?_; rintro e w1 ⟨rfl, hd⟩; have HB1 := Lib.hid (HB.out.trans ((hd.below).mono HB.out.size)); clear HB hd HC2; have HB := HB1; clear HB1)
      | (go_at_call 21; refine (awake10_calls _ (HM.out.to HB.out)).mono ?_; rintro e w1 ⟨rfl, hb⟩; have HB1 := Lib.hid (HB.out.trans ((hb).mono HB.out.size)); clear HB hb ; have HB := HB1; clear HB1)
      | (go_at_call 17; refine (HF.out _ (HM.out.to HB.out)).mono ?_; rintro e w1 ⟨rfl, hb⟩; have HB1 := Lib.hid (HB.out.trans ((hb).mono HB.out.size)); clear HB hb HF; have HB := HB1; clear HB1)
      | (go_at_call 16; refine (HN.out _).mono ?_; rintro e w1 ⟨rfl, hb⟩; have HB1 := Lib.hid (HB.out.trans ((hb).mono HB.out.size)); clear HB hb HN; have HB := HB1; clear HB1)
      | (go_at_call 27; refine (topic_Hidden.calls n _ _ HH.out).mono ?_; rintro e w1 ⟨rfl, hd⟩; have HB1 := Lib.hid (HB.out.trans ((hd.below).mono HB.out.size)); clear HB hd ; have HB := HB1; clear HB1)
      | (go_at_call 28; refine (HMC.out _ (HM.out.to HB.out)).mono ?_; rintro e w1 ⟨rfl, hb⟩; have HB1 := Lib.hid (HB.out.trans ((hb).mono HB.out.size)); clear HB hb HMC; have HB := HB1; clear HB1)
      | (go_at_call 23; refine (HLV.out _ (HM.out.to HB.out)).mono ?_; rintro e w1 hp; obtain ⟨A1, c1, rfl, hR, hb⟩ := hp; have HB1 := Lib.hid (HB.out.trans (hb.mono HB.out.size)); clear HB hb hR HLV; have HB := HB1; clear HB1))
      go_ret
      exact ⟨rfl, HB.out⟩
end Go.Proofs.YtjlohmhmnghjkaaDoor
