/- TopicMatches, TopicReads: the walks. -/
import Derived.Test.YtjlohmhmnghjkaaDoorT9
namespace Go.Proofs.YtjlohmhmnghjkaaDoor
open Go.RowKit Go.Lib Go.Proofs.YtjlohmhmnghjkaaDoorW.PrintWords Go.Proofs.YtjlohmhmnghjkaaDoor.PTopicReads
set_option linter.unusedVariables false
set_option linter.unusedSimpArgs false

def cutS (T : ByteArray) (n : Nat) : ByteArray := if n < T.size then T.extract 0 n else T
theorem cutS_size (T : ByteArray) (n : Nat) : (cutS T n).size ≤ n := by
  unfold cutS
  split
  · rw [ByteArray.size_extract]; omega
  · omega
theorem cut_f (T : ByteArray) (n : Nat) : switchboardlaw01_Cut.f T n = some (cutS T n) := by
  unfold switchboardlaw01_Cut.f cutS
  by_cases h : n < T.size
  · rw [if_pos h, if_pos (by omega), if_pos (by omega), if_pos (by omega)]
    rfl
  · rw [if_neg h, if_neg (by omega)]
set_option maxHeartbeats 4000000 in
set_option maxRecDepth 1000000 in
theorem matches_calls (f0 n0 : ByteArray) (w : World) (hm : HasM w) : Calls Tryd.prog 5 #[.string f0, .string n0] w fun e w' => e = .returned (.bool true) ∧ Below w.heap.size w w' := by
  have HM := Lib.hid hm
  have HB := Lib.hid (Below.refl w.heap.size w)
  have HC1 := Lib.hid (cut_f f0 80)
  have HC2 := Lib.hid (cut_f n0 80)
  have hs1 := cutS_size f0 80
  have hs2 := cutS_size n0 80
  generalize cutS f0 80 = f at HC1 hs1
  generalize cutS n0 80 = n at HC2 hs2
  have HMC := Lib.hid (fun W hm => match_calls f n W hm (by omega) (by omega))
  have HMR := Lib.hid (match_f f n (by omega) (by omega) 1000 (by omega))
  generalize matchB f n = mb at HMC HMR
  clear hm hs1 hs2
  go_enter Tryd.func5, Tryd.ntmps5
  go_wp2_with (first
    | (go_at_call 10; refine (switchboardlaw01_Cut.calls f0 80 _ _ HC1.out).mono ?_; rintro e w1 ⟨rfl, hd⟩; have HB1 := Lib.hid (HB.out.trans ((hd.below).mono HB.out.size)); clear HB hd HC1; have HB := HB1; clear HB1)
    | (go_at_call 10; refine (switchboardlaw01_Cut.calls n0 80 _ _ HC2.out).mono ?_; rintro e w1 ⟨rfl, hd⟩; have HB1 := Lib.hid (HB.out.trans ((hd.below).mono HB.out.size)); clear HB hd HC2; have HB := HB1; clear HB1)
    | (go_at_call 21; refine (awake10_calls _ (HM.out.to HB.out)).mono ?_; rintro e w1 ⟨rfl, hb⟩; have HB1 := Lib.hid (HB.out.trans ((hb).mono HB.out.size)); clear HB hb ; have HB := HB1; clear HB1)
    | (go_at_call 28; refine (HMC.out _ (HM.out.to HB.out)).mono ?_; rintro e w1 ⟨rfl, hb⟩; have HB1 := Lib.hid (HB.out.trans ((hb).mono HB.out.size)); clear HB hb ; have HB := HB1; clear HB1)
    | (go_at_call 29; refine (switchboardref10_Match.calls 1000 f n mb _ HMR.out).mono ?_; rintro e w1 ⟨rfl, hb⟩; have HB1 := Lib.hid (HB.out.trans ((hb).mono HB.out.size)); clear HB hb ; have HB := HB1; clear HB1))
  go_ret
  exact ⟨rfl, HB.out⟩
theorem same_l0 (L : List ByteArray) (hL : L.length ≤ 1000000) : ∀ r j k : Nat, j + r = L.length → r + 1 ≤ k → switchboardlaw10_same.l0 k L L (L.length : Int) (j : Int) = some true
  | 0, j, k, hj, hk => by
    obtain ⟨k, rfl⟩ : ∃ q, k = q + 1 := ⟨k - 1, by omega⟩
    simp only [switchboardlaw10_same.l0]
    rw [if_neg (by omega)]
  | r + 1, j, k, hj, hk => by
    obtain ⟨k, rfl⟩ : ∃ q, k = q + 1 := ⟨k - 1, by omega⟩
    have e1 : wrap64 ((j : Int) + 1) = ((j + 1 : Nat) : Int) := by rw [w64 (by omega) (by omega)]; push_cast; rfl
    simp only [switchboardlaw10_same.l0, e1]
    rw [if_pos (by omega), if_pos (by omega), if_pos (by omega), if_pos (by omega), if_pos trivial]
    exact same_l0 L hL r (j + 1) k (by omega) (by omega)
theorem same_f (L : List ByteArray) (hL : L.length ≤ 1000000) (k : Nat) (hk : L.length + 1 ≤ k) : switchboardlaw10_same.f k L L = some true := by
  unfold switchboardlaw10_same.f
  rw [if_pos rfl]
  exact same_l0 L hL L.length 0 k (by omega) hk
set_option maxHeartbeats 4000000 in
set_option maxRecDepth 1000000 in
theorem reads_calls (s0 : ByteArray) (w : World) (hm : HasM w) : Calls Tryd.prog 4 #[.string s0] w fun e w' => e = .returned (.bool true) ∧ Below w.heap.size w w' := by
  have HM := Lib.hid hm
  have HB := Lib.hid (Below.refl w.heap.size w)
  have HC1 := Lib.hid (cut_f s0 120)
  have hs := cutS_size s0 120
  generalize cutS s0 120 = s at HC1 hs
  have HSP := Lib.hid (fun W hm => split_calls s W hm (by omega))
  have HSR := Lib.hid (split_fB s (by omega) 100000 (by omega))
  generalize splitT s = sp at HSP HSR
  obtain ⟨g, f, k⟩ := sp
  have HLV := Lib.hid (fun W hm => levels_calls s W hm (by omega))
  unfold LevelsPost at HLV
  have HLR := Lib.hid (rlevels_f s (by omega) 1000 (by omega))
  have hll : (levelsOf s).length ≤ 121 := by rw [← split_count]; have := count_small s; omega
  generalize levelsOf s = L at HLV HLR hll
  have HSM := Lib.hid (same_f L (by omega) 1000 (by omega))
  have HN := Lib.hid (fun W => name_callsB s W (by omega))
  have HNR := Lib.hid (name_fB s (by omega) 1000 (by omega))
  generalize nameB s = nb at HN HNR
  have HF := Lib.hid (fun W hm => filter_callsB s W hm (by omega))
  have HFR := Lib.hid (filter_fB s (by omega) 100000 (by omega))
  generalize filterB s = fb at HF HFR
  have HH := Lib.hid (hidden_f s)
  have hha := hidB_at s
  generalize hidB s = hb0 at HH hha
  clear hm hll
  by_cases h0 : 0 < s.size
  · have hem := isEmpty_of s h0
    rw [if_pos h0] at hha
    have hb36 : (((s[0]'h0).toNat : Int) == 36) = hb0 := by
      have hba := byteAt_of (s := s) (k := 0) h0
      rw [hha, ← hba]
      by_cases h : byteAt s 0 = 36
      · rw [decide_eq_true h, h]; rfl
      · rw [decide_eq_false h]; exact beq_eq_false_iff_ne.2 (by omega)
    clear hha hs
    go_enter Tryd.func4, Tryd.ntmps4
    go_wp2_with (first
      | (go_at_call 10; refine (switchboardlaw01_Cut.calls s0 120 _ _ HC1.out).mono ?_; rintro e w1 ⟨rfl, hd⟩; have HB1 := Lib.hid (HB.out.trans ((hd.below).mono HB.out.size)); clear HB hd HC1; have HB := HB1; clear HB1)
      | (go_at_call 19; refine (HSP.out _ (HM.out.to HB.out)).mono ?_; rintro e w1 ⟨rfl, hb⟩; have HB1 := Lib.hid (HB.out.trans ((hb).mono HB.out.size)); clear HB hb ; have HB := HB1; clear HB1)
      | (go_at_call 20; refine (switchboardref10_Split.calls 100000 s _ _ _ _ HSR.out).mono ?_; rintro e w1 ⟨rfl, hb⟩; have HB1 := Lib.hid (HB.out.trans ((hb).mono HB.out.size)); clear HB hb ; have HB := HB1; clear HB1)
      | (go_at_call 21; refine (awake10_calls _ (HM.out.to HB.out)).mono ?_; rintro e w1 ⟨rfl, hb⟩; have HB1 := Lib.hid (HB.out.trans ((hb).mono HB.out.size)); clear HB hb ; have HB := HB1; clear HB1)
      | (go_at_call 23; refine (HLV.out _ (HM.out.to HB.out)).mono ?_; rintro e w1 hp; obtain ⟨A1, c1, rfl, hR, hb⟩ := hp; have HR1 := Lib.hid hR; have HB1 := Lib.hid (HB.out.trans (hb.mono HB.out.size)); clear HB hb hR; have HB := HB1; clear HB1)
      | (go_at_call 24; refine (switchboardref10_Levels.calls 1000 s _ _ HLR.out).mono ?_; rintro e w2 hp; obtain ⟨v2, rfl, hR, hb⟩ := hp; obtain ⟨A2, c2, rfl⟩ := Kd.R_slice hR; have HR2 := Lib.hid hR; have HR1b := Lib.hid (Kd.R_below HR1.out hb); have HB1 := Lib.hid (HB.out.trans (hb.mono HB.out.size)); clear HB hb hR HR1; have HB := HB1; clear HB1)
      | (go_at_call 22; refine (switchboardlaw10_same.calls 1000 A1 c1 L A2 c2 L true _ (Kd.R_reads' HR1b.out).2.2 (Kd.R_reads' HR1b.out).2.1 (Kd.R_reads' HR2.out).2.2 (Kd.R_reads' HR2.out).2.1 HSM.out).mono ?_; rintro e w1 ⟨rfl, hd⟩; have HB1 := Lib.hid (HB.out.trans ((hd.below).mono HB.out.size)); clear HB hd ; have HB := HB1; clear HB1)
      | (go_at_call 16; refine (HN.out _).mono ?_; rintro e w1 ⟨rfl, hb⟩; have HB1 := Lib.hid (HB.out.trans ((hb).mono HB.out.size)); clear HB hb ; have HB := HB1; clear HB1)
      | (go_at_call 25; refine (switchboardref10_Name.calls 1000 s _ _ HNR.out).mono ?_; rintro e w1 ⟨rfl, hb⟩; have HB1 := Lib.hid (HB.out.trans ((hb).mono HB.out.size)); clear HB hb ; have HB := HB1; clear HB1)
      | (go_at_call 17; refine (HF.out _ (HM.out.to HB.out)).mono ?_; rintro e w1 ⟨rfl, hb⟩; have HB1 := Lib.hid (HB.out.trans ((hb).mono HB.out.size)); clear HB hb ; have HB := HB1; clear HB1)
      | (go_at_call 26; refine (switchboardref10_Filter.calls 100000 s _ _ HFR.out).mono ?_; rintro e w1 ⟨rfl, hb⟩; have HB1 := Lib.hid (HB.out.trans ((hb).mono HB.out.size)); clear HB hb ; have HB := HB1; clear HB1)
      | (go_at_call 27; refine (topic_Hidden.calls s _ _ HH.out).mono ?_; rintro e w1 ⟨rfl, hd⟩; have HB1 := Lib.hid (HB.out.trans ((hd.below).mono HB.out.size)); clear HB hd ; have HB := HB1; clear HB1))
    go_ret
    exact ⟨rfl, HB.out⟩
  · have hem := isEmpty_nil s (by omega)
    rw [if_neg h0] at hha
    subst hha
    clear h0 hs
    go_enter Tryd.func4, Tryd.ntmps4
    go_wp2_with (first
      | (go_at_call 10; refine (switchboardlaw01_Cut.calls s0 120 _ _ HC1.out).mono ?_; rintro e w1 ⟨rfl, hd⟩; have HB1 := Lib.hid (HB.out.trans ((hd.below).mono HB.out.size)); clear HB hd HC1; have HB := HB1; clear HB1)
      | (go_at_call 19; refine (HSP.out _ (HM.out.to HB.out)).mono ?_; rintro e w1 ⟨rfl, hb⟩; have HB1 := Lib.hid (HB.out.trans ((hb).mono HB.out.size)); clear HB hb ; have HB := HB1; clear HB1)
      | (go_at_call 20; refine (switchboardref10_Split.calls 100000 s _ _ _ _ HSR.out).mono ?_; rintro e w1 ⟨rfl, hb⟩; have HB1 := Lib.hid (HB.out.trans ((hb).mono HB.out.size)); clear HB hb ; have HB := HB1; clear HB1)
      | (go_at_call 21; refine (awake10_calls _ (HM.out.to HB.out)).mono ?_; rintro e w1 ⟨rfl, hb⟩; have HB1 := Lib.hid (HB.out.trans ((hb).mono HB.out.size)); clear HB hb ; have HB := HB1; clear HB1)
      | (go_at_call 23; refine (HLV.out _ (HM.out.to HB.out)).mono ?_; rintro e w1 hp; obtain ⟨A1, c1, rfl, hR, hb⟩ := hp; have HR1 := Lib.hid hR; have HB1 := Lib.hid (HB.out.trans (hb.mono HB.out.size)); clear HB hb hR; have HB := HB1; clear HB1)
      | (go_at_call 24; refine (switchboardref10_Levels.calls 1000 s _ _ HLR.out).mono ?_; rintro e w2 hp; obtain ⟨v2, rfl, hR, hb⟩ := hp; obtain ⟨A2, c2, rfl⟩ := Kd.R_slice hR; have HR2 := Lib.hid hR; have HR1b := Lib.hid (Kd.R_below HR1.out hb); have HB1 := Lib.hid (HB.out.trans (hb.mono HB.out.size)); clear HB hb hR HR1; have HB := HB1; clear HB1)
      | (go_at_call 22; refine (switchboardlaw10_same.calls 1000 A1 c1 L A2 c2 L true _ (Kd.R_reads' HR1b.out).2.2 (Kd.R_reads' HR1b.out).2.1 (Kd.R_reads' HR2.out).2.2 (Kd.R_reads' HR2.out).2.1 HSM.out).mono ?_; rintro e w1 ⟨rfl, hd⟩; have HB1 := Lib.hid (HB.out.trans ((hd.below).mono HB.out.size)); clear HB hd ; have HB := HB1; clear HB1)
      | (go_at_call 16; refine (HN.out _).mono ?_; rintro e w1 ⟨rfl, hb⟩; have HB1 := Lib.hid (HB.out.trans ((hb).mono HB.out.size)); clear HB hb ; have HB := HB1; clear HB1)
      | (go_at_call 25; refine (switchboardref10_Name.calls 1000 s _ _ HNR.out).mono ?_; rintro e w1 ⟨rfl, hb⟩; have HB1 := Lib.hid (HB.out.trans ((hb).mono HB.out.size)); clear HB hb ; have HB := HB1; clear HB1)
      | (go_at_call 17; refine (HF.out _ (HM.out.to HB.out)).mono ?_; rintro e w1 ⟨rfl, hb⟩; have HB1 := Lib.hid (HB.out.trans ((hb).mono HB.out.size)); clear HB hb ; have HB := HB1; clear HB1)
      | (go_at_call 26; refine (switchboardref10_Filter.calls 100000 s _ _ HFR.out).mono ?_; rintro e w1 ⟨rfl, hb⟩; have HB1 := Lib.hid (HB.out.trans ((hb).mono HB.out.size)); clear HB hb ; have HB := HB1; clear HB1)
      | (go_at_call 27; refine (topic_Hidden.calls s _ _ HH.out).mono ?_; rintro e w1 ⟨rfl, hd⟩; have HB1 := Lib.hid (HB.out.trans ((hd.below).mono HB.out.size)); clear HB hd ; have HB := HB1; clear HB1))
    go_ret
    exact ⟨rfl, HB.out⟩
end Go.Proofs.YtjlohmhmnghjkaaDoor
