/- TopicPlain: the walk. -/
import Derived.Test.YtjlohmhmnghjkaaDoorT11
namespace Go.Proofs.YtjlohmhmnghjkaaDoor
open Go.RowKit Go.Lib Go.Proofs.YtjlohmhmnghjkaaDoorW.PrintWords Go.Proofs.YtjlohmhmnghjkaaDoor.PTopicReads
set_option linter.unusedVariables false
set_option linter.unusedSimpArgs false

set_option maxHeartbeats 4000000 in
set_option maxRecDepth 1000000 in
theorem plain_calls (a0 b0 : ByteArray) (w : World) (hm : HasM w) : Calls Tryd.prog 6 #[.string a0, .string b0] w fun e w' => e = .returned (.bool true) ∧ Below w.heap.size w w' := by
  have HM := Lib.hid hm
  have HB := Lib.hid (Below.refl w.heap.size w)
  have HC1 := Lib.hid (cut_f a0 80)
  have HC2 := Lib.hid (cut_f b0 80)
  have hs1 := cutS_size a0 80
  have hs2 := cutS_size b0 80
  generalize cutS a0 80 = a at HC1 hs1
  generalize cutS b0 80 = b at HC2 hs2
  have HN1 := Lib.hid (fun W => name_callsB a W (by omega))
  have HN2 := Lib.hid (fun W => name_callsB b W (by omega))
  have HF := Lib.hid (fun W hm => filter_callsB a W hm (by omega))
  have HM1 := Lib.hid (fun W hm => match_calls a a W hm (by omega) (by omega))
  have HM2 := Lib.hid (fun W hm => match_calls a b W hm (by omega) (by omega))
  clear hm hs1 hs2
  cases hna : nameB a with
  | false =>
    rw [hna] at HN1
    clear hna
    go_enter Tryd.func6, Tryd.ntmps6
    go_wp2_with (first
      | (go_at_call 10; refine (switchboardlaw01_Cut.calls a0 80 _ _ HC1.out).mono ?_; rintro e w1 ⟨rfl, hd⟩; have HB1 := Lib.hid (HB.out.trans ((hd.below).mono HB.out.size)); clear HB hd HC1; have HB := HB1; clear HB1)
      | (go_at_call 10; refine (switchboardlaw01_Cut.calls b0 80 _ _ HC2.out).mono ?_; rintro e w1 ⟨rfl, hd⟩; have HB1 := Lib.hid (HB.out.trans ((hd.below).mono HB.out.size)); clear HB hd HC2; have HB := HB1; clear HB1)
      | (go_at_call 21; refine (awake10_calls _ (HM.out.to HB.out)).mono ?_; rintro e w1 ⟨rfl, hb⟩; have HB1 := Lib.hid (HB.out.trans ((hb).mono HB.out.size)); clear HB hb ; have HB := HB1; clear HB1)
      | (go_at_call 16; refine (HN1.out _).mono ?_; rintro e w1 ⟨rfl, hb⟩; have HB1 := Lib.hid (HB.out.trans ((hb).mono HB.out.size)); clear HB hb HN1; have HB := HB1; clear HB1)
      | (go_at_call 16; refine (HN2.out _).mono ?_; rintro e w1 ⟨rfl, hb⟩; have HB1 := Lib.hid (HB.out.trans ((hb).mono HB.out.size)); clear HB hb HN2; have HB := HB1; clear HB1)
      | (go_at_call 17; refine (HF.out _ (HM.out.to HB.out)).mono ?_; rintro e w1 ⟨rfl, hb⟩; have HB1 := Lib.hid (HB.out.trans ((hb).mono HB.out.size)); clear HB hb ; have HB := HB1; clear HB1)
      | (go_at_call 28; refine (HM1.out _ (HM.out.to HB.out)).mono ?_; rintro e w1 ⟨rfl, hb⟩; have HB1 := Lib.hid (HB.out.trans ((hb).mono HB.out.size)); clear HB hb HM1; have HB := HB1; clear HB1)
      | (go_at_call 28; refine (HM2.out _ (HM.out.to HB.out)).mono ?_; rintro e w1 ⟨rfl, hb⟩; have HB1 := Lib.hid (HB.out.trans ((hb).mono HB.out.size)); clear HB hb HM2; have HB := HB1; clear HB1))
    go_ret
    exact ⟨rfl, HB.out⟩
  | true =>
    obtain ⟨h1, h2⟩ := name_signs hna
    rw [hna] at HN1
    rw [h2] at HF
    rw [name_match h1, show (a.toList == a.toList) = true from beq_iff_eq.2 rfl] at HM1
    rw [name_match h1] at HM2
    clear hna h1 h2
    generalize nameB b = nb at HN2
    cases nb with
    | false =>
      go_enter Tryd.func6, Tryd.ntmps6
      go_wp2_with (first
      | (go_at_call 10; refine (switchboardlaw01_Cut.calls a0 80 _ _ HC1.out).mono ?_; rintro e w1 ⟨rfl, hd⟩; have HB1 := Lib.hid (HB.out.trans ((hd.below).mono HB.out.size)); clear HB hd HC1; have HB := HB1; clear HB1)
      | (go_at_call 10; refine (switchboardlaw01_Cut.calls b0 80 _ _ HC2.out).mono ?_; rintro e w1 ⟨rfl, hd⟩; have HB1 := Lib.hid (HB.out.trans ((hd.below).mono HB.out.size)); clear HB hd HC2; have HB := HB1; clear HB1)
      | (go_at_call 21; refine (awake10_calls _ (HM.out.to HB.out)).mono ?_; rintro e w1 ⟨rfl, hb⟩; have HB1 := Lib.hid (HB.out.trans ((hb).mono HB.out.size)); clear HB hb ; have HB := HB1; clear HB1)
      | (go_at_call 16; refine (HN1.out _).mono ?_; rintro e w1 ⟨rfl, hb⟩; have HB1 := Lib.hid (HB.out.trans ((hb).mono HB.out.size)); clear HB hb HN1; have HB := HB1; clear HB1)
      | (go_at_call 16; refine (HN2.out _).mono ?_; rintro e w1 ⟨rfl, hb⟩; have HB1 := Lib.hid (HB.out.trans ((hb).mono HB.out.size)); clear HB hb HN2; have HB := HB1; clear HB1)
      | (go_at_call 17; refine (HF.out _ (HM.out.to HB.out)).mono ?_; rintro e w1 ⟨rfl, hb⟩; have HB1 := Lib.hid (HB.out.trans ((hb).mono HB.out.size)); clear HB hb ; have HB := HB1; clear HB1)
      | (go_at_call 28; refine (HM1.out _ (HM.out.to HB.out)).mono ?_; rintro e w1 ⟨rfl, hb⟩; have HB1 := Lib.hid (HB.out.trans ((hb).mono HB.out.size)); clear HB hb HM1; have HB := HB1; clear HB1)
      | (go_at_call 28; refine (HM2.out _ (HM.out.to HB.out)).mono ?_; rintro e w1 ⟨rfl, hb⟩; have HB1 := Lib.hid (HB.out.trans ((hb).mono HB.out.size)); clear HB hb HM2; have HB := HB1; clear HB1))
      go_ret
      exact ⟨rfl, HB.out⟩
    | true =>
      obtain ⟨eq, heq⟩ : ∃ eq, (a.toList == b.toList) = eq := ⟨_, rfl⟩
      rw [heq] at HM2
      go_enter Tryd.func6, Tryd.ntmps6
      go_wp2_with (first
      | (go_at_call 10; refine (switchboardlaw01_Cut.calls a0 80 _ _ HC1.out).mono ?_; rintro e w1 ⟨rfl, hd⟩; have HB1 := Lib.hid (HB.out.trans ((hd.below).mono HB.out.size)); clear HB hd HC1; have HB := HB1; clear HB1)
      | (go_at_call 10; refine (switchboardlaw01_Cut.calls b0 80 _ _ HC2.out).mono ?_; rintro e w1 ⟨rfl, hd⟩; have HB1 := Lib.hid (HB.out.trans ((hd.below).mono HB.out.size)); clear HB hd HC2; have HB := HB1; clear HB1)
      | (go_at_call 21; refine (awake10_calls _ (HM.out.to HB.out)).mono ?_; rintro e w1 ⟨rfl, hb⟩; have HB1 := Lib.hid (HB.out.trans ((hb).mono HB.out.size)); clear HB hb ; have HB := HB1; clear HB1)
      | (go_at_call 16; refine (HN1.out _).mono ?_; rintro e w1 ⟨rfl, hb⟩; have HB1 := Lib.hid (HB.out.trans ((hb).mono HB.out.size)); clear HB hb HN1; have HB := HB1; clear HB1)
      | (go_at_call 16; refine (HN2.out _).mono ?_; rintro e w1 ⟨rfl, hb⟩; have HB1 := Lib.hid (HB.out.trans ((hb).mono HB.out.size)); clear HB hb HN2; have HB := HB1; clear HB1)
      | (go_at_call 17; refine (HF.out _ (HM.out.to HB.out)).mono ?_; rintro e w1 ⟨rfl, hb⟩; have HB1 := Lib.hid (HB.out.trans ((hb).mono HB.out.size)); clear HB hb ; have HB := HB1; clear HB1)
      | (go_at_call 28; refine (HM1.out _ (HM.out.to HB.out)).mono ?_; rintro e w1 ⟨rfl, hb⟩; have HB1 := Lib.hid (HB.out.trans ((hb).mono HB.out.size)); clear HB hb HM1; have HB := HB1; clear HB1)
      | (go_at_call 28; refine (HM2.out _ (HM.out.to HB.out)).mono ?_; rintro e w1 ⟨rfl, hb⟩; have HB1 := Lib.hid (HB.out.trans ((hb).mono HB.out.size)); clear HB hb HM2; have HB := HB1; clear HB1))
      go_ret
      exact ⟨rfl, HB.out⟩
end Go.Proofs.YtjlohmhmnghjkaaDoor
