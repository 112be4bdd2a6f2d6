/- SwitchboardWords: the walk. -/
import Derived.Test.YtjlohmhmnghjkaaDoorU4
namespace Go.Proofs.YtjlohmhmnghjkaaDoor
open Go.RowKit Go.Lib Go.Proofs.YtjlohmhmnghjkaaDoorW.PrintWords Go.Proofs.YtjlohmhmnghjkaaDoor.PSwitchboardWords
set_option linter.unusedVariables false
set_option linter.unusedSimpArgs false

theorem kind38 : prop_Kind.f 20 38 = some 7 := by decide +kernel
theorem reason3 : reason_Of.f 20 3 = some 130 := by decide +kernel
theorem end_f : octet_In_End.f (⟨#[]⟩ : ByteArray) 0 = some (0, (⟨#[]⟩ : ByteArray), 0) := by
  unfold octet_In_End.f
  rw [if_neg (by decide), if_pos rfl, if_pos (by rw [Lib.toList_data])]
theorem OW.new {w : World} {base : Nat} (h : base ≤ w.heap.size) : OW (w.alloc (.cells #[.slice none 0 0] 26)) base w.heap.size [] :=
  ⟨⟨none, 0, heap_alloc_new w _, Kd.R_nil _ _ _ _ _⟩, h⟩
set_option maxHeartbeats 1000000 in
set_option maxRecDepth 1000000 in
theorem live_calls (w : World) (hm : HasM w) : Calls Tryd.prog 11 #[] w fun e w' => e = .returned (.bool true) ∧ Below w.heap.size w w' := by
  have HM := Lib.hid hm
  have HB := Lib.hid (Below.refl w.heap.size w)
  have HM0 := Lib.hid (fun W hm => match_calls ⟨#[97, 47, 43]⟩ ⟨#[97, 47, 98]⟩ W hm (by decide) (by decide))
  rw [aw_m0] at HM0
  have HM3 := Lib.hid (fun W hm => match_calls ⟨#[35]⟩ ⟨#[36, 120]⟩ W hm (by decide) (by decide))
  rw [aw_m3] at HM3
  clear hm
  go_enter Tryd.func11, Tryd.ntmps11
  go_wp2_with (first
    | (go_at_call 33; refine (sign_calls ⟨#[195, 169]⟩ _).mono ?_; rintro e w1 hp; obtain ⟨v, n, rfl, hS, hb⟩ := hp; obtain ⟨rfl, rfl⟩ := sign_e9 hS; have HO := Lib.hid ((OW.new (base := w.heap.size) (w := w) (Nat.le_refl _)).to hb); have HB1 := Lib.hid (HB.out.trans (((Below.refl w.heap.size w).alloc (Nat.le_refl _) _).trans (hb.mono (by rw [World.size_alloc]; omega)))); clear HB hb hS; have HB := HB1; clear HB1)
    | (go_at_call 34; refine (ovar_calls HO.out).mono ?_; rintro e w1 ⟨rfl, ho, hb⟩; have HO2 := Lib.hid ho; have HB1 := Lib.hid (HB.out.trans hb); clear HB HO ho hb; have HB := HB1; clear HB1)
    | (go_at_call 14; refine (otext_calls HO2.out ⟨#[193, 2]⟩ rfl).mono ?_; rintro e w1 ⟨rfl, hb⟩; have HB1 := Lib.hid (HB.out.trans (hb.mono HB.out.size)); clear HB HO2 hb; have HB := HB1; clear HB1)
    | (go_at_call 35; refine (prop_Kind.calls 20 38 7 _ kind38).mono ?_; rintro e w1 ⟨rfl, hb⟩; have HB1 := Lib.hid (HB.out.trans ((hb).mono HB.out.size)); clear HB hb ; have HB := HB1; clear HB1)
    | (go_at_call 36; refine (reason_Of.calls 20 3 130 _ reason3).mono ?_; rintro e w1 ⟨rfl, hd⟩; have HB1 := Lib.hid (HB.out.trans ((hd.below).mono HB.out.size)); clear HB hd ; have HB := HB1; clear HB1)
    | (go_at_call 28; refine (HM0.out _ (HM.out.to HB.out)).mono ?_; rintro e w1 ⟨rfl, hb⟩; have HB1 := Lib.hid (HB.out.trans ((hb).mono HB.out.size)); clear HB hb HM0; have HB := HB1; clear HB1)
    | (go_at_call 28; refine (HM3.out _ (HM.out.to HB.out)).mono ?_; rintro e w1 ⟨rfl, hb⟩; have HB1 := Lib.hid (HB.out.trans ((hb).mono HB.out.size)); clear HB hb HM3; have HB := HB1; clear HB1))
  go_ret
  exact ⟨rfl, HB.out⟩
/-- What was written for s. -/
def encS (s : ByteArray) : ByteArray := strOfNums ([0, (s.size : Int)] ++ bytesOf s)
theorem encS_list (s : ByteArray) : (encS s).data.toList = 0 :: UInt8.ofNat s.size :: s.data.toList := by
  have h : (s.data.toList.map fun b => (b.toNat : Int)).map (fun n => UInt8.ofNat n.toNat) = s.data.toList := by
    rw [List.map_map]
    refine (List.map_congr_left fun x _ => ?_).trans (List.map_id _)
    show UInt8.ofNat (x.toNat : Int).toNat = id x
    rw [Int.toNat_natCast]
    exact UInt8.ofNat_toNat
  unfold encS strOfNums bytesOf
  rw [List.toList_toArray, List.map_append, h]
  simp
theorem encS_raw (s : ByteArray) : octet_In_Raw.f (encS s) 0 2 = some (⟨#[0, UInt8.ofNat s.size]⟩, s, 0) := by
  have hz : (encS s).size = s.size + 2 := by rw [Lib.size_eq, encS_list, Lib.size_eq]; simp
  have h := raw_f (encS s) 2 (by omega)
  have e1 : (encS s).extract 0 2 = ⟨#[0, UInt8.ofNat s.size]⟩ := string_eq_of (by rw [Lib.extract_eq, encS_list]; simp)
  have e2 : (encS s).extract 2 (encS s).size = s := string_eq_of (by rw [extract_from, encS_list]; simp)
  rw [e1, e2] at h
  exact h
theorem filter_good {s : ByteArray} (h : filterB s = true) : goodB s = true := by
  unfold filterB textB at h
  simp only [Bool.and_eq_true] at h
  exact h.1.1.2
theorem name_good2 {s : ByteArray} (h : nameB s = true) : goodB s = true := by
  unfold nameB textB at h
  simp only [Bool.and_eq_true] at h
  exact h.1.1.2
set_option maxHeartbeats 2000000 in
set_option maxRecDepth 1000000 in
theorem words_calls (s0 : ByteArray) (w : World) (hm : HasM w) : Calls Tryd.prog 3 #[.string s0] w fun e w' => e = .returned (.bool true) ∧ Below w.heap.size w w' := by
  have HM := Lib.hid hm
  have HB := Lib.hid (Below.refl w.heap.size w)
  have HC1 := Lib.hid (cut_f s0 200)
  have hs := cutS_size s0 200
  generalize cutS s0 200 = s at HC1 hs
  have HS := Lib.hid hs
  have hx : (UInt8.ofNat s.size).toNat = s.size := by rw [UInt8.toNat_ofNat']; omega
  have htk : ∀ {g : Nat} {W : World}, IsS52 w W g (encS s) 0 → Below w.heap.size w W → Calls Tryd.prog 15 #[.pointer (some ⟨g, 0, none⟩)] W (TakePost w g s (goodB s)) := fun hi hb => take_calls hi hb (encS_raw s) hx (by omega)
  obtain ⟨T, hT⟩ : ∃ T, encS s = T := ⟨_, rfl⟩
  rw [hT] at htk
  have HT := Lib.hid (show strOfNums ([0, (s.size : Int)] ++ bytesOf s) = T from hT)
  have hng := @name_good2 s
  have hfg := @filter_good s
  have HN := Lib.hid (fun W => name_callsB s W (by omega))
  have HF := Lib.hid (fun W hm => filter_callsB s W hm (by omega))
  generalize nameB s = nb at HN hng
  generalize filterB s = fb at HF hfg
  generalize goodB s = gb at htk hng hfg
  clear hm hs hx hT
  cases nb with
  | true =>
    obtain rfl := hng rfl
    have HTK : Hid (∀ {g : Nat} {W : World}, IsS52 w W g T 0 → Below w.heap.size w W → Calls Tryd.prog 15 #[.pointer (some ⟨g, 0, none⟩)] W (TakePost w g s true)) := Lib.hid htk
    clear hng hfg htk
    go_enter Tryd.func3, Tryd.ntmps3
    go_wp2_with (first
      | (go_at_call 10; refine (PTopicReads.switchboardlaw01_Cut.calls s0 200 _ _ HC1.out).mono ?_; rintro e w1 ⟨rfl, hd⟩; have HB1 := Lib.hid (HB.out.trans (hd.below.mono HB.out.size)); clear HB hd HC1; have HB := HB1; clear HB1)
      | (go_at_call 11; refine (live_calls _ (HM.out.to HB.out)).mono ?_; rintro e w1 ⟨rfl, hb⟩; have HB1 := Lib.hid (HB.out.trans ((hb).mono HB.out.size)); clear HB hb ; have HB := HB1; clear HB1)
      | (go_at_call 13; refine (odata_calls (OW.new HB.out.size) (by rw [World.size_alloc]; have := HB.out.size; omega) s HS.out).mono ?_; rintro e w1 ⟨rfl, ho, hb⟩; have HO := Lib.hid ho; have HB1 := Lib.hid ((HB.out.alloc HB.out.size _).trans hb); clear HB ho hb; have HB := HB1; clear HB1)
      | (go_at_call 14; refine (otext_calls HO.out T HT.out).mono ?_; rintro e w1 ⟨rfl, hb⟩; have HB1 := Lib.hid (HB.out.trans (hb.mono HB.out.size)); clear HB HO hb; have HB := HB1; clear HB1)
      | (go_at_call 12; refine (octet_Over.calls T T 0 w _ HB.out rfl).mono ?_; rintro e w1 ⟨g, rfl, hi, hb, _⟩; have HI := Lib.hid hi; have HB1 := Lib.hid hb; clear HB hi hb; have HB := HB1; clear HB1)
      | (go_at_call 15; refine (HTK.out HI.out HB.out).mono ?_; rintro e w1 hp; obtain ⟨er, rfl, hi, her, hb⟩ := hp; obtain rfl : er = 0 := her rfl; have HI1 := Lib.hid hi; have HB1 := Lib.hid hb; clear HB HI hi her hb HTK; have HB := HB1; have HI := HI1; clear HB1 HI1)
      | (go_at_call 16; refine (HN.out _).mono ?_; rintro e w1 ⟨rfl, hb⟩; have HB1 := Lib.hid (HB.out.trans (hb.mono HB.out.size)); have HI1 := Lib.hid (HI.out.below hb); clear HB HI hb ; have HB := HB1; have HI := HI1; clear HB1 HI1)
      | (go_at_call 17; refine (HF.out _ (HM.out.to HB.out)).mono ?_; rintro e w1 ⟨rfl, hb⟩; have HB1 := Lib.hid (HB.out.trans (hb.mono HB.out.size)); have HI1 := Lib.hid (HI.out.below hb); clear HB HI hb ; have HB := HB1; have HI := HI1; clear HB1 HI1)
      | (go_at_call 18; refine (octet_In_End.calls g ⟨#[]⟩ 0 0 ⟨#[]⟩ 0 w _ HI.out HB.out end_f).mono ?_; rintro e w1 ⟨rfl, hi, hb, _⟩; have HB1 := Lib.hid hb; clear HB hi hb HI; have HB := HB1; clear HB1))
    go_ret
    exact ⟨rfl, HB.out⟩
  | false =>
    cases fb with
    | true =>
      obtain rfl := hfg rfl
      have HTK : Hid (∀ {g : Nat} {W : World}, IsS52 w W g T 0 → Below w.heap.size w W → Calls Tryd.prog 15 #[.pointer (some ⟨g, 0, none⟩)] W (TakePost w g s true)) := Lib.hid htk
      clear hng hfg htk
      go_enter Tryd.func3, Tryd.ntmps3
      go_wp2_with (first
      | (go_at_call 10; refine (PTopicReads.switchboardlaw01_Cut.calls s0 200 _ _ HC1.out).mono ?_; rintro e w1 ⟨rfl, hd⟩; have HB1 := Lib.hid (HB.out.trans (hd.below.mono HB.out.size)); clear HB hd HC1; have HB := HB1; clear HB1)
      | (go_at_call 11; refine (live_calls _ (HM.out.to HB.out)).mono ?_; rintro e w1 ⟨rfl, hb⟩; have HB1 := Lib.hid (HB.out.trans ((hb).mono HB.out.size)); clear HB hb ; have HB := HB1; clear HB1)
      | (go_at_call 13; refine (odata_calls (OW.new HB.out.size) (by rw [World.size_alloc]; have := HB.out.size; omega) s HS.out).mono ?_; rintro e w1 ⟨rfl, ho, hb⟩; have HO := Lib.hid ho; have HB1 := Lib.hid ((HB.out.alloc HB.out.size _).trans hb); clear HB ho hb; have HB := HB1; clear HB1)
      | (go_at_call 14; refine (otext_calls HO.out T HT.out).mono ?_; rintro e w1 ⟨rfl, hb⟩; have HB1 := Lib.hid (HB.out.trans (hb.mono HB.out.size)); clear HB HO hb; have HB := HB1; clear HB1)
      | (go_at_call 12; refine (octet_Over.calls T T 0 w _ HB.out rfl).mono ?_; rintro e w1 ⟨g, rfl, hi, hb, _⟩; have HI := Lib.hid hi; have HB1 := Lib.hid hb; clear HB hi hb; have HB := HB1; clear HB1)
      | (go_at_call 15; refine (HTK.out HI.out HB.out).mono ?_; rintro e w1 hp; obtain ⟨er, rfl, hi, her, hb⟩ := hp; obtain rfl : er = 0 := her rfl; have HI1 := Lib.hid hi; have HB1 := Lib.hid hb; clear HB HI hi her hb HTK; have HB := HB1; have HI := HI1; clear HB1 HI1)
      | (go_at_call 16; refine (HN.out _).mono ?_; rintro e w1 ⟨rfl, hb⟩; have HB1 := Lib.hid (HB.out.trans (hb.mono HB.out.size)); have HI1 := Lib.hid (HI.out.below hb); clear HB HI hb ; have HB := HB1; have HI := HI1; clear HB1 HI1)
      | (go_at_call 17; refine (HF.out _ (HM.out.to HB.out)).mono ?_; rintro e w1 ⟨rfl, hb⟩; have HB1 := Lib.hid (HB.out.trans (hb.mono HB.out.size)); have HI1 := Lib.hid (HI.out.below hb); clear HB HI hb ; have HB := HB1; have HI := HI1; clear HB1 HI1)
      | (go_at_call 18; refine (octet_In_End.calls g ⟨#[]⟩ 0 0 ⟨#[]⟩ 0 w _ HI.out HB.out end_f).mono ?_; rintro e w1 ⟨rfl, hi, hb, _⟩; have HB1 := Lib.hid hb; clear HB hi hb HI; have HB := HB1; clear HB1))
      go_ret
      exact ⟨rfl, HB.out⟩
    | false =>
      have HTK : Hid (∀ {g : Nat} {W : World}, IsS52 w W g T 0 → Below w.heap.size w W → Calls Tryd.prog 15 #[.pointer (some ⟨g, 0, none⟩)] W (TakePost w g s gb)) := Lib.hid htk
      clear hng hfg htk
      go_enter Tryd.func3, Tryd.ntmps3
      go_wp2_with (first
      | (go_at_call 10; refine (PTopicReads.switchboardlaw01_Cut.calls s0 200 _ _ HC1.out).mono ?_; rintro e w1 ⟨rfl, hd⟩; have HB1 := Lib.hid (HB.out.trans (hd.below.mono HB.out.size)); clear HB hd HC1; have HB := HB1; clear HB1)
      | (go_at_call 11; refine (live_calls _ (HM.out.to HB.out)).mono ?_; rintro e w1 ⟨rfl, hb⟩; have HB1 := Lib.hid (HB.out.trans ((hb).mono HB.out.size)); clear HB hb ; have HB := HB1; clear HB1)
      | (go_at_call 13; refine (odata_calls (OW.new HB.out.size) (by rw [World.size_alloc]; have := HB.out.size; omega) s HS.out).mono ?_; rintro e w1 ⟨rfl, ho, hb⟩; have HO := Lib.hid ho; have HB1 := Lib.hid ((HB.out.alloc HB.out.size _).trans hb); clear HB ho hb; have HB := HB1; clear HB1)
      | (go_at_call 14; refine (otext_calls HO.out T HT.out).mono ?_; rintro e w1 ⟨rfl, hb⟩; have HB1 := Lib.hid (HB.out.trans (hb.mono HB.out.size)); clear HB HO hb; have HB := HB1; clear HB1)
      | (go_at_call 12; refine (octet_Over.calls T T 0 w _ HB.out rfl).mono ?_; rintro e w1 ⟨g, rfl, hi, hb, _⟩; have HI := Lib.hid hi; have HB1 := Lib.hid hb; clear HB hi hb; have HB := HB1; clear HB1)
      | (go_at_call 15; refine (HTK.out HI.out HB.out).mono ?_; rintro e w1 hp; obtain ⟨er, rfl, hi, her, hb⟩ := hp; have HI1 := Lib.hid hi; have HB1 := Lib.hid hb; clear HB HI hi her hb HTK; have HB := HB1; have HI := HI1; clear HB1 HI1)
      | (go_at_call 16; refine (HN.out _).mono ?_; rintro e w1 ⟨rfl, hb⟩; have HB1 := Lib.hid (HB.out.trans (hb.mono HB.out.size)); have HI1 := Lib.hid (HI.out.below hb); clear HB HI hb ; have HB := HB1; have HI := HI1; clear HB1 HI1)
      | (go_at_call 17; refine (HF.out _ (HM.out.to HB.out)).mono ?_; rintro e w1 ⟨rfl, hb⟩; have HB1 := Lib.hid (HB.out.trans (hb.mono HB.out.size)); have HI1 := Lib.hid (HI.out.below hb); clear HB HI hb ; have HB := HB1; have HI := HI1; clear HB1 HI1)
      | (go_at_call 18; refine (octet_In_End.calls g ⟨#[]⟩ 0 0 ⟨#[]⟩ 0 w _ HI.out HB.out end_f).mono ?_; rintro e w1 ⟨rfl, hi, hb, _⟩; have HB1 := Lib.hid hb; clear HB hi hb HI; have HB := HB1; clear HB1))
      all_goals go_ret
      all_goals exact ⟨rfl, HB.out⟩
end Go.Proofs.YtjlohmhmnghjkaaDoor
