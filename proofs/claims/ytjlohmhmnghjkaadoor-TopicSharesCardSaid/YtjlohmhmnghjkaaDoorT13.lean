/- TopicShares: the walk. -/
import Derived.Test.YtjlohmhmnghjkaaDoorT11
namespace Go.Proofs.YtjlohmhmnghjkaaDoor
open Go.RowKit Go.Lib Go.Proofs.YtjlohmhmnghjkaaDoorW.PrintWords Go.Proofs.YtjlohmhmnghjkaaDoor.PTopicReads
set_option linter.unusedVariables false
set_option linter.unusedSimpArgs false

def shareS (g f : ByteArray) : ByteArray := ((preB ++ g) ++ ⟨#[47]⟩) ++ f
theorem share_list (g f : ByteArray) : (shareS g f).data.toList = [36, 115, 104, 97, 114, 101, 47] ++ (g.data.toList ++ 47 :: f.data.toList) := by
  unfold shareS preB
  simp [ByteArray.data_append]
theorem share_size (g f : ByteArray) : (shareS g f).size = 8 + g.size + f.size := by
  rw [Lib.size_eq, share_list]
  simp only [List.length_append, List.length_cons, List.length_nil, Lib.size_eq]
  omega
theorem share_left (g f : ByteArray) : (leftS (shareS g f)).data.toList = g.data.toList ++ 47 :: f.data.toList := by
  unfold leftS
  rw [extract_from, List.toList_toArray, share_list]
  rfl
theorem share_is (g f : ByteArray) : isShared (shareS g f) = true := by
  unfold isShared
  rw [decide_eq_true (by rw [share_size]; omega), Lib.toList_data, Lib.extract_eq, share_list, Lib.toList_data]
  rfl
theorem index_app {a b : List UInt8} (h : 47 ∉ a) : Lib.indexByte (a ++ 47 :: b) 47 = a.length := by
  have hlt : a.length < (a ++ 47 :: b).length := by simp
  exact slash_first hlt (by simp) (by simp [h])
theorem index_in {a b : List UInt8} (h : 47 ∈ a) : ∃ o : Nat, Lib.indexByte (a ++ 47 :: b) 47 = o ∧ o < a.length := by
  have hge : 0 ≤ Lib.indexByte (a ++ 47 :: b) 47 := by
    have h1 := Lib.indexByte_ge (a ++ 47 :: b) 47
    by_cases h2 : 0 ≤ Lib.indexByte (a ++ 47 :: b) 47
    · exact h2
    · exact absurd (List.mem_append_left _ h) (slash_none (l := a ++ 47 :: b) (by omega))
  obtain ⟨o, ho⟩ : ∃ o : Nat, Lib.indexByte (a ++ 47 :: b) 47 = o := ⟨_, (Int.toNat_of_nonneg hge).symm⟩
  refine ⟨o, ho, ?_⟩
  obtain ⟨_, h2⟩ := Lib.indexByte_some ho
  obtain ⟨k, hk, hk2⟩ := List.mem_iff_getElem.1 h
  by_cases hlt : o < a.length
  · exact hlt
  · refine absurd ?_ (h2 k (by omega))
    rw [List.getElem?_append_left hk, List.getElem?_eq_getElem hk, hk2]
theorem contains_iff (g : ByteArray) : decide (0 ≤ Lib.indexByte g.data.toList 47) = true ↔ 47 ∈ g.data.toList := by
  constructor
  · intro h
    have h2 := of_decide_eq_true h
    have h1 := Lib.indexByte_ge g.data.toList 47
    obtain ⟨o, ho⟩ : ∃ o : Nat, Lib.indexByte g.data.toList 47 = o := ⟨_, (Int.toNat_of_nonneg h2).symm⟩
    rw [(slash_at ho).1]
    simp
  · intro h
    refine decide_eq_true ?_
    have h1 := Lib.indexByte_ge g.data.toList 47
    by_cases h2 : 0 ≤ Lib.indexByte g.data.toList 47
    · exact h2
    · exact absurd h (slash_none (by omega))
theorem share_split (g f : ByteArray) : splitT (shareS g f) = partT (cutG (g.data.toList ++ 47 :: f.data.toList)) (cutF (g.data.toList ++ 47 :: f.data.toList)) := by
  unfold splitT
  rw [share_is, if_pos rfl, share_left]
  have : 0 ≤ Lib.indexByte (g.data.toList ++ 47 :: f.data.toList) 47 := by
    by_cases h : 47 ∈ g.data.toList
    · obtain ⟨o, ho, _⟩ := index_in (b := f.data.toList) h
      omega
    · rw [index_app h]; omega
  rw [if_pos this]
theorem share_plain {g f : ByteArray} (h : 47 ∉ g.data.toList) : splitT (shareS g f) = partT g f := by
  rw [share_split]
  unfold cutG cutF
  rw [index_app h]
  congr 1
  · rw [Int.toNat_natCast]
    exact string_eq_of (by simp [toB])
  · rw [Int.toNat_natCast]
    exact string_eq_of (by
      unfold toB
      rw [List.toList_toArray, ← List.drop_drop, List.drop_left]
      rfl)
theorem name_good {g : ByteArray} (h : nameB g = true) : 0 < g.size ∧ goodB g = true ∧ signsB g = false := by
  unfold nameB textB at h
  simp only [Bool.and_eq_true, decide_eq_true_eq, Bool.not_eq_true'] at h
  exact ⟨h.1.1.1, h.1.1.2, h.2⟩
theorem share_yes {g f : ByteArray} (hn : nameB g = true) (hc : decide (0 ≤ Lib.indexByte g.data.toList 47) = false) (hf : filterB f = true) : splitT (shareS g f) = (g, f, true) := by
  have h47 : 47 ∉ g.data.toList := fun h => by rw [(contains_iff g).2 h] at hc; cases hc
  obtain ⟨h1, h2, h3⟩ := name_good hn
  rw [share_plain h47]
  unfold partT
  rw [decide_eq_true h1, hf, h2, h3]
  rfl
/-- Where it is none: nothing, or another group. -/
theorem share_no {g f : ByteArray} (h : ¬ (nameB g = true ∧ decide (0 ≤ Lib.indexByte g.data.toList 47) = false ∧ filterB f = true)) (hs : g.size ≤ 20) :
    splitT (shareS g f) = (⟨#[]⟩, ⟨#[]⟩, false) ∨ ∃ g2 f2, splitT (shareS g f) = (g2, f2, true) ∧ (g2.toList == g.toList) = false ∧ filterB f2 = true ∧ f2.size ≤ g.size + f.size := by
  by_cases h47 : 47 ∈ g.data.toList
  · rw [share_split]
    obtain ⟨o, ho, hlt⟩ := index_in (b := f.data.toList) h47
    unfold partT
    have hfs := cutF_size (g.data.toList ++ 47 :: f.data.toList)
    have hfs2 : (cutF (g.data.toList ++ 47 :: f.data.toList)).size ≤ g.size + f.size := by
      unfold cutF
      rw [ho, toB_size, List.length_drop, List.length_append, List.length_cons, Int.toNat_natCast, Lib.size_eq, Lib.size_eq]
      omega
    by_cases hc : (decide (0 < (cutG (g.data.toList ++ 47 :: f.data.toList)).size) && filterB (cutF (g.data.toList ++ 47 :: f.data.toList)) && goodB (cutG (g.data.toList ++ 47 :: f.data.toList)) && !signsB (cutG (g.data.toList ++ 47 :: f.data.toList))) = true
    · rw [if_pos hc]
      refine .inr ⟨_, _, rfl, ?_, ?_, hfs2⟩
      · refine beq_eq_false_iff_ne.2 fun e => ?_
        have e2 := congrArg ByteArray.size (toList_inj e)
        unfold cutG at e2
        rw [ho, Int.toNat_natCast, toB_size, List.length_take, List.length_append] at e2
        have := Lib.size_eq g
        omega
      · simp only [Bool.and_eq_true] at hc
        exact hc.1.1.2
    · rw [if_neg hc]
      exact .inl rfl
  · rw [share_plain h47]
    unfold partT
    by_cases hc : (decide (0 < g.size) && filterB f && goodB g && !signsB g) = true
    · exfalso
      simp only [Bool.and_eq_true, decide_eq_true_eq, Bool.not_eq_true'] at hc
      refine h ⟨?_, ?_, hc.1.1.2⟩
      · unfold nameB textB
        have hcount : Lib.countByte g.data.toList 47 = 0 := List.count_eq_zero.2 h47
        rw [decide_eq_true hc.1.1.1, hc.1.2, hcount, hc.2]
        rfl
      · cases hd : decide (0 ≤ Lib.indexByte g.data.toList 47) with
        | false => rfl
        | true => exact absurd ((contains_iff g).1 hd) h47
    · rw [if_neg hc]
      exact .inl rfl
set_option maxHeartbeats 8000000 in
set_option maxRecDepth 1000000 in
theorem shares_calls (g0 f0 : ByteArray) (w : World) (hm : HasM w) : Calls Tryd.prog 7 #[.string g0, .string f0] w fun e w' => e = .returned (.bool true) ∧ Below w.heap.size w w' := by
  have HM := Lib.hid hm
  have HB := Lib.hid (Below.refl w.heap.size w)
  have HC1 := Lib.hid (cut_f g0 20)
  have HC2 := Lib.hid (cut_f f0 60)
  have hs1 := cutS_size g0 20
  have hs2 := cutS_size f0 60
  generalize cutS g0 20 = g at HC1 hs1
  generalize cutS f0 60 = f at HC2 hs2
  have hss := share_size g f
  obtain ⟨S1, hS1⟩ : ∃ S1, preB ++ g = S1 := ⟨_, rfl⟩
  obtain ⟨S2, hS2⟩ : ∃ S2, S1 ++ (⟨#[47]⟩ : ByteArray) = S2 := ⟨_, rfl⟩
  obtain ⟨S, hS⟩ : ∃ S, S2 ++ f = S := ⟨_, rfl⟩
  have hsh : shareS g f = S := by unfold shareS; rw [hS1, hS2, hS]
  have z1 : S1.size = 7 + g.size := by rw [← hS1, ByteArray.size_append]; rfl
  have z2 : S2.size = 8 + g.size := by rw [← hS2, ByteArray.size_append, z1]; show 7 + g.size + 1 = _; omega
  have hadd1 : ∀ W, (Op.stringOp .add ⟨#[36, 115, 104, 97, 114, 101, 47]⟩ g).run Tryd.prog W = .ok (.string S1) W := fun W => by
    have := run_string_add (P := Tryd.prog) W ⟨#[36, 115, 104, 97, 114, 101, 47]⟩ g (by show ((7 : Nat) : Int) ≤ _; omega) (by omega)
    rwa [show (⟨#[36, 115, 104, 97, 114, 101, 47]⟩ : ByteArray) ++ g = S1 from hS1] at this
  have hadd2 : ∀ W, (Op.stringOp .add S1 ⟨#[47]⟩).run Tryd.prog W = .ok (.string S2) W := fun W => by
    have := run_string_add (P := Tryd.prog) W S1 ⟨#[47]⟩ (by omega) (by show ((1 : Nat) : Int) ≤ _; omega)
    rwa [hS2] at this
  have hadd3 : ∀ W, (Op.stringOp .add S2 f).run Tryd.prog W = .ok (.string S) W := fun W => by
    have := run_string_add (P := Tryd.prog) W S2 f (by omega) (by omega)
    rwa [hS] at this
  rw [hsh] at hss
  have HSP := Lib.hid (fun W hm => split_calls S W hm (by omega))
  have HN := Lib.hid (fun W => name_callsB g W (by omega))
  have HCN := Lib.hid (fun W => Tryd.strings_Contains_one g 47 W)
  have HF1 := Lib.hid (fun W hm => filter_callsB f W hm (by omega))
  have hyes := @share_yes g f
  have hno := @share_no g f
  rw [hsh] at hyes hno
  clear hS1 hS2 hS hsh z1 z2 hm hss
  generalize nameB g = nb at HN hyes hno
  generalize decide (0 ≤ Lib.indexByte g.data.toList 47) = cb at HCN hyes hno
  generalize filterB f = fb at HF1 hyes hno
  by_cases hcase : nb = true ∧ cb = false ∧ fb = true
  · obtain ⟨rfl, rfl, rfl⟩ := hcase
    rw [hyes rfl rfl rfl] at HSP
    clear hyes hno hs1 hs2
    go_enter Tryd.func7, Tryd.ntmps7
    go_wp2_with (first
      | (go_at_call 10; refine (switchboardlaw01_Cut.calls g0 20 _ _ HC1.out).mono ?_; rintro e w1 ⟨rfl, hd⟩; have HB1 := Lib.hid (HB.out.trans ((hd.below).mono HB.out.size)); clear HB hd HC1; have HB := HB1; clear HB1)
      | (go_at_call 10; refine (switchboardlaw01_Cut.calls f0 60 _ _ HC2.out).mono ?_; rintro e w1 ⟨rfl, hd⟩; have HB1 := Lib.hid (HB.out.trans ((hd.below).mono HB.out.size)); clear HB hd HC2; have HB := HB1; clear HB1)
      | (go_at_call 19; refine (HSP.out _ (HM.out.to HB.out)).mono ?_; rintro e w1 ⟨rfl, hb⟩; have HB1 := Lib.hid (HB.out.trans ((hb).mono HB.out.size)); clear HB hb ; have HB := HB1; clear HB1)
      | (go_at_call 21; refine (awake10_calls _ (HM.out.to HB.out)).mono ?_; rintro e w1 ⟨rfl, hb⟩; have HB1 := Lib.hid (HB.out.trans ((hb).mono HB.out.size)); clear HB hb ; have HB := HB1; clear HB1)
      | (go_at_call 16; refine (HN.out _).mono ?_; rintro e w1 ⟨rfl, hb⟩; have HB1 := Lib.hid (HB.out.trans ((hb).mono HB.out.size)); clear HB hb ; have HB := HB1; clear HB1)
      | (go_at_call 30; refine (HCN.out _).mono ?_; rintro e w1 ⟨rfl, rfl⟩)
      | (go_at_call 17; refine (HF1.out _ (HM.out.to HB.out)).mono ?_; rintro e w1 ⟨rfl, hb⟩; have HB1 := Lib.hid (HB.out.trans ((hb).mono HB.out.size)); clear HB hb HF1; have HB := HB1; clear HB1)
      | (go_at_call 17; refine (HF2.out _ (HM.out.to HB.out)).mono ?_; rintro e w1 ⟨rfl, hb⟩; have HB1 := Lib.hid (HB.out.trans ((hb).mono HB.out.size)); clear HB hb HF2; have HB := HB1; clear HB1))
    go_ret
    exact ⟨rfl, HB.out⟩
  · rcases hno hcase hs1 with hr | ⟨g2, f2, hr, hne, hf2, hf2s⟩
    · rw [hr] at HSP
      clear hyes hno hr
      cases nb with
      | false =>
        clear hcase HF1 hs1 hs2
        go_enter Tryd.func7, Tryd.ntmps7
        go_wp2_with (first
      | (go_at_call 10; refine (switchboardlaw01_Cut.calls g0 20 _ _ HC1.out).mono ?_; rintro e w1 ⟨rfl, hd⟩; have HB1 := Lib.hid (HB.out.trans ((hd.below).mono HB.out.size)); clear HB hd HC1; have HB := HB1; clear HB1)
      | (go_at_call 10; refine (switchboardlaw01_Cut.calls f0 60 _ _ HC2.out).mono ?_; rintro e w1 ⟨rfl, hd⟩; have HB1 := Lib.hid (HB.out.trans ((hd.below).mono HB.out.size)); clear HB hd HC2; have HB := HB1; clear HB1)
      | (go_at_call 19; refine (HSP.out _ (HM.out.to HB.out)).mono ?_; rintro e w1 ⟨rfl, hb⟩; have HB1 := Lib.hid (HB.out.trans ((hb).mono HB.out.size)); clear HB hb ; have HB := HB1; clear HB1)
      | (go_at_call 21; refine (awake10_calls _ (HM.out.to HB.out)).mono ?_; rintro e w1 ⟨rfl, hb⟩; have HB1 := Lib.hid (HB.out.trans ((hb).mono HB.out.size)); clear HB hb ; have HB := HB1; clear HB1)
      | (go_at_call 16; refine (HN.out _).mono ?_; rintro e w1 ⟨rfl, hb⟩; have HB1 := Lib.hid (HB.out.trans ((hb).mono HB.out.size)); clear HB hb ; have HB := HB1; clear HB1)
      | (go_at_call 30; refine (HCN.out _).mono ?_; rintro e w1 ⟨rfl, rfl⟩)
      | (go_at_call 17; refine (HF1.out _ (HM.out.to HB.out)).mono ?_; rintro e w1 ⟨rfl, hb⟩; have HB1 := Lib.hid (HB.out.trans ((hb).mono HB.out.size)); clear HB hb HF1; have HB := HB1; clear HB1)
      | (go_at_call 17; refine (HF2.out _ (HM.out.to HB.out)).mono ?_; rintro e w1 ⟨rfl, hb⟩; have HB1 := Lib.hid (HB.out.trans ((hb).mono HB.out.size)); clear HB hb HF2; have HB := HB1; clear HB1))
        go_ret
        exact ⟨rfl, HB.out⟩
      | true =>
        cases cb with
        | true =>
          clear hcase HF1 hs1 hs2
          go_enter Tryd.func7, Tryd.ntmps7
          go_wp2_with (first
      | (go_at_call 10; refine (switchboardlaw01_Cut.calls g0 20 _ _ HC1.out).mono ?_; rintro e w1 ⟨rfl, hd⟩; have HB1 := Lib.hid (HB.out.trans ((hd.below).mono HB.out.size)); clear HB hd HC1; have HB := HB1; clear HB1)
      | (go_at_call 10; refine (switchboardlaw01_Cut.calls f0 60 _ _ HC2.out).mono ?_; rintro e w1 ⟨rfl, hd⟩; have HB1 := Lib.hid (HB.out.trans ((hd.below).mono HB.out.size)); clear HB hd HC2; have HB := HB1; clear HB1)
      | (go_at_call 19; refine (HSP.out _ (HM.out.to HB.out)).mono ?_; rintro e w1 ⟨rfl, hb⟩; have HB1 := Lib.hid (HB.out.trans ((hb).mono HB.out.size)); clear HB hb ; have HB := HB1; clear HB1)
      | (go_at_call 21; refine (awake10_calls _ (HM.out.to HB.out)).mono ?_; rintro e w1 ⟨rfl, hb⟩; have HB1 := Lib.hid (HB.out.trans ((hb).mono HB.out.size)); clear HB hb ; have HB := HB1; clear HB1)
      | (go_at_call 16; refine (HN.out _).mono ?_; rintro e w1 ⟨rfl, hb⟩; have HB1 := Lib.hid (HB.out.trans ((hb).mono HB.out.size)); clear HB hb ; have HB := HB1; clear HB1)
      | (go_at_call 30; refine (HCN.out _).mono ?_; rintro e w1 ⟨rfl, rfl⟩)
      | (go_at_call 17; refine (HF1.out _ (HM.out.to HB.out)).mono ?_; rintro e w1 ⟨rfl, hb⟩; have HB1 := Lib.hid (HB.out.trans ((hb).mono HB.out.size)); clear HB hb HF1; have HB := HB1; clear HB1)
      | (go_at_call 17; refine (HF2.out _ (HM.out.to HB.out)).mono ?_; rintro e w1 ⟨rfl, hb⟩; have HB1 := Lib.hid (HB.out.trans ((hb).mono HB.out.size)); clear HB hb HF2; have HB := HB1; clear HB1))
          go_ret
          exact ⟨rfl, HB.out⟩
        | false =>
          obtain rfl : fb = false := by
            cases fb
            · rfl
            · exact absurd ⟨rfl, rfl, rfl⟩ hcase
          clear hcase hs1 hs2
          go_enter Tryd.func7, Tryd.ntmps7
          go_wp2_with (first
      | (go_at_call 10; refine (switchboardlaw01_Cut.calls g0 20 _ _ HC1.out).mono ?_; rintro e w1 ⟨rfl, hd⟩; have HB1 := Lib.hid (HB.out.trans ((hd.below).mono HB.out.size)); clear HB hd HC1; have HB := HB1; clear HB1)
      | (go_at_call 10; refine (switchboardlaw01_Cut.calls f0 60 _ _ HC2.out).mono ?_; rintro e w1 ⟨rfl, hd⟩; have HB1 := Lib.hid (HB.out.trans ((hd.below).mono HB.out.size)); clear HB hd HC2; have HB := HB1; clear HB1)
      | (go_at_call 19; refine (HSP.out _ (HM.out.to HB.out)).mono ?_; rintro e w1 ⟨rfl, hb⟩; have HB1 := Lib.hid (HB.out.trans ((hb).mono HB.out.size)); clear HB hb ; have HB := HB1; clear HB1)
      | (go_at_call 21; refine (awake10_calls _ (HM.out.to HB.out)).mono ?_; rintro e w1 ⟨rfl, hb⟩; have HB1 := Lib.hid (HB.out.trans ((hb).mono HB.out.size)); clear HB hb ; have HB := HB1; clear HB1)
      | (go_at_call 16; refine (HN.out _).mono ?_; rintro e w1 ⟨rfl, hb⟩; have HB1 := Lib.hid (HB.out.trans ((hb).mono HB.out.size)); clear HB hb ; have HB := HB1; clear HB1)
      | (go_at_call 30; refine (HCN.out _).mono ?_; rintro e w1 ⟨rfl, rfl⟩)
      | (go_at_call 17; refine (HF1.out _ (HM.out.to HB.out)).mono ?_; rintro e w1 ⟨rfl, hb⟩; have HB1 := Lib.hid (HB.out.trans ((hb).mono HB.out.size)); clear HB hb HF1; have HB := HB1; clear HB1)
      | (go_at_call 17; refine (HF2.out _ (HM.out.to HB.out)).mono ?_; rintro e w1 ⟨rfl, hb⟩; have HB1 := Lib.hid (HB.out.trans ((hb).mono HB.out.size)); clear HB hb HF2; have HB := HB1; clear HB1))
          go_ret
          exact ⟨rfl, HB.out⟩
    · rw [hr] at HSP
      have HF2 := Lib.hid (fun W hm => filter_callsB f2 W hm (by omega))
      rw [hf2] at HF2
      clear hyes hno hr hf2 hf2s
      cases nb with
      | false =>
        clear hcase HF1 hs1 hs2
        go_enter Tryd.func7, Tryd.ntmps7
        go_wp2_with (first
      | (go_at_call 10; refine (switchboardlaw01_Cut.calls g0 20 _ _ HC1.out).mono ?_; rintro e w1 ⟨rfl, hd⟩; have HB1 := Lib.hid (HB.out.trans ((hd.below).mono HB.out.size)); clear HB hd HC1; have HB := HB1; clear HB1)
      | (go_at_call 10; refine (switchboardlaw01_Cut.calls f0 60 _ _ HC2.out).mono ?_; rintro e w1 ⟨rfl, hd⟩; have HB1 := Lib.hid (HB.out.trans ((hd.below).mono HB.out.size)); clear HB hd HC2; have HB := HB1; clear HB1)
      | (go_at_call 19; refine (HSP.out _ (HM.out.to HB.out)).mono ?_; rintro e w1 ⟨rfl, hb⟩; have HB1 := Lib.hid (HB.out.trans ((hb).mono HB.out.size)); clear HB hb ; have HB := HB1; clear HB1)
      | (go_at_call 21; refine (awake10_calls _ (HM.out.to HB.out)).mono ?_; rintro e w1 ⟨rfl, hb⟩; have HB1 := Lib.hid (HB.out.trans ((hb).mono HB.out.size)); clear HB hb ; have HB := HB1; clear HB1)
      | (go_at_call 16; refine (HN.out _).mono ?_; rintro e w1 ⟨rfl, hb⟩; have HB1 := Lib.hid (HB.out.trans ((hb).mono HB.out.size)); clear HB hb ; have HB := HB1; clear HB1)
      | (go_at_call 30; refine (HCN.out _).mono ?_; rintro e w1 ⟨rfl, rfl⟩)
      | (go_at_call 17; refine (HF1.out _ (HM.out.to HB.out)).mono ?_; rintro e w1 ⟨rfl, hb⟩; have HB1 := Lib.hid (HB.out.trans ((hb).mono HB.out.size)); clear HB hb HF1; have HB := HB1; clear HB1)
      | (go_at_call 17; refine (HF2.out _ (HM.out.to HB.out)).mono ?_; rintro e w1 ⟨rfl, hb⟩; have HB1 := Lib.hid (HB.out.trans ((hb).mono HB.out.size)); clear HB hb HF2; have HB := HB1; clear HB1))
        go_ret
        exact ⟨rfl, HB.out⟩
      | true =>
        cases cb with
        | true =>
          clear hcase HF1 hs1 hs2
          go_enter Tryd.func7, Tryd.ntmps7
          go_wp2_with (first
      | (go_at_call 10; refine (switchboardlaw01_Cut.calls g0 20 _ _ HC1.out).mono ?_; rintro e w1 ⟨rfl, hd⟩; have HB1 := Lib.hid (HB.out.trans ((hd.below).mono HB.out.size)); clear HB hd HC1; have HB := HB1; clear HB1)
      | (go_at_call 10; refine (switchboardlaw01_Cut.calls f0 60 _ _ HC2.out).mono ?_; rintro e w1 ⟨rfl, hd⟩; have HB1 := Lib.hid (HB.out.trans ((hd.below).mono HB.out.size)); clear HB hd HC2; have HB := HB1; clear HB1)
      | (go_at_call 19; refine (HSP.out _ (HM.out.to HB.out)).mono ?_; rintro e w1 ⟨rfl, hb⟩; have HB1 := Lib.hid (HB.out.trans ((hb).mono HB.out.size)); clear HB hb ; have HB := HB1; clear HB1)
      | (go_at_call 21; refine (awake10_calls _ (HM.out.to HB.out)).mono ?_; rintro e w1 ⟨rfl, hb⟩; have HB1 := Lib.hid (HB.out.trans ((hb).mono HB.out.size)); clear HB hb ; have HB := HB1; clear HB1)
      | (go_at_call 16; refine (HN.out _).mono ?_; rintro e w1 ⟨rfl, hb⟩; have HB1 := Lib.hid (HB.out.trans ((hb).mono HB.out.size)); clear HB hb ; have HB := HB1; clear HB1)
      | (go_at_call 30; refine (HCN.out _).mono ?_; rintro e w1 ⟨rfl, rfl⟩)
      | (go_at_call 17; refine (HF1.out _ (HM.out.to HB.out)).mono ?_; rintro e w1 ⟨rfl, hb⟩; have HB1 := Lib.hid (HB.out.trans ((hb).mono HB.out.size)); clear HB hb HF1; have HB := HB1; clear HB1)
      | (go_at_call 17; refine (HF2.out _ (HM.out.to HB.out)).mono ?_; rintro e w1 ⟨rfl, hb⟩; have HB1 := Lib.hid (HB.out.trans ((hb).mono HB.out.size)); clear HB hb HF2; have HB := HB1; clear HB1))
          go_ret
          exact ⟨rfl, HB.out⟩
        | false =>
          obtain rfl : fb = false := by
            cases fb
            · rfl
            · exact absurd ⟨rfl, rfl, rfl⟩ hcase
          clear hcase hs1 hs2
          go_enter Tryd.func7, Tryd.ntmps7
          go_wp2_with (first
      | (go_at_call 10; refine (switchboardlaw01_Cut.calls g0 20 _ _ HC1.out).mono ?_; rintro e w1 ⟨rfl, hd⟩; have HB1 := Lib.hid (HB.out.trans ((hd.below).mono HB.out.size)); clear HB hd HC1; have HB := HB1; clear HB1)
      | (go_at_call 10; refine (switchboardlaw01_Cut.calls f0 60 _ _ HC2.out).mono ?_; rintro e w1 ⟨rfl, hd⟩; have HB1 := Lib.hid (HB.out.trans ((hd.below).mono HB.out.size)); clear HB hd HC2; have HB := HB1; clear HB1)
      | (go_at_call 19; refine (HSP.out _ (HM.out.to HB.out)).mono ?_; rintro e w1 ⟨rfl, hb⟩; have HB1 := Lib.hid (HB.out.trans ((hb).mono HB.out.size)); clear HB hb ; have HB := HB1; clear HB1)
      | (go_at_call 21; refine (awake10_calls _ (HM.out.to HB.out)).mono ?_; rintro e w1 ⟨rfl, hb⟩; have HB1 := Lib.hid (HB.out.trans ((hb).mono HB.out.size)); clear HB hb ; have HB := HB1; clear HB1)
      | (go_at_call 16; refine (HN.out _).mono ?_; rintro e w1 ⟨rfl, hb⟩; have HB1 := Lib.hid (HB.out.trans ((hb).mono HB.out.size)); clear HB hb ; have HB := HB1; clear HB1)
      | (go_at_call 30; refine (HCN.out _).mono ?_; rintro e w1 ⟨rfl, rfl⟩)
      | (go_at_call 17; refine (HF1.out _ (HM.out.to HB.out)).mono ?_; rintro e w1 ⟨rfl, hb⟩; have HB1 := Lib.hid (HB.out.trans ((hb).mono HB.out.size)); clear HB hb HF1; have HB := HB1; clear HB1)
      | (go_at_call 17; refine (HF2.out _ (HM.out.to HB.out)).mono ?_; rintro e w1 ⟨rfl, hb⟩; have HB1 := Lib.hid (HB.out.trans ((hb).mono HB.out.size)); clear HB hb HF2; have HB := HB1; clear HB1))
          go_ret
          exact ⟨rfl, HB.out⟩
end Go.Proofs.YtjlohmhmnghjkaaDoor
