/- TopicWider: the walk. -/
import Derived.Test.YtjlohmhmnghjkaaDoorT16
import Derived.Test.YtjlohmhmnghjkaaDoorShelf2
namespace Go.Proofs.YtjlohmhmnghjkaaDoor
open Go.RowKit Go.Lib Go.Proofs.YtjlohmhmnghjkaaDoorW.PrintWords Go.Proofs.YtjlohmhmnghjkaaDoor.PTopicReads
set_option linter.unusedVariables false
set_option linter.unusedSimpArgs false

theorem join_calls {w : World} {base : Nat} {ok : Nat → Prop} {A : Option Addr} {c m : Nat} {M : List ByteArray} (h : Kd.string.R 9 w base ok (.slice A M.length c) M) (hp : 0 < M.length) (hl : M.length ≤ 1000) (hs : (joinB M).size ≤ 1000) (hm : m = M.length) :
    Calls Tryd.prog 31 #[.slice A m c, .string ⟨#[47]⟩] w fun e w' => e = .returned (.string (joinB M)) ∧ Below w.heap.size w w' := by
  subst hm
  obtain ⟨g, cap, he, _, hlt, _⟩ := Kd.R_form h hp
  injection he with h1 h2 h3
  subst h1
  subst h3
  obtain ⟨_, hcap, hC⟩ := Kd.R_reads' h
  have hj : Lib.join (M.map (fun s : ByteArray => s.data.toList)) (⟨#[47]⟩ : ByteArray).data.toList = unL (M.map (fun s : ByteArray => s.data.toList)) := join_unL _
  have hz : (unL (M.map (fun s : ByteArray => s.data.toList))).length ≤ 1000 := by
    have := hs
    unfold joinB at this
    rwa [toB_size] at this
  have := Tryd.strings_Join g 0 c M ⟨#[47]⟩ w (fun j x hx => by
    obtain ⟨hjl, hjx⟩ := List.getElem?_eq_some_iff.1 hx
    obtain ⟨ad, hA, hc⟩ := Kd.at_string hC (j : Int) (by omega) (by omega)
    injection hA with hA
    subst hA
    rw [Int.toNat_natCast, add_plain, rdOf_at M j hjl, hjx] at hc
    rw [Nat.zero_add]
    exact hc) hlt (by omega) hcap (by rw [hj]; omega)
  rw [hj] at this
  exact this
theorem store_string {w : World} {base g n cap : Nat} {ok : Nat → Prop} {xs : List ByteArray} (h : Kd.string.R 9 w base ok (.slice (some ⟨g, 0, none⟩) n cap) xs) (i : Nat) (x : ByteArray) : Kd.string.R 9 (w.setCell ⟨g, i, none⟩ (.string x)) base ok (.slice (some ⟨g, 0, none⟩) n cap) (xs.set i x) := by
  have := Kd.R_putn (enc := Value.string) (h1 := fun _ => rfl) h (i : Int) x
  rwa [Int.toNat_natCast] at this
set_option maxHeartbeats 4000000 in
set_option maxRecDepth 1000000 in
theorem wider_main (f0 n0 : ByteArray) (k : Nat) (w : World) (hm : HasM w) (hf : filterB (cutS f0 80) = true) (hn : nameB (cutS n0 80) = true) (hh : hidB (cutS n0 80) = false) (hmb : matchB (cutS f0 80) (cutS n0 80) = true) (hk : k < (levelsOf (cutS f0 80)).length) : Calls Tryd.prog 8 #[.string f0, .string n0, .int .i64 k] w fun e w' => e = .returned (.bool true) ∧ Below w.heap.size w w' := by
  have HM := Lib.hid hm
  have HB := Lib.hid (Below.refl w.heap.size w)
  have HC1 := Lib.hid (cut_f f0 80)
  have HC2 := Lib.hid (cut_f n0 80)
  have hs1 := cutS_size f0 80
  have hs2 := cutS_size n0 80
  generalize cutS f0 80 = f at HC1 hs1 hf hmb hk
  generalize cutS n0 80 = n at HC2 hs2 hn hh hmb
  have HN := Lib.hid (fun W => name_callsB n W (by omega))
  have HF := Lib.hid (fun W hm => filter_callsB f W hm (by omega))
  have HMC := Lib.hid (fun W hm => match_calls f n W hm (by omega) (by omega))
  have HH := Lib.hid (hidden_f n)
  have HLV := Lib.hid (fun W hm => levels_calls f W hm (by omega))
  have hlp := levelsOf_ne f
  have hll : (levelsOf f).length ≤ 81 := by rw [← split_count]; have := count_small f; omega
  obtain ⟨e1, e2, e3⟩ := @wider_ends f n hf hs1 k hk
  have hplus := @wider_plus f n hf hs1 k hk
  unfold LevelsPost at HLV
  rw [hf] at HF
  rw [hn] at HN
  rw [hmb] at HMC
  rw [hh] at HH
  have HFE := Lib.hid (fun W hm => filter_callsB (joinB ((levelsOf f).take k ++ [⟨#[35]⟩])) W hm (by omega))
  rw [e2] at HFE
  have HME := Lib.hid (fun W hm => match_calls (joinB ((levelsOf f).take k ++ [⟨#[35]⟩])) n W hm (by omega) (by omega))
  rw [e3 hh hmb] at HME
  have hplus2 := fun h => (hplus h)
  clear hm hf hn e2 e3
  generalize levelsOf f = L at *
  have HLP := Lib.hid hlp
  have HLL := Lib.hid hll
  have HS2 := Lib.hid hs2
  have HK := Lib.hid hk
  have HES := Lib.hid e1
  have HP3 := Lib.hid hplus
  have HHB := Lib.hid (And.intro hh hmb)
  have hk1 : decide ((k : Int) < 0) = false := decide_eq_false (by omega)
  have hk2 : decide ((L.length : Int) ≤ k) = false := decide_eq_false (by omega)
  clear hplus hplus2 e1 hs1 hs2 hlp hll hh hmb
  go_enter Tryd.func8, Tryd.ntmps8
  go_upto_region 7 with (first
    | (go_at_call 10; refine (switchboardlaw01_Cut.calls f0 80 _ _ HC1.out).mono ?_; rintro e w1 ⟨rfl, hd⟩; have HB1 := Lib.hid (HB.out.trans ((hd.below).mono HB.out.size)); clear HB hd HC1; have HB := HB1; clear HB1)
    | (go_at_call 10; refine (switchboardlaw01_Cut.calls n0 80 _ _ HC2.out).mono ?_; rintro e w1 ⟨rfl, hd⟩; have HB1 := Lib.hid (HB.out.trans ((hd.below).mono HB.out.size)); clear HB hd HC2; have HB := HB1; clear HB1)
    | (go_at_call 21; refine (awake10_calls _ (HM.out.to HB.out)).mono ?_; rintro e w1 ⟨rfl, hb⟩; have HB1 := Lib.hid (HB.out.trans ((hb).mono HB.out.size)); clear HB hb ; have HB := HB1; clear HB1)
    | (go_at_call 17; refine (HF.out _ (HM.out.to HB.out)).mono ?_; rintro e w1 ⟨rfl, hb⟩; have HB1 := Lib.hid (HB.out.trans ((hb).mono HB.out.size)); clear HB hb HF; have HB := HB1; clear HB1)
    | (go_at_call 16; refine (HN.out _).mono ?_; rintro e w1 ⟨rfl, hb⟩; have HB1 := Lib.hid (HB.out.trans ((hb).mono HB.out.size)); clear HB hb HN; have HB := HB1; clear HB1)
    | (go_at_call 27; refine (topic_Hidden.calls n _ _ HH.out).mono ?_; rintro e w1 ⟨rfl, hd⟩; have HB1 := Lib.hid (HB.out.trans ((hd.below).mono HB.out.size)); clear HB hd ; have HB := HB1; clear HB1)
    | (go_at_call 28; refine (HMC.out _ (HM.out.to HB.out)).mono ?_; rintro e w1 ⟨rfl, hb⟩; have HB1 := Lib.hid (HB.out.trans ((hb).mono HB.out.size)); clear HB hb HMC; have HB := HB1; clear HB1)
    | (go_at_call 23; refine (HLV.out _ (HM.out.to HB.out)).mono ?_; rintro e wb hp; obtain ⟨A1, c1, rfl, hR, hb⟩ := hp; obtain ⟨gl, cap, he, _, _, _⟩ := Kd.R_form hR HLP.out; injection he with he1 he2 he3; subst he1; subst he3; have HRL := Lib.hid hR; have HGL : Hid (w.heap.size ≤ gl) := Lib.hid (by have := HB.out.size; omega); have HB1 := Lib.hid (HB.out.trans (hb.mono HB.out.size)); clear HB hb hR HLV he2; have HB := HB1; clear HB1))
  have HW := HB
  have HM0 := HM
  have HM1 := Lib.hid (HM.out.to HB.out)
  clear HB HM
  have HM := HM1
  have HB := Lib.hid (Below.refl wb.heap.size wb)
  clear HM1
  have hsl := (print_take_of (P := Tryd.prog) Value.string ByteArray.empty 39 9 .i64 Tryd.underlying39 (show Tryd.prog.info? 9 = some _ from rfl) rfl (some ⟨gl, 0, none⟩) c1 L (k : Int) (by omega) (by omega) (Kd.R_reads' HRL.out).2.1).1
  rw [Int.toNat_natCast] at hsl
  go_upto_region 10 with (first
    | ((with_reducible refine gate_dst (N := 47) rfl ?_); refine Kd.R_lit Kd.string (w0 := wb) wb.heap.size 9 ?hg (N := 47) ?hd (xs := ([] : List ByteArray)) (inner := []) (ok := fun _ => True) (okp := fun _ => False) ?hr ?hp (fun _ hk => hk.elim) trivial HB.out HB.out.size (by simp) ?_; (case hd => rfl); (case hg => rfl); (case hr => first | (go_simp; done) | (go_simp; rfl)); (case hp => exact (Reps.none _ _)); intro v47 w3 ho hb _ _; have HE := Lib.hid ho; clear HB ho; have HB := Lib.hid hb; clear hb; have HRW := Lib.hid (Kd.R_below HRL.out HB.out))
    | ((with_reducible refine gate_builtin (b := .append) (xs := #[.tmp 47, .tmp 50]) rfl ?_); at_builtin; go_loud (refine Kd.R_append_rows Kd.string (w0 := wb) wb.heap.size rfl (.tmp 47) (.tmp 50) 39 9 (.string ⟨#[]⟩) 16 rfl Tryd.underlying39 info9 rfl (by decide) (by omega) v47 [] (L.take k) _ _ _ (fun _ => True) (fun _ => False) rfl rfl HE.out (Rr := Kd.string.K w3) (by have h := Kd.C_take (Kd.R_reads' HRW.out).2.2 (Nat.le_of_lt HK.out); rw [List.length_take] at h; exact h) (fun _ _ h => h) (fun _ h => h.elim) (fun _ _ => trivial) HB.out HB.out.size (by have := HLL.out; have := HK.out; simp; omega) ?_); intro v51 w4 hR hb _ _; rw [List.nil_append] at hR; clear HB HE HRW; have HE := Lib.hid hR; have HB := Lib.hid hb; clear hR hb)
    | ((with_reducible refine gate_builtin (b := .append) (xs := #[.tmp 51, .tmp 52]) rfl ?_); at_builtin; refine Kd.R_append Kd.string (w0 := wb) wb.heap.size rfl (.tmp 51) (.tmp 52) 39 9 (.string ⟨#[]⟩) 16 rfl Tryd.underlying39 info9 rfl (by decide) (by omega) v51 (L.take k) ⟨#[35]⟩ [.string ⟨#[35]⟩] (fun _ => True) (fun _ => False) rfl rfl rfl (fun _ hk => hk.elim) (fun _ _ => trivial) HE.out HB.out HB.out.size (by have := HLL.out; have := HK.out; simp; omega) ?_; intro v53 w5 hR hb _ _; obtain ⟨A53, c53, rfl⟩ := Kd.R_slice hR; clear HB HE; have HE := Lib.hid hR; have HB := Lib.hid hb; clear hR hb)
    | (go_at_call 31; refine (join_calls HE.out (by simp) (by have := HLL.out; have := HK.out; simp; omega) (by have := HES.out; omega) (by simp)).mono ?_; rintro e w6 ⟨rfl, hb⟩; have HB1 := Lib.hid (HB.out.trans (hb.mono HB.out.size)); clear HB HE hb; have HB := HB1; clear HB1)
    | (go_at_call 17; refine (HFE.out _ (HM.out.to HB.out)).mono ?_; rintro e w1 ⟨rfl, hb⟩; have HB1 := Lib.hid (HB.out.trans ((hb).mono HB.out.size)); clear HB hb HFE; have HB := HB1; clear HB1)
    | (go_at_call 28; refine (HME.out _ (HM.out.to HB.out)).mono ?_; rintro e w1 ⟨rfl, hb⟩; have HB1 := Lib.hid (HB.out.trans ((hb).mono HB.out.size)); clear HB hb HME; have HB := HB1; clear HB1))
  clear hsl HM
  have HRW := Lib.hid (Kd.R_below HRL.out HB.out)
  obtain ⟨ad, hA, hcell⟩ := Kd.at_string (Kd.R_reads' HRW.out).2.2 (k : Int) (by omega) (by omega)
  cases hA
  rw [Int.toNat_natCast, rdOf_at L k hk] at hcell
  have hcell2 := hcell
  rw [add_plain] at hcell2
  obtain ⟨gl2, cap2, he2, _, _, cells2, hblk⟩ := Kd.R_form HRW.out HLP.out
  injection he2 with he3 he4 he5
  injection he3 with he3
  injection he3 with he3 _ _
  subst he3
  subst he5
  have hfz := blk_frozen hblk k
  clear hblk
  generalize L[k] = x at hcell hcell2 HP3
  by_cases h35 : x.toList = [35]
  · have h35b : (x.toList == [35]) = true := by rw [h35]; rfl
    clear HP3 h35
    go_wp2
    go_ret
    exact ⟨rfl, HW.out.trans (HB.out.mono HW.out.size)⟩
  · have h35b : (x.toList == [35]) = false := beq_eq_false_iff_ne.2 h35
    obtain ⟨p1, p2, p3⟩ := HP3.out h35
    have p4 := p3 HHB.out.1 HHB.out.2
    have HFE := Lib.hid (fun W hm => filter_callsB (joinB (L.set k ⟨#[43]⟩)) W hm (by omega))
    rw [p2] at HFE
    have HS2b := HS2.out
    have HME := Lib.hid (fun W hm => match_calls (joinB (L.set k ⟨#[43]⟩)) n W hm (by omega) (by omega))
    rw [p4] at HME
    have HES2 := Lib.hid p1
    clear HP3 h35 p1 p2 p3 p4 HS2b
    go_upto_region 13 with (fail)
    have HSR := store_string HRW.out k ⟨#[43]⟩
    have hlen : L.length = (L.set k (⟨#[43]⟩ : ByteArray)).length := List.length_set.symm
    rw [hlen] at HSR
    have HS := Lib.hid HSR
    have HB2 := Lib.hid ((HW.out.trans (HB.out.mono HW.out.size)).setCell HGL.out (p := ⟨gl, k, none⟩) (.string ⟨#[43]⟩))
    clear hlen HSR HRW HRL hcell hcell2 hfz HB HW
    generalize w1.setCell ⟨gl, k, none⟩ (.string ⟨#[43]⟩) = W2 at *
    have HB := HB2
    have HM := HM0
    clear HB2
    go_wp2_with (first
      | (go_at_call 31; refine (join_calls HS.out (by have := HLP.out; simp; exact this) (by have := HLL.out; simp; omega) (by have := HES2.out; omega) (by simp)).mono ?_; rintro e w6 ⟨rfl, hb⟩; have HB1 := Lib.hid (HB.out.trans (hb.mono HB.out.size)); clear HB HS hb; have HB := HB1; clear HB1)
      | (go_at_call 17; refine (HFE.out _ (HM.out.to HB.out)).mono ?_; rintro e w1 ⟨rfl, hb⟩; have HB1 := Lib.hid (HB.out.trans ((hb).mono HB.out.size)); clear HB hb HFE; have HB := HB1; clear HB1)
      | (go_at_call 28; refine (HME.out _ (HM.out.to HB.out)).mono ?_; rintro e w1 ⟨rfl, hb⟩; have HB1 := Lib.hid (HB.out.trans ((hb).mono HB.out.size)); clear HB hb HME; have HB := HB1; clear HB1))
    go_ret
    exact ⟨rfl, HB.out⟩
end Go.Proofs.YtjlohmhmnghjkaaDoor
