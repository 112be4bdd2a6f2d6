/- Parts of a proof about aliases: LA. -/
import Derived.Test.YtbfgpkogginmjaaGreatDoorZ4
import Derived.Test.YtbfgpkogginmjaaGreatDoorZ7
import Derived.Test.YtbfgpkogginmjaaGreatDoorZ9
section
namespace Go.Proofs.YtbfgpkogginmjaaGreatDoor
open Go.RowKit Go.Lib Go.Proofs.YtbfgpkogginmjaaGreatDoorW.PrintWords Go.Proofs.YtbfgpkogginmjaaGreatDoor.PSwitchboardGreat
set_option linter.unusedVariables false
set_option linter.unusedSimpArgs false
theorem string_eq_of {a b : ByteArray} (h : a.data.toList = b.data.toList) : a = b := by
  cases a; cases b
  simp only at h
  congr
  exact Array.toList_inj.1 h
theorem toB_list (s : ByteArray) : toB s.data.toList = s := by
  cases s
  simp [toB]
theorem toB_inj {a b : List UInt8} (h : toB a = toB b) : a = b := by
  have := congrArg (fun s : ByteArray => s.data.toList) h
  simpa [toB] using this
def splitP : List UInt8 → List UInt8 → List (List UInt8)
  | part, [] => [part]
  | part, b :: l => if b = 47 then part :: splitP [] l else splitP (part ++ [b]) l
def levelsL (l : List UInt8) : List (List UInt8) := splitP [] l
def levelsOf (s : ByteArray) : List ByteArray := (levelsL s.data.toList).map toB
theorem splitP_hit : ∀ (a b p : List UInt8), 47 ∉ a → splitP p (a ++ 47 :: b) = (p ++ a) :: splitP [] b
  | [], b, p, _ => by simp [splitP]
  | x :: a, b, p, h => by
    have hx : ¬ x = 47 := fun e => h (by rw [e]; simp)
    rw [List.cons_append, splitP, if_neg hx, splitP_hit a b (p ++ [x]) (fun e => h (by simp [e]))]
    simp
theorem splitP_miss : ∀ (a p : List UInt8), 47 ∉ a → splitP p a = [p ++ a]
  | [], p, _ => by simp [splitP]
  | x :: a, p, h => by
    have hx : ¬ x = 47 := fun e => h (by rw [e]; simp)
    rw [splitP, if_neg hx, splitP_miss a (p ++ [x]) (fun e => h (by simp [e]))]
    simp
theorem splitP_ne : ∀ (l p : List UInt8), splitP p l ≠ []
  | [], p => by simp [splitP]
  | x :: l, p => by
    unfold splitP
    split
    · simp
    · exact splitP_ne l _
theorem splitP_length : ∀ (l p : List UInt8), (splitP p l).length = l.count 47 + 1
  | [], p => rfl
  | x :: l, p => by
    unfold splitP
    by_cases h : x = 47
    · rw [if_pos h, List.length_cons, splitP_length l [], h, List.count_cons_self]
    · rw [if_neg h, splitP_length l (p ++ [x]), List.count_cons_of_ne (by simpa using h)]
theorem levelsOf_length (s : ByteArray) : (levelsOf s).length = Lib.countByte s.data.toList 47 + 1 := by
  unfold levelsOf levelsL
  rw [List.length_map, splitP_length]
  rfl
theorem slash_at {l : List UInt8} {o : Nat} (h : Lib.indexByte l 47 = o) : l = l.take o ++ 47 :: l.drop (o + 1) ∧ 47 ∉ l.take o := by
  obtain ⟨h1, h2⟩ := Lib.indexByte_some h
  obtain ⟨hlt, he⟩ := List.getElem?_eq_some_iff.1 h1
  refine ⟨?_, fun hm => ?_⟩
  · rw [← he, ← List.drop_eq_getElem_cons hlt, List.take_append_drop]
  · obtain ⟨k, hk, hk2⟩ := List.mem_iff_getElem.1 hm
    rw [List.getElem_take] at hk2
    refine h2 k (by rw [List.length_take] at hk; omega) ?_
    rw [List.getElem?_eq_getElem (by rw [List.length_take] at hk; omega), hk2]
theorem slash_none {l : List UInt8} (h : Lib.indexByte l 47 = -1) : 47 ∉ l := fun hm => by
  obtain ⟨k, hk, hk2⟩ := List.mem_iff_getElem.1 hm
  exact Lib.indexByte_none h k (by rw [List.getElem?_eq_getElem hk, hk2])
theorem indexB_slash (s : ByteArray) : Lib.indexB s ⟨#[47]⟩ = Lib.indexByte s.data.toList 47 := Lib.index_one s.data.toList 47
theorem splitB_levels : ∀ (k : Nat) (s : ByteArray), Lib.countB s ⟨#[47]⟩ = k → Lib.splitB ⟨#[47]⟩ 0 k s = levelsOf s
  | 0, s, hk => by
    rcases Lib.indexB_cases s ⟨#[47]⟩ with hix | ⟨i, hix, _⟩
    · rw [Lib.splitB_zero]
      rw [indexB_slash] at hix
      unfold levelsOf levelsL
      rw [splitP_miss _ _ (slash_none hix)]
      simp [toB_list]
    · have := Lib.countB_hit s ⟨#[47]⟩ i (by decide) hix
      omega
  | k + 1, s, hk => by
    rcases Lib.indexB_cases s ⟨#[47]⟩ with hix | ⟨i, hix, hroom⟩
    · rw [Lib.countB_miss s _ hix] at hk; omega
    · rw [Lib.splitB_hit ⟨#[47]⟩ 0 k s i hix, splitB_levels k _ (by have := Lib.countB_hit s ⟨#[47]⟩ i (by decide) hix; omega)]
      rw [indexB_slash] at hix
      obtain ⟨h1, h2⟩ := slash_at hix
      have e1 : s.extract 0 (i + 0) = toB (s.data.toList.take i) := string_eq_of (by rw [Lib.extract_eq]; simp [toB])
      have e2 : (s.extract (i + (⟨#[47]⟩ : ByteArray).size) s.size).data.toList = s.data.toList.drop (i + 1) := by
        rw [show (⟨#[47]⟩ : ByteArray).size = 1 from rfl, extract_from]
      unfold levelsOf levelsL
      rw [e1, e2]
      conv => rhs; rw [h1, splitP_hit _ _ _ h2]
      simp
theorem split_levels (s : ByteArray) : Lib.splitB ⟨#[47]⟩ 0 (Lib.countB s ⟨#[47]⟩) s = levelsOf s := splitB_levels _ s rfl
theorem split_count (s : ByteArray) : Lib.countB s ⟨#[47]⟩ + 1 = (levelsOf s).length := by
  rw [← split_levels, Lib.splitB_all ⟨#[47]⟩ (by decide) 0 _ s rfl]
def HasM (w : World) : Prop := ∃ m, w.cell? ⟨0, 0, none⟩ = some (.int .i64 m)
theorem HasM.below {w w1 : World} (h : HasM w) {B : Nat} (hb : Below B w w1) (hB : 0 < B) : HasM w1 := by
  obtain ⟨m, hm⟩ := h
  exact ⟨m, (hb.cell (p := ⟨0, 0, none⟩) hB).trans hm⟩
theorem HasM.pos {w : World} (h : HasM w) : 0 < w.heap.size := by
  obtain ⟨m, hm⟩ := h
  exact World.block_lt_of_cell? w _ hm
theorem HasM.to {w w1 : World} (h : HasM w) (hb : Below w.heap.size w w1) : HasM w1 := h.below hb h.pos
def LevelsPost (w : World) (s : ByteArray) (e : Ending) (w' : World) : Prop :=
  ∃ A c, e = .returned (.slice A (levelsOf s).length c) ∧ Kd.R Kd.string 9 w' w.heap.size (fun _ => True) (.slice A (levelsOf s).length c) (levelsOf s) ∧ Below w.heap.size w w'
theorem count_small (s : ByteArray) : Lib.countB s ⟨#[47]⟩ ≤ s.size := Lib.countB_le ⟨#[47]⟩ (by decide) _ s (Nat.le_refl _)
theorem levels_calls (s : ByteArray) (w : World) (hm : HasM w) (hs : s.size < 4294967281) : Calls Tryz.prog 34 #[.string s] w (LevelsPost w s) := by
  obtain ⟨m, hm⟩ := hm
  have hfin : LevelsPost w s (.returned (.slice (some ⟨w.heap.size, 0, none⟩) (Lib.countB s ⟨#[47]⟩ + 1) (Lib.countB s ⟨#[47]⟩ + 1))) (w.alloc (.cells ((Lib.splitB ⟨#[47]⟩ 0 (Lib.countB s ⟨#[47]⟩) s).map Value.string).toArray 9)) := by
    rw [split_count, split_levels]
    refine ⟨_, _, rfl, ?_, (Below.refl _ _).alloc (Nat.le_refl _) _⟩
    have hc := count_small s
    have h := World.ownsRow_lit (base := w.heap.size) (e := 9) (size := 1) w ((levelsOf s).map Value.string).toArray (levelsOf s).length (Nat.le_refl _) (by rw [← split_count]; unfold maxLen; omega) (by simp)
    rw [List.toList_toArray] at h
    exact Kd.R_of_own (enc := Value.string) (h1 := fun _ => rfl) h (fun _ _ => trivial)
  have H := Lib.hid (Tryz.strings_Split s ⟨#[47]⟩ m w hs hm (by decide))
  have hfin := Lib.hid hfin
  clear hm
  go_enter Tryz.func34, Tryz.ntmps34
  go_wp2_with (go_at_call 55; refine H.out.mono ?_; rintro e w1 ⟨rfl, rfl⟩)
  go_ret
  exact hfin.out
theorem rdOf_at (L : List ByteArray) (j : Nat) (h : j < L.length) : rdOf ByteArray.empty L (j : Int) = L[j] := by
  unfold rdOf
  rw [Int.toNat_natCast, List.getD_eq_getElem?_getD, List.getElem?_eq_getElem h]
  rfl
def meetsL : List ByteArray → List ByteArray → Bool
  | [], n => n.isEmpty
  | x :: f, n => if x.toList = [35] ∧ f = [] then true else
    match n with
    | [] => false
    | y :: n => if x.toList = [43] ∨ x.toList = y.toList then meetsL f n else false
def hidB (s : ByteArray) : Bool := if 1 ≤ s.size then ((s.extract 0 1).toList == (⟨#[36]⟩ : ByteArray).toList) else false
theorem hidden_f (s : ByteArray) : topic_Hidden.f s = some (hidB s) := by
  unfold topic_Hidden.f strings_HasPrefix.f stringslite_HasPrefix.f hidB
  have e : ((⟨#[36]⟩ : ByteArray).size : Int) = 1 := rfl
  rw [e]
  by_cases h : 1 ≤ s.size
  · rw [if_pos (by omega), if_pos (by omega), if_pos (by omega), if_pos h]; rfl
  · rw [if_neg (by omega), if_neg h]; rfl
def signFirst : List ByteArray → Bool
  | [] => false
  | x :: _ => (x.toList == [43]) || (x.toList == [35])
def matchB (f n : ByteArray) : Bool := if hidB n && signFirst (levelsOf f) then false else meetsL (levelsOf f) (levelsOf n)
theorem levelsOf_ne (s : ByteArray) : 0 < (levelsOf s).length := by rw [levelsOf_length]; omega
set_option maxHeartbeats 4000000 in
set_option maxRecDepth 1000000 in
theorem match_calls (f n : ByteArray) (w : World) (hm : HasM w) (hf : f.size ≤ 1000000) (hn : n.size ≤ 1000000) : Calls Tryz.prog 19 #[.string f, .string n] w fun e w' => e = .returned (.bool (matchB f n)) ∧ Below w.heap.size w w' := by
  have HL1 := Lib.hid (levels_calls f w hm (by omega))
  have HL2 := Lib.hid (fun W hm => levels_calls n W hm (by omega))
  have HM := Lib.hid hm
  obtain ⟨Lf, hLf⟩ : ∃ L, levelsOf f = L := ⟨_, rfl⟩
  obtain ⟨Ln, hLn⟩ : ∃ L, levelsOf n = L := ⟨_, rfl⟩
  obtain ⟨hd, hhd⟩ : ∃ b, hidB n = b := ⟨_, rfl⟩
  have hlf : Lf.length ≤ 1000001 := by rw [← hLf, ← split_count]; have := count_small f; omega
  have hln : Ln.length ≤ 1000001 := by rw [← hLn, ← split_count]; have := count_small n; omega
  have hlf0 : 0 < Lf.length := by rw [← hLf]; exact levelsOf_ne f
  have HH := Lib.hid (hidden_f n)
  rw [hhd] at HH
  have HMB := Lib.hid (show matchB f n = if hd && signFirst Lf then false else meetsL Lf Ln by unfold matchB; rw [hLf, hLn, hhd])
  unfold LevelsPost at HL1 HL2
  rw [hLf] at HL1
  rw [hLn] at HL2
  generalize matchB f n = mb at HMB ⊢
  clear hm hhd hLf hLn hf hn
  have hsf : signFirst Lf = ((Lf[0].toList == ([43] : List UInt8)) || (Lf[0].toList == ([35] : List UInt8))) := by
    cases Lf with
    | nil => simp at hlf0
    | cons x l => rfl
  have HSF := Lib.hid hsf
  clear hsf
  go_enter Tryz.func19, Tryz.ntmps19
  go_upto_region 2 with (first
    | (go_at_call 34; refine HL1.out.mono ?_; rintro e w1 hp; obtain ⟨A1, c1, rfl, hR, hb⟩ := hp; have HR1 := Lib.hid hR; have HB := Lib.hid hb; clear hR hb HL1)
    | (go_at_call 34; refine (HL2.out _ (HM.out.to HB.out)).mono ?_; rintro e w2 hp; obtain ⟨A2, c2, rfl, hR, hb⟩ := hp; have HR2 := Lib.hid hR; have HB2 := Lib.hid (HB.out.trans (hb.mono HB.out.size)); have HR1' := Lib.hid (Kd.R_below HR1.out hb); clear hR hb HR1))
  have HC1 := Lib.hid (Kd.R_reads' HR1'.out).2.2
  have HC2 := Lib.hid (Kd.R_reads' HR2.out).2.2
  clear HR1' HR2 HB HL2
  cases hd with
  | false =>
    simp only [Bool.false_and, Bool.false_eq_true, if_false] at HMB
    go_upto_region 4 with (go_at_call 35; refine (topic_Hidden.calls n _ _ HH.out).mono ?_; rintro e w3 ⟨rfl, hdr⟩; have HB23 := Lib.hid hdr.below; have HB3 := Lib.hid (HB2.out.trans (hdr.below.mono HB2.out.size)); clear hdr)
    clear HH
    go_upto_region 5 with (fail)
    go_loopg [29] Lf.length (fun gh v wx => ∃ j : Nat, Hid (j + gh = Lf.length) ∧ Hid (j ≤ Ln.length) ∧ v = .int .i64 j ∧ Hid (mb = meetsL (Lf.drop j) (Ln.drop j)) ∧ Hid (Below w3.heap.size w3 wx))
    case atStart => exact ⟨0, Lib.hid (Nat.zero_add _), Lib.hid (Nat.zero_le _), rfl, HMB, Lib.hid (Below.refl _ _)⟩
    case round =>
      clear HMB
      obtain ⟨j, hj, hjn, rfl, HMB, HB⟩ := hrel
      cases gk with
      | zero =>
        have hjl : ¬ j < Lf.length := by have := hj.out; omega
        have hmb : mb = ((Lf.length : Int) == (Ln.length : Int)) := by
          rw [HMB.out, List.drop_eq_nil_of_le (by omega)]
          have h1 := hj.out
          have h2 := hjn.out
          cases hd : Ln.drop j with
          | nil =>
            have h3 := congrArg List.length hd
            simp only [List.length_drop, List.length_nil] at h3
            show true = _
            exact (beq_iff_eq.2 (by omega)).symm
          | cons a l =>
            have h3 := congrArg List.length hd
            simp only [List.length_drop, List.length_cons] at h3
            show false = _
            exact (beq_eq_false_iff_ne.2 (by omega)).symm
        have HMB2 := Lib.hid hmb
        clear hmb
        go_wp2
        go_ret
        exact ⟨by rw [HMB2.out]; rfl, HB3.out.trans (HB.out.mono HB3.out.size)⟩
      | succ g1 =>
        have hjl : j < Lf.length := by have := hj.out; omega
        obtain ⟨ad, hA, hcell⟩ := Kd.at_string HC1.out (j : Int) (by omega) (by omega)
        cases hA
        have hcell := ((HB23.out.trans (HB.out.mono HB23.out.size)).cell (World.block_lt_of_cell? w2 _ hcell)).trans hcell
        rw [Int.toNat_natCast, rdOf_at Lf j hjl] at hcell
        rw [List.drop_eq_getElem_cons hjl] at HMB
        have hlast : (Lf.drop (j + 1) = []) ↔ j + 1 = Lf.length := by rw [List.drop_eq_nil_iff]; omega
        have hlen1 : ((j : Int) == (Lf.length : Int) - 1) = decide (j + 1 = Lf.length) := by
          by_cases h : j + 1 = Lf.length
          · rw [decide_eq_true h]; exact beq_iff_eq.2 (by omega)
          · rw [decide_eq_false h]; exact beq_eq_false_iff_ne.2 (by omega)
        generalize Lf[j] = x at hcell HMB
        unfold meetsL at HMB
        by_cases h35 : x.toList = [35] ∧ j + 1 = Lf.length
        · have b35 : (x.toList == ([35] : List UInt8)) = true := beq_iff_eq.2 h35.1
          have hl2 : ((j : Int) == (Lf.length : Int) - 1) = true := by rw [hlen1, decide_eq_true h35.2]
          rw [if_pos ⟨h35.1, hlast.2 h35.2⟩] at HMB
          clear h35 hlast hlen1
          go_wp2
          go_ret
          exact ⟨by rw [HMB.out]; rfl, HB3.out.trans (HB.out.mono HB3.out.size)⟩
        · rw [if_neg (fun h => h35 ⟨h.1, hlast.1 h.2⟩)] at HMB
          have hcs : ((x.toList == ([35] : List UInt8)) = false) ∨ ((x.toList == ([35] : List UInt8)) = true ∧ ((j : Int) == (Lf.length : Int) - 1) = false) := by
            by_cases h1 : x.toList = [35]
            · exact .inr ⟨beq_iff_eq.2 h1, by rw [hlen1]; exact decide_eq_false (fun h => h35 ⟨h1, h⟩)⟩
            · exact .inl (beq_eq_false_iff_ne.2 h1)
          clear h35 hlast hlen1
          by_cases hjn2 : j < Ln.length
          · obtain ⟨ad2, hA2, hcell2⟩ := Kd.at_string HC2.out (j : Int) (by omega) (by omega)
            cases hA2
            have hcell2 := ((HB23.out.trans (HB.out.mono HB23.out.size)).cell (World.block_lt_of_cell? w2 _ hcell2)).trans hcell2
            rw [Int.toNat_natCast, rdOf_at Ln j hjn2] at hcell2
            rw [List.drop_eq_getElem_cons hjn2] at HMB
            generalize Ln[j] = y at hcell2 HMB
            simp only at HMB
            by_cases h43 : x.toList = [43]
            · have b43 : (x.toList == ([43] : List UInt8)) = true := beq_iff_eq.2 h43
              have hjn3 : ¬ Ln.length ≤ j := by omega
              rw [if_pos (.inl h43)] at HMB
              clear h43
              rcases hcs with b35 | ⟨b35, hl2⟩
              all_goals
                go_wp2
                go_roundg g1
                case measure => omega
                case rel => exact ⟨j + 1, Lib.hid (by have := hj.out; omega), Lib.hid (by omega), by simp, HMB, HB⟩
            · have b43 : (x.toList == ([43] : List UInt8)) = false := beq_eq_false_iff_ne.2 h43
              have hjn3 : ¬ Ln.length ≤ j := by omega
              by_cases hxy : x.toList = y.toList
              · have bxy : (x.toList == y.toList) = true := beq_iff_eq.2 hxy
                rw [if_pos (.inr hxy)] at HMB
                clear h43 hxy
                rcases hcs with b35 | ⟨b35, hl2⟩
                all_goals
                  go_wp2
                  go_roundg g1
                  case measure => omega
                  case rel => exact ⟨j + 1, Lib.hid (by have := hj.out; omega), Lib.hid (by omega), by simp, HMB, HB⟩
              · have bxy : (x.toList == y.toList) = false := beq_eq_false_iff_ne.2 hxy
                rw [if_neg (fun h => h.elim h43 hxy)] at HMB
                clear h43 hxy
                rcases hcs with b35 | ⟨b35, hl2⟩
                all_goals
                  go_wp2
                  go_ret
                  exact ⟨by rw [HMB.out]; rfl, HB3.out.trans (HB.out.mono HB3.out.size)⟩
          · rw [List.drop_eq_nil_of_le (by omega)] at HMB
            simp only at HMB
            have hjn3 : Ln.length ≤ j := by omega
            rcases hcs with b35 | ⟨b35, hl2⟩
            all_goals
              go_wp2
              go_ret
              exact ⟨by rw [HMB.out]; rfl, HB3.out.trans (HB.out.mono HB3.out.size)⟩
  | true =>
    obtain ⟨ad0, hA0, hx0⟩ := Kd.at_string HC1.out 0 (by omega) (by omega)
    cases hA0
    rw [show rdOf ByteArray.empty Lf 0 = Lf[0] from rdOf_at Lf 0 hlf0] at hx0
    simp only [Bool.true_and] at HMB
    rw [HSF.out] at HMB
    generalize Lf[0] = x0 at HMB hx0
    have hx0 : w2.cell? ad0 = some (.string x0) := by
      have h := hx0
      rw [show ad0.add (0 : Int).toNat = ad0 by unfold Addr.add; simp] at h
      exact h
    cases b43 : (x0.toList == ([43] : List UInt8)) with
    | true =>
      rw [b43] at HMB
      simp only [Bool.true_or, if_true] at HMB
      go_wp2_with (first | (go_at_call 35; refine (topic_Hidden.calls n _ _ HH.out).mono ?_; rintro e w3 ⟨rfl, hdr⟩; have HB23 := Lib.hid hdr.below; have HB3 := Lib.hid (HB2.out.trans (hdr.below.mono HB2.out.size)); have hx0 := (hdr.below.cell (World.block_lt_of_cell? w2 _ hx0)).trans hx0; clear hdr))
      go_ret
      exact ⟨by rw [HMB.out]; rfl, HB3.out⟩
    | false =>
      rw [b43, Bool.false_or] at HMB
      cases b35 : (x0.toList == ([35] : List UInt8)) with
      | true =>
        rw [b35] at HMB
        simp only [if_true] at HMB
        go_wp2_with (first | (go_at_call 35; refine (topic_Hidden.calls n _ _ HH.out).mono ?_; rintro e w3 ⟨rfl, hdr⟩; have HB23 := Lib.hid hdr.below; have HB3 := Lib.hid (HB2.out.trans (hdr.below.mono HB2.out.size)); have hx0 := (hdr.below.cell (World.block_lt_of_cell? w2 _ hx0)).trans hx0; clear hdr))
        go_ret
        exact ⟨by rw [HMB.out]; rfl, HB3.out⟩
      | false =>
        rw [b35] at HMB
        simp only [Bool.false_eq_true, if_false] at HMB
        go_upto_region 4 with (go_at_call 35; refine (topic_Hidden.calls n _ _ HH.out).mono ?_; rintro e w3 ⟨rfl, hdr⟩; have HB23 := Lib.hid hdr.below; have HB3 := Lib.hid (HB2.out.trans (hdr.below.mono HB2.out.size)); have hx0 := (hdr.below.cell (World.block_lt_of_cell? w2 _ hx0)).trans hx0; clear hdr)
        clear hx0 b43 b35
        clear HH
        go_upto_region 5 with (fail)
        go_loopg [29] Lf.length (fun gh v wx => ∃ j : Nat, Hid (j + gh = Lf.length) ∧ Hid (j ≤ Ln.length) ∧ v = .int .i64 j ∧ Hid (mb = meetsL (Lf.drop j) (Ln.drop j)) ∧ Hid (Below w3.heap.size w3 wx))
        case atStart => exact ⟨0, Lib.hid (Nat.zero_add _), Lib.hid (Nat.zero_le _), rfl, HMB, Lib.hid (Below.refl _ _)⟩
        case round =>
          clear HMB
          obtain ⟨j, hj, hjn, rfl, HMB, HB⟩ := hrel
          cases gk with
          | zero =>
            have hjl : ¬ j < Lf.length := by have := hj.out; omega
            have hmb : mb = ((Lf.length : Int) == (Ln.length : Int)) := by
              rw [HMB.out, List.drop_eq_nil_of_le (by omega)]
              have h1 := hj.out
              have h2 := hjn.out
              cases hd : Ln.drop j with
              | nil =>
                have h3 := congrArg List.length hd
                simp only [List.length_drop, List.length_nil] at h3
                show true = _
                exact (beq_iff_eq.2 (by omega)).symm
              | cons a l =>
                have h3 := congrArg List.length hd
                simp only [List.length_drop, List.length_cons] at h3
                show false = _
                exact (beq_eq_false_iff_ne.2 (by omega)).symm
            have HMB2 := Lib.hid hmb
            clear hmb
            go_wp2
            go_ret
            exact ⟨by rw [HMB2.out]; rfl, HB3.out.trans (HB.out.mono HB3.out.size)⟩
          | succ g1 =>
            have hjl : j < Lf.length := by have := hj.out; omega
            obtain ⟨ad, hA, hcell⟩ := Kd.at_string HC1.out (j : Int) (by omega) (by omega)
            cases hA
            have hcell := ((HB23.out.trans (HB.out.mono HB23.out.size)).cell (World.block_lt_of_cell? w2 _ hcell)).trans hcell
            rw [Int.toNat_natCast, rdOf_at Lf j hjl] at hcell
            rw [List.drop_eq_getElem_cons hjl] at HMB
            have hlast : (Lf.drop (j + 1) = []) ↔ j + 1 = Lf.length := by rw [List.drop_eq_nil_iff]; omega
            have hlen1 : ((j : Int) == (Lf.length : Int) - 1) = decide (j + 1 = Lf.length) := by
              by_cases h : j + 1 = Lf.length
              · rw [decide_eq_true h]; exact beq_iff_eq.2 (by omega)
              · rw [decide_eq_false h]; exact beq_eq_false_iff_ne.2 (by omega)
            generalize Lf[j] = x at hcell HMB
            unfold meetsL at HMB
            by_cases h35 : x.toList = [35] ∧ j + 1 = Lf.length
            · have b35 : (x.toList == ([35] : List UInt8)) = true := beq_iff_eq.2 h35.1
              have hl2 : ((j : Int) == (Lf.length : Int) - 1) = true := by rw [hlen1, decide_eq_true h35.2]
              rw [if_pos ⟨h35.1, hlast.2 h35.2⟩] at HMB
              clear h35 hlast hlen1
              go_wp2
              go_ret
              exact ⟨by rw [HMB.out]; rfl, HB3.out.trans (HB.out.mono HB3.out.size)⟩
            · rw [if_neg (fun h => h35 ⟨h.1, hlast.1 h.2⟩)] at HMB
              have hcs : ((x.toList == ([35] : List UInt8)) = false) ∨ ((x.toList == ([35] : List UInt8)) = true ∧ ((j : Int) == (Lf.length : Int) - 1) = false) := by
                by_cases h1 : x.toList = [35]
                · exact .inr ⟨beq_iff_eq.2 h1, by rw [hlen1]; exact decide_eq_false (fun h => h35 ⟨h1, h⟩)⟩
                · exact .inl (beq_eq_false_iff_ne.2 h1)
              clear h35 hlast hlen1
              by_cases hjn2 : j < Ln.length
              · obtain ⟨ad2, hA2, hcell2⟩ := Kd.at_string HC2.out (j : Int) (by omega) (by omega)
                cases hA2
                have hcell2 := ((HB23.out.trans (HB.out.mono HB23.out.size)).cell (World.block_lt_of_cell? w2 _ hcell2)).trans hcell2
                rw [Int.toNat_natCast, rdOf_at Ln j hjn2] at hcell2
                rw [List.drop_eq_getElem_cons hjn2] at HMB
                generalize Ln[j] = y at hcell2 HMB
                simp only at HMB
                by_cases h43 : x.toList = [43]
                · have b43 : (x.toList == ([43] : List UInt8)) = true := beq_iff_eq.2 h43
                  have hjn3 : ¬ Ln.length ≤ j := by omega
                  rw [if_pos (.inl h43)] at HMB
                  clear h43
                  rcases hcs with b35 | ⟨b35, hl2⟩
                  all_goals
                    go_wp2
                    go_roundg g1
                    case measure => omega
                    case rel => exact ⟨j + 1, Lib.hid (by have := hj.out; omega), Lib.hid (by omega), by simp, HMB, HB⟩
                · have b43 : (x.toList == ([43] : List UInt8)) = false := beq_eq_false_iff_ne.2 h43
                  have hjn3 : ¬ Ln.length ≤ j := by omega
                  by_cases hxy : x.toList = y.toList
                  · have bxy : (x.toList == y.toList) = true := beq_iff_eq.2 hxy
                    rw [if_pos (.inr hxy)] at HMB
                    clear h43 hxy
                    rcases hcs with b35 | ⟨b35, hl2⟩
                    all_goals
                      go_wp2
                      go_roundg g1
                      case measure => omega
                      case rel => exact ⟨j + 1, Lib.hid (by have := hj.out; omega), Lib.hid (by omega), by simp, HMB, HB⟩
                  · have bxy : (x.toList == y.toList) = false := beq_eq_false_iff_ne.2 hxy
                    rw [if_neg (fun h => h.elim h43 hxy)] at HMB
                    clear h43 hxy
                    rcases hcs with b35 | ⟨b35, hl2⟩
                    all_goals
                      go_wp2
                      go_ret
                      exact ⟨by rw [HMB.out]; rfl, HB3.out.trans (HB.out.mono HB3.out.size)⟩
              · rw [List.drop_eq_nil_of_le (by omega)] at HMB
                simp only at HMB
                have hjn3 : Ln.length ≤ j := by omega
                rcases hcs with b35 | ⟨b35, hl2⟩
                all_goals
                  go_wp2
                  go_ret
                  exact ⟨by rw [HMB.out]; rfl, HB3.out.trans (HB.out.mono HB3.out.size)⟩
theorem aw_m0 : matchB ⟨#[97, 47, 43]⟩ ⟨#[97, 47, 98]⟩ = true := by
  simp [matchB, hidB, signFirst, levelsOf, levelsL, splitP, toB, meetsL, Lib.toList_data, Lib.extract_eq, ByteArray.size]
theorem aw_m3 : matchB ⟨#[35]⟩ ⟨#[36, 120]⟩ = false := by
  simp [matchB, hidB, signFirst, levelsOf, levelsL, splitP, toB, meetsL, Lib.toList_data, Lib.extract_eq, ByteArray.size]
theorem kind38 : kindOf 38 = 7 := by decide +kernel
theorem reason3 : reason_Of.f 20 3 = some 130 := by decide +kernel
theorem var321 : toB (varU 321) = ⟨#[193, 2]⟩ := by
  rw [varU_ge (by decide), varU_lt (by decide)]
  rfl
set_option maxHeartbeats 1000000 in
set_option maxRecDepth 1000000 in
theorem live_calls (w : World) (hm : HasM w) : Calls Tryz.prog 5 #[] w fun e w' => e = .returned (.bool true) ∧ Below w.heap.size w w' := by
  have HM := Lib.hid hm
  have HB := Lib.hid (Below.refl w.heap.size w)
  have HM0 := Lib.hid (fun W hm => match_calls ⟨#[97, 47, 43]⟩ ⟨#[97, 47, 98]⟩ W hm (by decide) (by decide))
  rw [aw_m0] at HM0
  have HM3 := Lib.hid (fun W hm => match_calls ⟨#[35]⟩ ⟨#[36, 120]⟩ W hm (by decide) (by decide))
  rw [aw_m3] at HM3
  have HK := Lib.hid (fun W => kind_calls 38 W)
  rw [kind38] at HK
  clear hm
  go_enter Tryz.func5, Tryz.ntmps5
  go_wp2_with (first
    | (go_at_call 14; refine (sign_calls ⟨#[195, 169]⟩ _).mono ?_; rintro e w1 hp; obtain ⟨v, n, rfl, hS, hb⟩ := hp; obtain ⟨rfl, rfl⟩ := sign_e9 hS; have HO := Lib.hid ((OW.new w (fun k => w.heap.size ≤ k)).below hb); have HB1 := Lib.hid (HB.out.trans (((Below.refl w.heap.size w).alloc (Nat.le_refl _) _).trans (hb.mono (by rw [World.size_alloc]; omega)))); clear HB hb hS; have HB := HB1; clear HB1)
    | (go_at_call 15; refine (ovar_calls HO.out (fun k hk => Nat.le_trans HB.out.size hk) (by rw [List.length_nil]; omega) 321 (by decide)).mono ?_; rintro e w1 ⟨rfl, ho, hb⟩; rw [List.nil_append] at ho; have HO2 := Lib.hid ho; have HB1 := Lib.hid (HB.out.trans (hb.to_below HB.out.size (Nat.le_refl _) (fun _ h => h))); clear HB HO ho hb; have HB := HB1; clear HB1)
    | (go_at_call 16; refine (text_calls HO2.out).mono ?_; rw [var321]; rintro e w1 ⟨rfl, hb⟩; have HB1 := Lib.hid (HB.out.trans (hb.mono HB.out.size)); clear HB HO2 hb; have HB := HB1; clear HB1)
    | (go_at_call 17; refine (HK.out _).mono ?_; rintro e w1 ⟨rfl, hb⟩; have HB1 := Lib.hid (HB.out.trans ((hb).mono HB.out.size)); clear HB hb ; have HB := HB1; clear HB1)
    | (go_at_call 18; refine (reason_Of.calls 20 3 130 _ reason3).mono ?_; rintro e w1 ⟨rfl, hd⟩; have HB1 := Lib.hid (HB.out.trans ((hd.below).mono HB.out.size)); clear HB hd ; have HB := HB1; clear HB1)
    | (go_at_call 19; refine (HM0.out _ (HM.out.to HB.out)).mono ?_; rintro e w1 ⟨rfl, hb⟩; have HB1 := Lib.hid (HB.out.trans ((hb).mono HB.out.size)); clear HB hb HM0; have HB := HB1; clear HB1)
    | (go_at_call 19; refine (HM3.out _ (HM.out.to HB.out)).mono ?_; rintro e w1 ⟨rfl, hb⟩; have HB1 := Lib.hid (HB.out.trans ((hb).mono HB.out.size)); clear HB hb HM3; have HB := HB1; clear HB1))
  go_ret
  exact ⟨rfl, HB.out⟩
end Go.Proofs.YtbfgpkogginmjaaGreatDoor
end
