/- AliasLast: the walk; over what came in. -/
import Derived.Test.YtjlohmhmnghjkaaP2
import Derived.Lib.ConvBytes
import Derived.Deep.Slices
import Derived.SizedLaws
import Derived.ChangeSame
namespace Go.Proofs.Ytjlohmhmnghjkaa
open Go.RowKit Go.Maps Go.Proofs.YtjlohmhmnghjkaaW.PrintWords Go.Proofs.Ytjlohmhmnghjkaa.PAliasPlays
set_option linter.unusedVariables false
set_option linter.unusedSimpArgs false

theorem enc_ascii (n : Nat) (h : n < 128) : Utf8.encode ((n : Nat) : Int) = ⟨#[UInt8.ofNat n]⟩ := by
  unfold Utf8.encode
  have hv : Utf8.valid (n : Int) = true := by
    unfold Utf8.valid
    simp only [Bool.or_eq_true, Bool.and_eq_true, decide_eq_true_eq]
    omega
  simp [hv, h]
/-- What the table holds: the last topic, under the alias N. -/
def lF (N : Nat) (last : ByteArray) : Nat → Option ByteArray := if last.size = 0 then nF else setF nF N last
def lM (last : ByteArray) : Nat := if last.size = 0 then 0 else 1
def letters (l : List UInt8) : Prop := ∀ x ∈ l, 97 ≤ x.toNat ∧ x.toNat ≤ 122
theorem letters_snoc {l : List UInt8} {x : UInt8} (h : letters l) (hx : 97 ≤ x.toNat ∧ x.toNat ≤ 122) : letters (l ++ [x]) := fun y hy => by
  rcases List.mem_append.1 hy with hy | hy
  · exact h y hy
  · obtain rfl := List.mem_singleton.1 hy
    exact hx
theorem cat_snoc (l : List UInt8) (x : UInt8) : (⟨(116 :: l).toArray⟩ : ByteArray) ++ ⟨#[x]⟩ = ⟨(116 :: (l ++ [x])).toArray⟩ := string_eq_of (by simp [ByteArray.data_append])
theorem name_facts {l : List UInt8} (h5 : l.length ≤ 5) (hl : letters l) : (0 < (⟨(116 :: l).toArray⟩ : ByteArray).size ∧ (⟨(116 :: l).toArray⟩ : ByteArray).size ≤ 6) ∧ cutS ⟨(116 :: l).toArray⟩ 30 = ⟨(116 :: l).toArray⟩ ∧ switchboardref10_Name.f 200 ⟨(116 :: l).toArray⟩ = some true := by
  have hs : (⟨(116 :: l).toArray⟩ : ByteArray).size = l.length + 1 := by rw [Lib.size_eq]; simp
  refine ⟨by rw [hs]; omega, cutS_short (by rw [hs]; omega), word_of (nameW_plain (116 :: l) (by simp) (by simp; omega) fun x hx => ?_) (by rw [hs]; omega)⟩
  rcases List.mem_cons.1 hx with rfl | hx
  · decide
  · have h2 := hl x hx
    refine ⟨by omega, by omega, ?_⟩
    unfold plusHash
    simp only [List.contains_cons, List.contains_nil, Bool.or_false, Bool.or_eq_false_iff, beq_eq_false_iff_ne]
    constructor
    · rintro rfl; exact absurd h2.1 (by decide)
    · rintro rfl; exact absurd h2.1 (by decide)
theorem lF_pos {N : Nat} {s : ByteArray} (h : 0 < s.size) : lF N s = setF nF N s := if_neg (by omega)
theorem lM_pos {s : ByteArray} (h : 0 < s.size) : lM s = 1 := if_neg (by omega)
theorem setF_twice (N : Nat) (F : Nat → Option ByteArray) (a b : ByteArray) : setF (setF F N a) N b = setF F N b := by
  funext k
  unfold setF
  by_cases h : k = N
  · rw [if_pos h, if_pos h]
  · rw [if_neg h, if_neg h, if_neg h]
theorem lF_set (N : Nat) (last s : ByteArray) (hs : 0 < s.size) : setF (lF N last) N s = lF N s := by
  rw [lF_pos hs]
  unfold lF
  by_cases h : last.size = 0
  · rw [if_pos h]
  · rw [if_neg h, setF_twice]
theorem lF_at (N : Nat) (last : ByteArray) : lF N last N = if last.size = 0 then none else some last := by
  unfold lF
  by_cases h : last.size = 0
  · rw [if_pos h, if_pos h]; rfl
  · rw [if_neg h, if_neg h]; exact if_pos rfl
theorem last_set (N : Nat) (last s : ByteArray) (hN : 1 ≤ N) (hs : 0 < s.size) : stR N (lF N last) (oOf [(N : Int)]) s true = (s, 0) ∧ stM (lF N last) (lM last) (stS N (oOf [(N : Int)]) s true) = lM s ∧ stF (lF N last) (stS N (oOf [(N : Int)]) s true) s = lF N s := by
  have ho : oOf [(N : Int)] = some N := rfl
  have hb : ¬ (N = 0 ∨ N < N) := by omega
  have hz : ¬ s.size = 0 := by omega
  rw [ho]
  refine ⟨?_, ?_, ?_⟩
  · simp only [stR, if_neg hb, if_neg hz]; rfl
  · simp only [stS, if_neg hb, if_neg hz, if_true, stM, lF_at, lM_pos hs]
    unfold lM
    by_cases h : last.size = 0
    · simp [h]
    · simp [h]
  · simp only [stS, if_neg hb, if_neg hz, if_true, stF, lF_set N last s hs]
theorem last_hash (N : Nat) (s : ByteArray) (hN : 1 ≤ N ∧ N ≤ 65535) : stR N (lF N s) (oOf [(N : Int)]) ⟨#[97, 47, 35]⟩ false = (⟨#[]⟩, 9) ∧ stM (lF N s) (lM s) (stS N (oOf [(N : Int)]) ⟨#[97, 47, 35]⟩ false) = lM s ∧ stF (lF N s) (stS N (oOf [(N : Int)]) ⟨#[97, 47, 35]⟩ false) ⟨#[97, 47, 35]⟩ = lF N s := by
  have ho : oOf [(N : Int)] = some N := rfl
  have hb : ¬ (N = 0 ∨ N < N) := by omega
  have hz : ¬ (⟨#[97, 47, 35]⟩ : ByteArray).size = 0 := by decide
  rw [ho]
  refine ⟨?_, ?_, ?_⟩
  · simp only [stR, if_neg hb, if_neg hz]; rfl
  · simp only [stS, if_neg hb, if_neg hz, stM]; rfl
  · simp only [stS, if_neg hb, if_neg hz, stF]; rfl
theorem last_q (N d : Nat) (s : ByteArray) (hN : 1 ≤ N ∧ N ≤ 65535) : wordB N (oOf [(N : Int) + 1 + ((d : Nat) : Int)]) ⟨#[113]⟩ true ∧ stR N (lF N s) (oOf [(N : Int) + 1 + ((d : Nat) : Int)]) ⟨#[113]⟩ true = (⟨#[]⟩, 11) ∧ stM (lF N s) (lM s) (stS N (oOf [(N : Int) + 1 + ((d : Nat) : Int)]) ⟨#[113]⟩ true) = lM s ∧ stF (lF N s) (stS N (oOf [(N : Int) + 1 + ((d : Nat) : Int)]) ⟨#[113]⟩ true) ⟨#[113]⟩ = lF N s := by
  have ho : oOf [(N : Int) + 1 + ((d : Nat) : Int)] = some (N + 1 + d) := by
    show some ((N : Int) + 1 + ((d : Nat) : Int)).toNat = _
    congr 1
  have hb : N + 1 + d = 0 ∨ N < N + 1 + d := by omega
  rw [ho]
  refine ⟨.inl ⟨_, rfl, hb⟩, ?_, ?_, ?_⟩
  · simp only [stR, if_pos hb]
  · simp only [stS, if_pos hb, stM]
  · simp only [stS, if_pos hb, stF]
theorem last_get0 (N : Nat) (hN : 1 ≤ N ∧ N ≤ 65535) : stR N (lF N ⟨#[]⟩) (oOf [(N : Int)]) ⟨#[]⟩ true = (⟨#[]⟩, 3) ∧ stM (lF N ⟨#[]⟩) (lM ⟨#[]⟩) (stS N (oOf [(N : Int)]) ⟨#[]⟩ true) = 0 ∧ stF (lF N ⟨#[]⟩) (stS N (oOf [(N : Int)]) ⟨#[]⟩ true) ⟨#[]⟩ = nF := by
  have ho : oOf [(N : Int)] = some N := rfl
  have hb : ¬ (N = 0 ∨ N < N) := by omega
  have hz : (⟨#[]⟩ : ByteArray).size = 0 := rfl
  rw [ho]
  refine ⟨?_, ?_, ?_⟩
  · simp only [stR, if_neg hb, if_pos hz]; rfl
  · simp only [stS, if_neg hb, if_pos hz, stM]; rfl
  · simp only [stS, if_neg hb, if_pos hz, stF]; rfl
theorem last_get1 (N : Nat) (s : ByteArray) (hN : 1 ≤ N ∧ N ≤ 65535) (hs : 0 < s.size) : stR N (lF N s) (oOf [(N : Int)]) ⟨#[]⟩ true = (s, 0) ∧ stM (lF N s) (lM s) (stS N (oOf [(N : Int)]) ⟨#[]⟩ true) = 1 ∧ stF (lF N s) (stS N (oOf [(N : Int)]) ⟨#[]⟩ true) ⟨#[]⟩ = lF N s := by
  have ho : oOf [(N : Int)] = some N := rfl
  have hb : ¬ (N = 0 ∨ N < N) := by omega
  have hz : (⟨#[]⟩ : ByteArray).size = 0 := rfl
  have ha : lF N s N = some s := by rw [lF_at, if_neg (by omega)]
  rw [ho]
  refine ⟨?_, ?_, ?_⟩
  · simp only [stR, if_neg hb, if_pos hz, ha]; rfl
  · simp only [stS, if_neg hb, if_pos hz, stM, lM_pos hs]
  · simp only [stS, if_neg hb, if_pos hz, stF]
theorem word_hash : switchboardref10_Name.f 200 ⟨#[97, 47, 35]⟩ = some false := word_of nameW_slash_hash (by decide)
theorem one_ok {N : Nat} (h : N < 4294967296) : ∀ x ∈ [(N : Int)], 0 ≤ x ∧ x < 4294967296 := fun x hx => by
  obtain rfl := List.mem_singleton.1 hx
  omega
theorem rd_ok {l : List Int} (h : ∀ x ∈ l, 0 ≤ x ∧ x < 4294967296) (i : Nat) (hi : i < l.length) : 0 ≤ rd l (i : Int) ∧ rd l (i : Int) < 4294967296 := by
  unfold rd
  rw [Int.toNat_natCast, List.getD_eq_getElem?_getD, List.getElem?_eq_getElem hi]
  exact h _ (List.getElem_mem hi)
set_option maxHeartbeats 4000000 in
set_option maxRecDepth 100000 in
theorem last_nat (n0 : Nat) (hn0 : n0 < 4294967296) (A1 A2 : Option Addr) (c1 c2 : Nat) (l1 : List ByteArray) (l2 : List Int) (w : World) (h1 : Kd.C Kd.string w A1 l1.length l1) (hc1 : l1.length ≤ c1) (h2 : Kd.C (Kd.int .u32) w A2 l2.length l2) (hc2 : l2.length ≤ c2) (hw2 : ∀ x ∈ l2, 0 ≤ x ∧ x < 4294967296) :
    Calls Try.prog 3 #[.int .u32 n0, .slice A1 l1.length c1, .slice A2 l2.length c2] w fun e w' => e = .returned (.bool true) ∧ Below w.heap.size w w' := by
  have H1 := Lib.hid h1
  have H2 := Lib.hid h2
  have HC1 := Lib.hid hc1
  have HC2 := Lib.hid hc2
  have HW2 := Lib.hid hw2
  obtain ⟨N, hN, hN1, hN2⟩ : ∃ N : Nat, 1 + (n0 : Int) % 65535 = N ∧ 1 ≤ N ∧ N ≤ 65535 := ⟨1 + n0 % 65535, by omega, by omega, by omega⟩
  have HN := Lib.hid (show 1 ≤ N ∧ N ≤ 65535 from ⟨hN1, hN2⟩)
  clear h1 h2 hc1 hc2 hw2
  go_enter Try.func3, Try.ntmps3
  go_wp2_with (first
    | (go_at_call 8; refine (tnew_calls _ N).mono ?_; rintro e w1 hp; obtain ⟨g, bm, rfl, hpt, hb⟩ := hp; have HS : Hid (TS w w1 g bm N 0 0 nF) := Lib.hid ⟨by have h := hpt; rw [Nat.min_eq_left hN2] at h; exact h, hb⟩; clear hpt hb)
    | (go_at_call 9; refine (awake_calls _).mono ?_; rintro e w2 ⟨rfl, hb⟩; have HS0 := Lib.hid (HS.out.to hb); clear HS hb; have HS := HS0; clear HS0))
  clear hN1 hN2 hN
  go_loopg [8, 9] 20 (fun gh v8 v9 wx => ∃ (i c : Nat) (last : ByteArray), Hid (i + gh = 20) ∧ Hid (c ≤ 3 * i) ∧ Hid (last.size ≤ 6) ∧ v8 = .string last ∧ v9 = .int .i64 i ∧ Hid (TS w wx g bm N c (lM last) (lF N last)))
  case atStart => exact ⟨0, 0, ⟨#[]⟩, Lib.hid rfl, Lib.hid (Nat.le_refl _), Lib.hid (by decide), rfl, rfl, HS⟩
  case round =>
    clear HS
    obtain ⟨i, c, last, hi, hc, hls, rfl, rfl, HS⟩ := hrel
    by_cases hin : i < l1.length ∧ i < 20
    · obtain ⟨g1, rfl⟩ : ∃ g1, gk = g1 + 1 := ⟨gk - 1, by have := hi.out; omega⟩
      obtain ⟨hi1, hi2⟩ := hin
      obtain ⟨ad, hA, hcell⟩ := Kd.at_string H1.out (i : Int) (by omega) (by omega)
      cases hA
      have hcell := (HS.out.below.cell (World.block_lt_of_cell? w _ hcell)).trans hcell
      rw [Int.toNat_natCast] at hcell
      generalize rdOf ByteArray.empty l1 (i : Int) = s at hcell
      have kb := fun W => print_bytes (P := Try.prog) 9 28 5 Try.underlying9 Try.underlying28 Try.underlying5 (cutS s 5) W
      go_wp2_with (first
        | (go_at_call 10; refine (switchboardlaw01_Cut.calls s 5 _ _ (cut_f s 5)).mono ?_; rintro e w3 ⟨rfl, hd⟩; have HS0 := Lib.hid (HS.out.to hd.below); clear HS hd; have HS := HS0; clear HS0 hcell))
      have hcs := Lib.hid (fun j hj => Lib.bytesWorld_cell w3 5 (cutS s 5) j hj)
      have HS0 := Lib.hid (HS.out.to (bytes_below (Below.refl _ _) (Nat.le_refl _) 5 (cutS s 5)))
      have hT5 := Lib.hid (cutS_size s 5)
      clear HS kb
      generalize Lib.bytesWorld w3 5 (cutS s 5) = W2 at hcs HS0 ⊢
      generalize grownCap w3 (cutS s 5).size 0 5 = cap
      generalize w3.heap.size = b0 at hcs ⊢
      generalize cutS s 5 = t at hcs hT5 ⊢
      have HS := HS0
      clear HS0
      go_loopg [10, 45] t.size (fun gh v10 v45 wx => ∃ (l : List UInt8) (nm : ByteArray), Hid (l.length + gh = t.size) ∧ Hid (letters l) ∧ Hid (nm = ⟨(116 :: l).toArray⟩) ∧ v10 = .string nm ∧ v45 = .int .i64 l.length ∧ wx = W2)
      case atStart => exact ⟨[], _, Lib.hid (by simp), Lib.hid (fun x hx => by cases hx), Lib.hid rfl, rfl, rfl, rfl⟩
      case round =>
        obtain ⟨l, nm, hl, hlet, hnm, rfl, rfl, rfl⟩ := hrel
        cases gk with
        | zero =>
          clear hcs
          obtain ⟨hTs, hTc, hTw⟩ := name_facts (l := l) (by have := hl.out; have := hT5.out; omega) hlet.out
          rw [← hnm.out] at hTs hTc hTw
          have HTs := Lib.hid hTs
          have HTc := Lib.hid hTc
          have HTw := Lib.hid hTw
          have HE := Lib.hid (last_set N last nm HN.out.1 hTs.1)
          have HL := Lib.hid (one_ok (N := N) (by have := HN.out; omega))
          have hcn := Lib.hid (show c < 1000000 by have := hc.out; have := hi.out; omega)
          have HCH := Lib.hid (show cutS ⟨#[97, 47, 35]⟩ 30 = ⟨#[97, 47, 35]⟩ from cutS_short (by decide))
          have HCQ := Lib.hid (show cutS ⟨#[113]⟩ 30 = ⟨#[113]⟩ from cutS_short (by decide))
          have hnlt : ¬ l.length < t.size := by have := hl.out; omega
          clear hTs hTc hTw hl hlet hnm hT5
          by_cases hib : i < l2.length
          · obtain ⟨ad2, hA2, hcell2⟩ := Kd.at_int H2.out (i : Int) (by omega) (by omega)
            cases hA2
            rw [Int.toNat_natCast] at hcell2
            have hcell2 := Lib.hid hcell2
            obtain ⟨r, hr⟩ : ∃ r : Nat, rd l2 (i : Int) = r := by
              have := rd_ok HW2.out i hib
              exact ⟨(rd l2 (i : Int)).toNat, by omega⟩
            rw [hr] at hcell2
            have hcn1 := Lib.hid (show c + 1 < 1000000 by have := hc.out; have := hi.out; omega)
            have hcn2 := Lib.hid (show c + 2 < 1000000 by have := hc.out; have := hi.out; omega)
            have HE2 := Lib.hid (last_hash N nm HN.out)
            have HE3 := Lib.hid (last_q N (r % 1000) nm HN.out)
            have HL3 := Lib.hid (one_ok (N := N + 1 + r % 1000) (by have := HN.out; omega))
            have hmq : ((N : Int) + 1 + (r : Int) % 1000) % 4294967296 = (N : Int) + 1 + (r : Int) % 1000 := by have := HN.out; omega
            clear hr
            go_wp2_with (first
              | ((with_reducible refine gate_dst (N := 61) rfl ?_); refine Kd.R_lit (Kd.int .u32) _ 22 ?hg (N := 61) ?hd (xs := ([(N : Int)] : List Int)) (inner := [.int .u32 (N : Int)]) (ok := fun _ => True) (okp := fun _ => True) ?hr ?hp (fun _ hk => hk) trivial (Below.refl _ _) (Nat.le_refl _) (by simp) ?_; (case hd => rfl); (case hg => rfl); (case hr => first | (go_simp; done) | (go_simp; rfl)); (case hp => exact (Reps.one (show Kd.M (Kd.int .u32) _ _ _ ((N : Int)) [.int .u32 ((N : Int))] from rfl) (Reps.none _ _))); intro v61 w3 ho hb _ _; obtain ⟨A61, c61, rfl⟩ := Kd.R_slice ho; have HR61 := Lib.hid ho; have HS0 := Lib.hid (HS.out.to hb); clear HS ho hb; have HS := HS0; clear HS0)
              | (go_at_call 12; refine (made_row HR61.out nm).mono ?_; rw [HTc.out]; rintro e w4 hp; obtain ⟨u61, rfl, hu, hb⟩ := hp; have HU61 := Lib.hid hu; have HS0 := Lib.hid (HS.out.to hb); clear HS hu hb HR61; have HS := HS0; clear HS0)
              | (go_at_call 11; refine (HS.out.one hcn.out HU61.out HL.out nm (by have := HTs.out; omega) true (.inr (.inr HTw.out)) (s := nm) (er := 0) (m' := lM nm) (F' := lF N nm) HE.out.1 HE.out.2.1 HE.out.2.2).mono ?_; rintro e w5 ⟨rfl, hs, _⟩; have HS0 := Lib.hid hs; clear HS hs HU61; have HS := HS0; clear HS0)
              | ((with_reducible refine gate_dst (N := 81) rfl ?_); refine Kd.R_lit (Kd.int .u32) _ 22 ?hg (N := 81) ?hd (xs := ([(N : Int)] : List Int)) (inner := [.int .u32 (N : Int)]) (ok := fun _ => True) (okp := fun _ => True) ?hr ?hp (fun _ hk => hk) trivial (Below.refl _ _) (Nat.le_refl _) (by simp) ?_; (case hd => rfl); (case hg => rfl); (case hr => first | (go_simp; done) | (go_simp; rfl)); (case hp => exact (Reps.one (show Kd.M (Kd.int .u32) _ _ _ ((N : Int)) [.int .u32 ((N : Int))] from rfl) (Reps.none _ _))); intro v81 w3 ho hb _ _; obtain ⟨A81, c81, rfl⟩ := Kd.R_slice ho; have HR81 := Lib.hid ho; have HS0 := Lib.hid (HS.out.to hb); clear HS ho hb; have HS := HS0; clear HS0)
              | (go_at_call 12; refine (made_row HR81.out ⟨#[97, 47, 35]⟩).mono ?_; rw [HCH.out]; rintro e w4 hp; obtain ⟨u81, rfl, hu, hb⟩ := hp; have HU81 := Lib.hid hu; have HS0 := Lib.hid (HS.out.to hb); clear HS hu hb HR81; have HS := HS0; clear HS0)
              | (go_at_call 11; refine (HS.out.one hcn1.out HU81.out HL.out ⟨#[97, 47, 35]⟩ (by decide) false (.inr (.inr word_hash)) (s := ⟨#[]⟩) (er := 9) (m' := lM nm) (F' := lF N nm) HE2.out.1 HE2.out.2.1 HE2.out.2.2).mono ?_; rintro e w5 ⟨rfl, hs, _⟩; have HS0 := Lib.hid hs; clear HS hs HU81; have HS := HS0; clear HS0; have hc2 := (HS.out.below.cell (World.block_lt_of_cell? w _ hcell2.out)).trans hcell2.out)
              | ((with_reducible refine gate_dst (N := 94) rfl ?_); refine Kd.R_lit (Kd.int .u32) _ 22 ?hg (N := 94) ?hd (xs := ([((N : Int) + 1 + (r : Int) % 1000)] : List Int)) (inner := [.int .u32 ((N : Int) + 1 + (r : Int) % 1000)]) (ok := fun _ => True) (okp := fun _ => True) ?hr ?hp (fun _ hk => hk) trivial (Below.refl _ _) (Nat.le_refl _) (by simp) ?_; (case hd => rfl); (case hg => rfl); (case hr => first | (go_simp; done) | (go_simp; rfl)); (case hp => exact (Reps.one (show Kd.M (Kd.int .u32) _ _ _ (((N : Int) + 1 + (r : Int) % 1000)) [.int .u32 (((N : Int) + 1 + (r : Int) % 1000))] from rfl) (Reps.none _ _))); intro v94 w3 ho hb _ _; obtain ⟨A94, c94, rfl⟩ := Kd.R_slice ho; have HR94 := Lib.hid ho; have HS0 := Lib.hid (HS.out.to hb); clear HS ho hb; have HS := HS0; clear HS0)
              | (go_at_call 12; refine (made_row HR94.out ⟨#[113]⟩).mono ?_; rw [HCQ.out]; rintro e w4 hp; obtain ⟨u94, rfl, hu, hb⟩ := hp; have HU94 := Lib.hid hu; have HS0 := Lib.hid (HS.out.to hb); clear HS hu hb HR94; have HS := HS0; clear HS0)
              | (go_at_call 11; refine (HS.out.one hcn2.out HU94.out HL3.out ⟨#[113]⟩ (by decide) true HE3.out.1 (s := ⟨#[]⟩) (er := 11) (m' := lM nm) (F' := lF N nm) HE3.out.2.1 HE3.out.2.2.1 HE3.out.2.2.2).mono ?_; rintro e w5 ⟨rfl, hs, _⟩; have HS0 := Lib.hid hs; clear HS hs HU94; have HS := HS0; clear HS0))
            go_roundg g1
            case measure => omega
            case rel => exact ⟨i + 1, c + 1 + 1 + 1, nm, Lib.hid (by have := hi.out; omega), Lib.hid (by have := hc.out; omega), Lib.hid HTs.out.2, rfl, rfl, HS⟩
          · go_wp2_with (first
              | ((with_reducible refine gate_dst (N := 61) rfl ?_); refine Kd.R_lit (Kd.int .u32) _ 22 ?hg (N := 61) ?hd (xs := ([(N : Int)] : List Int)) (inner := [.int .u32 (N : Int)]) (ok := fun _ => True) (okp := fun _ => True) ?hr ?hp (fun _ hk => hk) trivial (Below.refl _ _) (Nat.le_refl _) (by simp) ?_; (case hd => rfl); (case hg => rfl); (case hr => first | (go_simp; done) | (go_simp; rfl)); (case hp => exact (Reps.one (show Kd.M (Kd.int .u32) _ _ _ ((N : Int)) [.int .u32 ((N : Int))] from rfl) (Reps.none _ _))); intro v61 w3 ho hb _ _; obtain ⟨A61, c61, rfl⟩ := Kd.R_slice ho; have HR61 := Lib.hid ho; have HS0 := Lib.hid (HS.out.to hb); clear HS ho hb; have HS := HS0; clear HS0)
              | (go_at_call 12; refine (made_row HR61.out nm).mono ?_; rw [HTc.out]; rintro e w4 hp; obtain ⟨u61, rfl, hu, hb⟩ := hp; have HU61 := Lib.hid hu; have HS0 := Lib.hid (HS.out.to hb); clear HS hu hb HR61; have HS := HS0; clear HS0)
              | (go_at_call 11; refine (HS.out.one hcn.out HU61.out HL.out nm (by have := HTs.out; omega) true (.inr (.inr HTw.out)) (s := nm) (er := 0) (m' := lM nm) (F' := lF N nm) HE.out.1 HE.out.2.1 HE.out.2.2).mono ?_; rintro e w5 ⟨rfl, hs, _⟩; have HS0 := Lib.hid hs; clear HS hs HU61; have HS := HS0; clear HS0))
            go_roundg g1
            case measure => omega
            case rel => exact ⟨i + 1, c + 1, nm, Lib.hid (by have := hi.out; omega), Lib.hid (by have := hc.out; omega), Lib.hid HTs.out.2, rfl, rfl, HS⟩
        | succ g2 =>
          have hlt : l.length < t.size := by have := hl.out; omega
          have hlt5 : l.length < 5 := by have := hT5.out; omega
          have hcj := hcs.out l.length hlt
          generalize t.data.toList.getD l.length 0 = y at hcj
          obtain ⟨x, hx, hx2⟩ : ∃ x : UInt8, Utf8.encode (97 + (y.toNat : Int) % 26) = ⟨#[x]⟩ ∧ x = UInt8.ofNat (97 + y.toNat % 26) := ⟨_, enc_ascii (97 + y.toNat % 26) (by omega), rfl⟩
          have hy26 : (y.toNat : Int) % 26 ≤ 25 := by omega
          have hy0 : 0 ≤ (y.toNat : Int) % 26 := by omega
          have HX := Lib.hid (show 97 ≤ x.toNat ∧ x.toNat ≤ 122 by rw [hx2, UInt8.toNat_ofNat']; omega)
          have hnms : nm.size = l.length + 1 := by rw [hnm.out, Lib.size_eq]; simp
          have hadd : ∀ W, (Op.stringOp .add nm ⟨#[x]⟩).run Try.prog W = .ok (.string (nm ++ ⟨#[x]⟩)) W := fun W => run_string_add W nm ⟨#[x]⟩ (by rw [hnms]; omega) (by show ((1 : Nat) : Int) ≤ _; omega)
          obtain ⟨nm2, hnm2⟩ : ∃ z, nm ++ ⟨#[x]⟩ = z := ⟨_, rfl⟩
          rw [hnm2] at hadd
          have HN2 := Lib.hid hnm2
          clear hnm2 hx2 hnms
          go_wp2
          go_roundg g2
          case measure => omega
          case rel => exact ⟨l ++ [x], nm2, Lib.hid (by have := hl.out; simp; omega), Lib.hid (letters_snoc hlet.out HX.out), Lib.hid (by rw [← HN2.out, hnm.out]; exact cat_snoc l x), rfl, by simp, rfl⟩
    · have HL := Lib.hid (one_ok (N := N) (by have := HN.out; omega))
      have hcn := Lib.hid (show c < 1000000 by have := hc.out; have := hi.out; omega)
      have HC30 := Lib.hid (show cutS ⟨#[]⟩ 30 = ⟨#[]⟩ from cutS_short (by decide))
      by_cases hls0 : last.size = 0
      · obtain rfl : last = ⟨#[]⟩ := string_eq_of (List.length_eq_zero_iff.1 (by rw [← Lib.size_eq]; exact hls0))
        have HE := Lib.hid (last_get0 N HN.out)
        clear hls0 hls
        by_cases hi1 : i < l1.length
        · have hi2 : ¬ i < 20 := fun h => hin ⟨hi1, h⟩
          clear hin
          go_wp2_with (first
            | ((with_reducible refine gate_dst (N := 101) rfl ?_); refine Kd.R_lit (Kd.int .u32) _ 22 ?hg (N := 101) ?hd (xs := ([(N : Int)] : List Int)) (inner := [.int .u32 (N : Int)]) (ok := fun _ => True) (okp := fun _ => True) ?hr ?hp (fun _ hk => hk) trivial (Below.refl _ _) (Nat.le_refl _) (by simp) ?_; (case hd => rfl); (case hg => rfl); (case hr => first | (go_simp; done) | (go_simp; rfl)); (case hp => exact (Reps.one (show Kd.M (Kd.int .u32) _ _ _ ((N : Int)) [.int .u32 ((N : Int))] from rfl) (Reps.none _ _))); intro v101 w3 ho hb _ _; obtain ⟨A101, c101, rfl⟩ := Kd.R_slice ho; have HR101 := Lib.hid ho; have HS0 := Lib.hid (HS.out.to hb); clear HS ho hb; have HS := HS0; clear HS0)
            | (go_at_call 12; refine (made_row HR101.out ⟨#[]⟩).mono ?_; rw [HC30.out]; rintro e w4 hp; obtain ⟨u101, rfl, hu, hb⟩ := hp; have HU101 := Lib.hid hu; have HS0 := Lib.hid (HS.out.to hb); clear HS hu hb HR101; have HS := HS0; clear HS0)
            | (go_at_call 11; refine (HS.out.one hcn.out HU101.out HL.out ⟨#[]⟩ (by decide) true (.inr (.inl rfl)) (s := ⟨#[]⟩) (er := 3) (m' := 0) (F' := nF) HE.out.1 HE.out.2.1 HE.out.2.2).mono ?_; rintro e w5 ⟨rfl, hs, _⟩; have HS0 := Lib.hid hs; clear HS hs HU101; have HS := HS0; clear HS0)
            | (go_at_call 13; refine (tlen_calls HS.out.pt).mono ?_; rintro e w6 ⟨rfl, rfl⟩))
          go_ret
          exact ⟨rfl, HS.out.below⟩
        · clear hin
          go_wp2_with (first
            | ((with_reducible refine gate_dst (N := 101) rfl ?_); refine Kd.R_lit (Kd.int .u32) _ 22 ?hg (N := 101) ?hd (xs := ([(N : Int)] : List Int)) (inner := [.int .u32 (N : Int)]) (ok := fun _ => True) (okp := fun _ => True) ?hr ?hp (fun _ hk => hk) trivial (Below.refl _ _) (Nat.le_refl _) (by simp) ?_; (case hd => rfl); (case hg => rfl); (case hr => first | (go_simp; done) | (go_simp; rfl)); (case hp => exact (Reps.one (show Kd.M (Kd.int .u32) _ _ _ ((N : Int)) [.int .u32 ((N : Int))] from rfl) (Reps.none _ _))); intro v101 w3 ho hb _ _; obtain ⟨A101, c101, rfl⟩ := Kd.R_slice ho; have HR101 := Lib.hid ho; have HS0 := Lib.hid (HS.out.to hb); clear HS ho hb; have HS := HS0; clear HS0)
            | (go_at_call 12; refine (made_row HR101.out ⟨#[]⟩).mono ?_; rw [HC30.out]; rintro e w4 hp; obtain ⟨u101, rfl, hu, hb⟩ := hp; have HU101 := Lib.hid hu; have HS0 := Lib.hid (HS.out.to hb); clear HS hu hb HR101; have HS := HS0; clear HS0)
            | (go_at_call 11; refine (HS.out.one hcn.out HU101.out HL.out ⟨#[]⟩ (by decide) true (.inr (.inl rfl)) (s := ⟨#[]⟩) (er := 3) (m' := 0) (F' := nF) HE.out.1 HE.out.2.1 HE.out.2.2).mono ?_; rintro e w5 ⟨rfl, hs, _⟩; have HS0 := Lib.hid hs; clear HS hs HU101; have HS := HS0; clear HS0)
            | (go_at_call 13; refine (tlen_calls HS.out.pt).mono ?_; rintro e w6 ⟨rfl, rfl⟩))
          go_ret
          exact ⟨rfl, HS.out.below⟩
      · have hem := isEmpty_of last (by omega)
        have HE := Lib.hid (last_get1 N last HN.out (by omega))
        clear hls0 hls
        by_cases hi1 : i < l1.length
        · have hi2 : ¬ i < 20 := fun h => hin ⟨hi1, h⟩
          clear hin
          go_wp2_with (first
            | ((with_reducible refine gate_dst (N := 101) rfl ?_); refine Kd.R_lit (Kd.int .u32) _ 22 ?hg (N := 101) ?hd (xs := ([(N : Int)] : List Int)) (inner := [.int .u32 (N : Int)]) (ok := fun _ => True) (okp := fun _ => True) ?hr ?hp (fun _ hk => hk) trivial (Below.refl _ _) (Nat.le_refl _) (by simp) ?_; (case hd => rfl); (case hg => rfl); (case hr => first | (go_simp; done) | (go_simp; rfl)); (case hp => exact (Reps.one (show Kd.M (Kd.int .u32) _ _ _ ((N : Int)) [.int .u32 ((N : Int))] from rfl) (Reps.none _ _))); intro v101 w3 ho hb _ _; obtain ⟨A101, c101, rfl⟩ := Kd.R_slice ho; have HR101 := Lib.hid ho; have HS0 := Lib.hid (HS.out.to hb); clear HS ho hb; have HS := HS0; clear HS0)
            | (go_at_call 12; refine (made_row HR101.out ⟨#[]⟩).mono ?_; rw [HC30.out]; rintro e w4 hp; obtain ⟨u101, rfl, hu, hb⟩ := hp; have HU101 := Lib.hid hu; have HS0 := Lib.hid (HS.out.to hb); clear HS hu hb HR101; have HS := HS0; clear HS0)
            | (go_at_call 11; refine (HS.out.one hcn.out HU101.out HL.out ⟨#[]⟩ (by decide) true (.inr (.inl rfl)) (s := last) (er := 0) (m' := 1) (F' := (lF N last)) HE.out.1 HE.out.2.1 HE.out.2.2).mono ?_; rintro e w5 ⟨rfl, hs, _⟩; have HS0 := Lib.hid hs; clear HS hs HU101; have HS := HS0; clear HS0)
            | (go_at_call 13; refine (tlen_calls HS.out.pt).mono ?_; rintro e w6 ⟨rfl, rfl⟩))
          go_ret
          exact ⟨rfl, HS.out.below⟩
        · clear hin
          go_wp2_with (first
            | ((with_reducible refine gate_dst (N := 101) rfl ?_); refine Kd.R_lit (Kd.int .u32) _ 22 ?hg (N := 101) ?hd (xs := ([(N : Int)] : List Int)) (inner := [.int .u32 (N : Int)]) (ok := fun _ => True) (okp := fun _ => True) ?hr ?hp (fun _ hk => hk) trivial (Below.refl _ _) (Nat.le_refl _) (by simp) ?_; (case hd => rfl); (case hg => rfl); (case hr => first | (go_simp; done) | (go_simp; rfl)); (case hp => exact (Reps.one (show Kd.M (Kd.int .u32) _ _ _ ((N : Int)) [.int .u32 ((N : Int))] from rfl) (Reps.none _ _))); intro v101 w3 ho hb _ _; obtain ⟨A101, c101, rfl⟩ := Kd.R_slice ho; have HR101 := Lib.hid ho; have HS0 := Lib.hid (HS.out.to hb); clear HS ho hb; have HS := HS0; clear HS0)
            | (go_at_call 12; refine (made_row HR101.out ⟨#[]⟩).mono ?_; rw [HC30.out]; rintro e w4 hp; obtain ⟨u101, rfl, hu, hb⟩ := hp; have HU101 := Lib.hid hu; have HS0 := Lib.hid (HS.out.to hb); clear HS hu hb HR101; have HS := HS0; clear HS0)
            | (go_at_call 11; refine (HS.out.one hcn.out HU101.out HL.out ⟨#[]⟩ (by decide) true (.inr (.inl rfl)) (s := last) (er := 0) (m' := 1) (F' := (lF N last)) HE.out.1 HE.out.2.1 HE.out.2.2).mono ?_; rintro e w5 ⟨rfl, hs, _⟩; have HS0 := Lib.hid hs; clear HS hs HU101; have HS := HS0; clear HS0)
            | (go_at_call 13; refine (tlen_calls HS.out.pt).mono ?_; rintro e w6 ⟨rfl, rfl⟩))
          go_ret
          exact ⟨rfl, HS.out.below⟩
open Go.ChangeShapes Go.WideShapes Go.Deep
section
variable {H : Type} {enc : TypeId × Value → H} {P : Program} {W : World} {base : Nat} {sp : Nat → Bool} {held : Bool}
theorem cells_at {W : World} {base : Nat} : ∀ {n : Nat} {a : Addr} {cs : List Value}, W.cells? base a n = some cs → cs.length = n ∧ ∀ i u, cs[i]? = some u → W.cell? (a.add i) = some u := by
  intro n a cs h
  unfold World.cells? at h
  split at h
  · have hl := mapM_some_length h
    refine ⟨by simpa using hl, fun i u hu => ?_⟩
    have hi : i < cs.length := (List.getElem?_eq_some_iff.1 hu).1
    have hi' : i < n := by simp at hl; omega
    have := mapM_some_get h i i (by simp [hi'])
    rw [this, hu]
  · cases h

theorem C_of_trod {α : Type} (d : Kd α) (Pr : α → Prop) {t e : TypeId} {B : Nat} {A : Option Addr} {len cap : Nat} {dd : DataW H} {ps : List MemPlace} {ts : List TypeId} {ds : List (DataW H)} {j : Nat}
    (hu : P.underlying t = some (.slice e)) (hsz : P.cellsOf e = d.sz) (hB : P.bytesOf e = B)
    (hel : ∀ (n : Nat) (cs : List Value) (x : DataW H × List MemPlace), DataW.trod enc P W base sp held n e cs = some x → ∃ a : α, d.K W a cs ∧ Pr a)
    (hw : (DataW.weightsEach P ts ds).all (· ≤ reachBytes) = true) (ht : ts[j]? = some t) (hd : ds[j]? = some dd)
    (h : DataW.Trod enc P W base sp held t (.slice A len cap) dd ps) :
    ∃ l : List α, len = l.length ∧ d.C W A l.length l ∧ l.length ≤ cap ∧ (∀ a ∈ l, Pr a) ∧ l.length * B ≤ 140737488351232 := by
  classical
  obtain ⟨fuel, hf⟩ := h
  rcases open_slice hu hf with ⟨hcs, _⟩ | ⟨a, l, c, m, n, D, Pl, hcs, _, hl, hm, hmm, hx, hc⟩
  · simp [Value.cells] at hcs
    obtain ⟨rfl, rfl, rfl⟩ := hcs
    exact ⟨[], rfl, Kd.C_nil d W, by simp, by simp, by simp⟩
  · simp [Value.cells] at hcs
    obtain ⟨rfl, rfl, rfl⟩ := hcs
    obtain ⟨hx, _⟩ := Prod.mk.inj hx
    have hlm : len ≤ m := by rw [hmm]; split <;> omega
    have hne : ∀ i, i < len → ∃ x : α, Pr x ∧ ∃ cs, cs.length = d.sz ∧ d.K W x cs ∧ ∀ q u, cs[q]? = some u → W.cell? (a.add (i * d.sz + q)) = some u := by
      intro i hi
      obtain ⟨cs', h1, h2⟩ := hc i (by omega)
      rw [hsz] at h1
      obtain ⟨x, hK, hp⟩ := hel n cs' _ h2
      obtain ⟨hl1, hl2⟩ := cells_at h1
      exact ⟨x, hp, cs', hl1, hK, fun q u hq => by have := hl2 q u hq; rwa [Deep.add_add] at this⟩
    rcases Nat.eq_zero_or_pos len with h0 | h0
    · subst h0
      exact ⟨[], rfl, ⟨rfl, by simp, fun h => absurd h (Nat.lt_irrefl 0)⟩, by simp, by simp, by simp⟩
    · haveI : Inhabited α := ⟨Classical.choose (hne 0 h0)⟩
      obtain ⟨f, hfn⟩ := choose_lt hne
      have hlen : ((List.range len).map f).length = len := by simp
      refine ⟨(List.range len).map f, hlen.symm, ⟨rfl, by rw [hlen]; unfold maxLen at hm; omega, fun _ => ⟨a, rfl, fun i p hp => ?_⟩⟩, by rw [hlen]; exact hl, fun x hx => ?_, ?_⟩
      · have hi : i < len := by
          have := (List.getElem?_eq_some_iff.1 hp).1
          omega
        rw [List.getElem?_map, List.getElem?_range hi] at hp
        simp only [Option.map_some, Option.some.injEq] at hp
        subst hp
        obtain ⟨_, cs, h1, h2, h3⟩ := hfn i hi
        exact ⟨cs, h1, h2, h3⟩
      · obtain ⟨i, hi, rfl⟩ := List.mem_map.1 hx
        exact (hfn i (List.mem_range.1 hi)).1
      · rw [hlen]
        have hd' := hd
        rw [hx] at hd'
        have z := sized_slice hw ht hd' hu
        rw [hB] at z
        refine Nat.le_trans ?_ z
        refine Nat.mul_le_mul_right _ ?_
        simp only [List.length_map, List.length_range]
        omega
end

section
variable {H : Type} {enc : TypeId × Value → H} {W : World} {base : Nat} {sp : Nat → Bool} {held : Bool}
theorem str_of_trod (n : Nat) (cs : List Value) (x : DataW H × List MemPlace) (h : DataW.trod enc Try.prog W base sp held n 9 cs = some x) : ∃ a : ByteArray, Kd.string.K W a cs ∧ a.size ≤ maxLen := by
  obtain ⟨s, hs, _, hsz⟩ := DataW.trod_string Try.underlying9 h
  exact ⟨s, hs, hsz⟩
theorem u32_of_trod (n : Nat) (cs : List Value) (x : DataW H × List MemPlace) (h : DataW.trod enc Try.prog W base sp held n 22 cs = some x) : ∃ a : Int, (Kd.int .u32).K W a cs ∧ (0 ≤ a ∧ a < 4294967296) := by
  obtain ⟨a, ha, h2⟩ := DataW.trod_int Try.underlying22 h
  exact ⟨a, ha, u32_bounds h2.2⟩
theorem open_strs {A : Option Addr} {len cap : Nat} {dd : DataW H} {ps : List MemPlace} {ts : List TypeId} {ds : List (DataW H)} (hw : (DataW.weightsEach Try.prog ts ds).all (· ≤ reachBytes) = true) {j : Nat} (ht : ts[j]? = some 23) (hd : ds[j]? = some dd)
    (h : DataW.Trod enc Try.prog W base sp held 23 (.slice A len cap) dd ps) :
    ∃ l : List ByteArray, len = l.length ∧ Kd.string.C W A l.length l ∧ l.length ≤ cap ∧ (∀ a ∈ l, a.size ≤ maxLen) ∧ l.length * 16 ≤ 140737488351232 :=
  C_of_trod Kd.string (fun a => a.size ≤ maxLen) Try.underlying23 (by kernel_rfl) (by kernel_rfl) str_of_trod hw ht hd h
theorem open_u32s {A : Option Addr} {len cap : Nat} {dd : DataW H} {ps : List MemPlace} {ts : List TypeId} {ds : List (DataW H)} (hw : (DataW.weightsEach Try.prog ts ds).all (· ≤ reachBytes) = true) {j : Nat} (ht : ts[j]? = some 24) (hd : ds[j]? = some dd)
    (h : DataW.Trod enc Try.prog W base sp held 24 (.slice A len cap) dd ps) :
    ∃ l : List Int, len = l.length ∧ (Kd.int .u32).C W A l.length l ∧ l.length ≤ cap ∧ (∀ a ∈ l, 0 ≤ a ∧ a < 4294967296) ∧ l.length * 4 ≤ 140737488351232 :=
  C_of_trod (Kd.int .u32) (fun a => 0 ≤ a ∧ a < 4294967296) Try.underlying24 (by kernel_rfl) (by kernel_rfl) u32_of_trod hw ht hd h
end
theorem last_any (a0 : Int) (A1 : Option Addr) (c1 : Nat) (l1 : List ByteArray) (A2 : Option Addr) (c2 : Nat) (l2 : List Int) (w : World) (h0 : (Lit.int .u32 a0).wf = true) (h1 : Kd.string.C w A1 l1.length l1) (hc1 : l1.length ≤ c1) (hw1 : (∀ a ∈ l1, a.size ≤ maxLen) ∧ l1.length * 16 ≤ 140737488351232)
    (h2 : (Kd.int .u32).C w A2 l2.length l2) (hc2 : l2.length ≤ c2) (hw2 : (∀ a ∈ l2, 0 ≤ a ∧ a < 4294967296) ∧ l2.length * 4 ≤ 140737488351232) :
    Calls Try.prog 3 #[.int .u32 a0, .slice A1 l1.length c1, .slice A2 l2.length c2] w fun e w' => e = .returned (.bool true) ∧ Below w.heap.size w w' := by
  have p0 := u32_bounds h0
  have := last_nat a0.toNat (by omega) A1 A2 c1 c2 l1 l2 w h1 hc1 h2 hc2 hw2.1
  rwa [Int.toNat_of_nonneg p0.1] at this
end Go.Proofs.Ytjlohmhmnghjkaa
