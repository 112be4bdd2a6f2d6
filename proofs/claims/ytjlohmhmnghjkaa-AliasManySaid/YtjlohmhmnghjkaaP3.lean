/- AliasMany: the walk. -/
import Derived.Test.YtjlohmhmnghjkaaP2
namespace Go.Proofs.Ytjlohmhmnghjkaa
open Go.RowKit Go.Maps Go.Proofs.YtjlohmhmnghjkaaW.PrintWords Go.Proofs.Ytjlohmhmnghjkaa.PAliasPlays
set_option linter.unusedVariables false
set_option linter.unusedSimpArgs false

/-- The topic of alias i + 1. -/
def tmN (i : Nat) : ByteArray := ⟨#[116, UInt8.ofNat (97 + i)]⟩
def mF (i : Nat) : Nat → Option ByteArray := fun k => if 1 ≤ k ∧ k ≤ i then some (tmN (k - 1)) else none
theorem enc_ascii (n : Nat) (h : n < 128) : Utf8.encode ((n : Nat) : Int) = ⟨#[UInt8.ofNat n]⟩ := by
  unfold Utf8.encode
  have hv : Utf8.valid (n : Int) = true := by
    unfold Utf8.valid
    simp only [Bool.or_eq_true, Bool.and_eq_true, decide_eq_true_eq]
    omega
  simp [hv, h]
theorem cat_t (x : UInt8) : (⟨#[116]⟩ : ByteArray) ++ ⟨#[x]⟩ = ⟨#[116, x]⟩ := rfl
theorem o_one (i : Nat) : oOf [(i : Int) + 1] = some (i + 1) := by
  show some ((i : Int) + 1).toNat = some (i + 1)
  congr 1
theorem mF_step (i : Nat) : setF (mF i) (i + 1) (tmN i) = mF (i + 1) := by
  funext k
  unfold setF mF
  by_cases h : k = i + 1
  · subst h
    rw [if_pos rfl, if_pos ⟨by omega, by omega⟩]
    rfl
  · rw [if_neg h]
    by_cases h2 : 1 ≤ k ∧ k ≤ i
    · rw [if_pos h2, if_pos ⟨h2.1, by omega⟩]
    · rw [if_neg h2, if_neg (by omega)]
theorem mF_new (i : Nat) : mF i (i + 1) = none := if_neg (by omega)
theorem mF_zero : mF 0 = nF := by
  funext k
  exact if_neg (by omega)
theorem mF_old {i n : Nat} (h : i < n) : mF n (i + 1) = some (tmN i) := by
  unfold mF
  rw [if_pos ⟨by omega, by omega⟩]
  rfl
theorem many_set (i : Nat) (h : i < 25) : stR 100 (mF i) (oOf [(i : Int) + 1]) (tmN i) true = (tmN i, 0) ∧ stM (mF i) i (stS 100 (oOf [(i : Int) + 1]) (tmN i) true) = i + 1 ∧ stF (mF i) (stS 100 (oOf [(i : Int) + 1]) (tmN i) true) (tmN i) = mF (i + 1) := by
  rw [o_one]
  have hb : ¬ (i + 1 = 0 ∨ 100 < i + 1) := by omega
  have hz : ¬ (tmN i).size = 0 := by show ¬ 2 = 0; decide
  refine ⟨?_, ?_, ?_⟩
  · simp only [stR, if_neg hb, if_neg hz]; rfl
  · simp only [stS, if_neg hb, if_neg hz, if_true, stM, mF_new]; rfl
  · simp only [stS, if_neg hb, if_neg hz, if_true, stF, mF_step]
theorem many_get (i n : Nat) (h : i < n) (hn : n ≤ 25) : stR 100 (mF n) (oOf [(i : Int) + 1]) ⟨#[]⟩ true = (tmN i, 0) ∧ stM (mF n) n (stS 100 (oOf [(i : Int) + 1]) ⟨#[]⟩ true) = n ∧ stF (mF n) (stS 100 (oOf [(i : Int) + 1]) ⟨#[]⟩ true) ⟨#[]⟩ = mF n := by
  rw [o_one]
  have hb : ¬ (i + 1 = 0 ∨ 100 < i + 1) := by omega
  have hz : (⟨#[]⟩ : ByteArray).size = 0 := rfl
  refine ⟨?_, ?_, ?_⟩
  · simp only [stR, if_neg hb, if_pos hz, mF_old h]; rfl
  · simp only [stS, if_neg hb, if_pos hz, stM]
  · simp only [stS, if_neg hb, if_pos hz, stF]
theorem many_word (i : Nat) (h : i < 25) : switchboardref10_Name.f 200 (tmN i) = some true := by
  refine word_of (nameW_plain [116, UInt8.ofNat (97 + i)] (by simp) (by simp) fun y hy => ?_) (by show 2 ≤ 80; decide)
  simp only [List.mem_cons, List.not_mem_nil, or_false] at hy
  rcases hy with rfl | rfl
  · decide
  · exact (show ∀ j : Fin 25, 0 < (UInt8.ofNat (97 + j.1)).toNat ∧ (UInt8.ofNat (97 + j.1)).toNat < 128 ∧ plusHash.contains (UInt8.ofNat (97 + j.1)) = false by decide) ⟨i, h⟩
theorem PT.base {w : World} {b0 b1 g bm most n m : Nat} {F : Nat → Option ByteArray} (h : PT w b1 g bm most n m F) (hb : b0 ≤ b1) : PT w b0 g bm most n m F := ⟨h.blk, Nat.le_trans hb h.bg, Nat.le_trans hb h.bb, h.mp⟩
theorem TS.get {w w1 : World} {g bm most n m n' : Nat} {F : Nat → Option ByteArray} (h : TS w w1 g bm most n m F) (hn : n ≤ n') : TS w w1 g bm most n' m F := ⟨⟨h.pt.blk, h.pt.bg, h.pt.bb, by obtain ⟨D, hm, hr⟩ := h.pt.mp; exact ⟨D, hm.mono hn, hr⟩⟩, h.below⟩
set_option maxHeartbeats 4000000 in
set_option maxRecDepth 100000 in
theorem many_nat (n : Nat) (hn : n ≤ 25) (w : World) : Calls Try.prog 6 #[.int .i64 n] w fun e w' => e = .returned (.bool true) ∧ Below w.heap.size w w' := by
  have HC30 := Lib.hid (show cutS ⟨#[]⟩ 30 = ⟨#[]⟩ from cutS_short (by decide))
  have HC := Lib.hid (fun x : UInt8 => show cutS ⟨#[116, x]⟩ 30 = ⟨#[116, x]⟩ from cutS_short (by show 2 ≤ 30; decide))
  have hn0 : decide ((n : Int) < 0) = false := decide_eq_false (by omega)
  have hn1 : decide ((25 : Int) < n) = false := decide_eq_false (by omega)
  have HN := Lib.hid hn
  clear hn
  go_enter Try.func6, Try.ntmps6
  go_wp2_with (first
      | (go_at_call 8; refine (tnew_calls _ 100).mono ?_; rintro e w1 hp; obtain ⟨g, bm, rfl, hpt, hb⟩ := hp; have HS0 : Hid (TS w w1 g bm 100 0 0 (mF 0)) := Lib.hid ⟨by rw [mF_zero]; exact (hpt.below (Below.refl _ _)).base HB.out.size, HB.out.trans (hb.mono HB.out.size)⟩; clear hpt hb HB)
      | (go_at_call 9; refine (awake_calls _).mono ?_; rintro e w2 ⟨rfl, hb⟩; have HB := Lib.hid hb; clear hb))
  go_loopg [4] n (fun gh v wx => ∃ i : Nat, Hid (i + gh = n) ∧ v = .int .i64 i ∧ Hid (TS w wx g bm 100 i i (mF i)))
  case atStart => exact ⟨0, Lib.hid (by omega), rfl, HS0⟩
  case round =>
    clear HS0
    obtain ⟨i, hi, rfl, HS⟩ := hrel
    cases gk with
    | zero =>
      obtain rfl : i = n := by have := hi.out; omega
      go_wp2
      go_loopg [5] i (fun gh v wx => ∃ (q : Int) (c : Nat), v = .int .i64 q ∧ Hid (q + 1 = gh) ∧ Hid (gh ≤ i) ∧ Hid (c + gh ≤ i + i) ∧ Hid (TS w wx g bm 100 c i (mF i)))
      case atStart => exact ⟨_, i, rfl, Lib.hid (by have := HN.out; unfold wrap64; omega), Lib.hid (Nat.le_refl _), Lib.hid (Nat.le_refl _), HS⟩
      case round =>
        clear HS
        obtain ⟨q, c, rfl, hq, hqi, hc, HS⟩ := hrel
        cases gk with
        | zero =>
          obtain rfl : q = -1 := by have := hq.out; omega
          go_wp2_with (first
            | (go_at_call 13; refine (tlen_calls HS.out.pt).mono ?_; rintro e w6 ⟨rfl, rfl⟩))
          go_ret
          exact ⟨rfl, HS.out.below⟩
        | succ g1 =>
          obtain rfl : q = (g1 : Int) := by have := hq.out; omega
          have hlt : g1 < 25 := by have := hqi.out; have := HN.out; omega
          have hge : (0 : Int) ≤ (g1 : Int) := by omega
          have hsub : (g1 : Int) - 1 + 1 = g1 := by omega
          have Hsub := Lib.hid hsub
          clear hsub
          obtain ⟨x, hx, hx2⟩ : ∃ x : UInt8, Utf8.encode (97 + (g1 : Int)) = ⟨#[x]⟩ ∧ x = UInt8.ofNat (97 + g1) := ⟨_, enc_ascii (97 + g1) (by omega), rfl⟩
          have hcat := cat_t x
          have HX := Lib.hid (show tmN g1 = ⟨#[116, x]⟩ by rw [hx2]; rfl)
          have HE := Lib.hid (many_get g1 i (by have := hqi.out; omega) HN.out)
          rw [HX.out] at HE
          have HL : ∀ x ∈ [(g1 : Int) + 1], 0 ≤ x ∧ x < 4294967296 := fun x hx => by
            obtain rfl := List.mem_singleton.1 hx
            omega
          have HL := Lib.hid HL
          have hcn := Lib.hid (show c < 1000000 by have := hc.out; have := HN.out; omega)
          clear hx2
          go_wp2_with (first
            | ((with_reducible refine gate_dst (N := 49) rfl ?_); refine Kd.R_lit (Kd.int .u32) _ 22 ?hg (N := 49) ?hd (xs := ([((g1 : Int) + 1)] : List Int)) (inner := [.int .u32 ((g1 : Int) + 1)]) (ok := fun _ => True) (okp := fun _ => True) ?hr ?hp (fun _ hk => hk) trivial (Below.refl _ _) (Nat.le_refl _) (by simp) ?_; (case hd => rfl); (case hg => rfl); (case hr => first | (go_simp; done) | (go_simp; rfl)); (case hp => exact (Reps.one (show Kd.M (Kd.int .u32) _ _ _ (((g1 : Int) + 1)) [.int .u32 (((g1 : Int) + 1))] from rfl) (Reps.none _ _))); intro v49 w3 ho hb _ _; obtain ⟨A49, c49, rfl⟩ := Kd.R_slice ho; have HR49 := Lib.hid ho; have HS0 := Lib.hid (HS.out.to hb); clear HS ho hb; have HS := HS0; clear HS0)
            | (go_at_call 12; refine (made_row HR49.out ⟨#[]⟩).mono ?_; rw [HC30.out]; rintro e w4 hp; obtain ⟨u49, rfl, hu, hb⟩ := hp; have HU49 := Lib.hid hu; have HS0 := Lib.hid (HS.out.to hb); clear HS hu hb HR49; have HS := HS0; clear HS0)
            | (go_at_call 11; refine (HS.out.one hcn.out HU49.out HL.out ⟨#[]⟩ (by decide) true (.inr (.inl rfl)) (s := ⟨#[116, x]⟩) (er := 0) (m' := i) (F' := mF i) HE.out.1 HE.out.2.1 HE.out.2.2).mono ?_; rintro e w5 ⟨rfl, hs, _⟩; have HS0 := Lib.hid hs; clear HS hs HU49; have HS := HS0; clear HS0))
          go_roundg g1
          case measure => omega
          case rel => exact ⟨_, c + 1, rfl, Lib.hid (by have := Hsub.out; omega), Lib.hid (by have := hqi.out; omega), Lib.hid (by have := hc.out; omega), HS⟩
    | succ g1 =>
      have hlt : i < n := by have := hi.out; omega
      have hlt2 : i < 25 := by have := hi.out; have := HN.out; omega
      obtain ⟨x, hx, hx2⟩ : ∃ x : UInt8, Utf8.encode (97 + (i : Int)) = ⟨#[x]⟩ ∧ x = UInt8.ofNat (97 + i) := ⟨_, enc_ascii (97 + i) (by have := HN.out; omega), rfl⟩
      have hcat := cat_t x
      have HX := Lib.hid (show tmN i = ⟨#[116, x]⟩ by rw [hx2]; rfl)
      have HE := Lib.hid (many_set i (by have := HN.out; omega))
      have HWd := Lib.hid (many_word i (by have := HN.out; omega))
      rw [HX.out] at HE HWd
      have HL : ∀ x ∈ [(i : Int) + 1], 0 ≤ x ∧ x < 4294967296 := fun x hx => by
        obtain rfl := List.mem_singleton.1 hx
        have := HN.out
        omega
      have HL := Lib.hid HL
      have hcn := Lib.hid (show i < 1000000 by have := HN.out; omega)
      clear hx2
      go_wp2_with (first
            | ((with_reducible refine gate_dst (N := 34) rfl ?_); refine Kd.R_lit (Kd.int .u32) _ 22 ?hg (N := 34) ?hd (xs := ([((i : Int) + 1)] : List Int)) (inner := [.int .u32 ((i : Int) + 1)]) (ok := fun _ => True) (okp := fun _ => True) ?hr ?hp (fun _ hk => hk) trivial (Below.refl _ _) (Nat.le_refl _) (by simp) ?_; (case hd => rfl); (case hg => rfl); (case hr => first | (go_simp; done) | (go_simp; rfl)); (case hp => exact (Reps.one (show Kd.M (Kd.int .u32) _ _ _ (((i : Int) + 1)) [.int .u32 (((i : Int) + 1))] from rfl) (Reps.none _ _))); intro v34 w3 ho hb _ _; obtain ⟨A34, c34, rfl⟩ := Kd.R_slice ho; have HR34 := Lib.hid ho; have HS0 := Lib.hid (HS.out.to hb); clear HS ho hb; have HS := HS0; clear HS0)
            | (go_at_call 12; refine (made_row HR34.out ⟨#[116, x]⟩).mono ?_; rw [HC.out x]; rintro e w4 hp; obtain ⟨u34, rfl, hu, hb⟩ := hp; have HU34 := Lib.hid hu; have HS0 := Lib.hid (HS.out.to hb); clear HS hu hb HR34; have HS := HS0; clear HS0)
            | (go_at_call 11; refine (HS.out.one hcn.out HU34.out HL.out ⟨#[116, x]⟩ (by show 2 ≤ 30; decide) true (.inr (.inr HWd.out)) (s := ⟨#[116, x]⟩) (er := 0) (m' := i + 1) (F' := mF (i + 1)) HE.out.1 HE.out.2.1 HE.out.2.2).mono ?_; rintro e w5 ⟨rfl, hs, _⟩; have HS0 := Lib.hid hs; clear HS hs HU34; have HS := HS0; clear HS0))
      go_roundg g1
      case measure => omega
      case rel => exact ⟨i + 1, Lib.hid (by have := hi.out; omega), rfl, HS⟩
set_option maxHeartbeats 4000000 in
set_option maxRecDepth 100000 in
theorem many_any (a0 : Int) (w : World) (h0 : (Lit.int .i64 a0).wf = true) : Calls Try.prog 6 #[.int .i64 a0] w fun e w' => e = .returned (.bool true) ∧ Below w.heap.size w w' := by
  by_cases hr : 0 ≤ a0 ∧ a0 ≤ 25
  · obtain ⟨n, rfl⟩ : ∃ n : Nat, a0 = n := ⟨a0.toNat, (Int.toNat_of_nonneg hr.1).symm⟩
    exact many_nat n (by omega) w
  · by_cases h1 : a0 < 0
    · have h1d : decide (a0 < 0) = true := decide_eq_true h1
      have HB := Lib.hid (Below.refl w.heap.size w)
      clear hr h1 h0
      go_enter Try.func6, Try.ntmps6
      go_wp2_with (first
        | (go_at_call 9; refine (awake_calls _).mono ?_; rintro e w2 ⟨rfl, hb⟩; have HB0 := Lib.hid (HB.out.trans (hb.mono HB.out.size)); clear HB hb; have HB := HB0; clear HB0))
      go_ret
      exact ⟨rfl, HB.out⟩
    · have h1d : decide (a0 < 0) = false := decide_eq_false h1
      have h2d : decide ((25 : Int) < a0) = true := decide_eq_true (by omega)
      have HB := Lib.hid (Below.refl w.heap.size w)
      clear hr h1 h0
      go_enter Try.func6, Try.ntmps6
      go_wp2_with (first
        | (go_at_call 9; refine (awake_calls _).mono ?_; rintro e w2 ⟨rfl, hb⟩; have HB0 := Lib.hid (HB.out.trans (hb.mono HB.out.size)); clear HB hb; have HB := HB0; clear HB0))
      go_ret
      exact ⟨rfl, HB.out⟩
end Go.Proofs.Ytjlohmhmnghjkaa
