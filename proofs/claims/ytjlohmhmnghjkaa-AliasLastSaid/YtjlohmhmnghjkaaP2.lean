/- AliasRange: the walk. -/
import Derived.Test.YtjlohmhmnghjkaaO4
namespace Go.Proofs.Ytjlohmhmnghjkaa
open Go.RowKit Go.Maps Go.Proofs.YtjlohmhmnghjkaaW.PrintWords Go.Proofs.Ytjlohmhmnghjkaa.PAliasPlays
set_option linter.unusedVariables false
set_option linter.unusedSimpArgs false

theorem TS.new {w w1 : World} {g bm most : Nat} {F : Nat → Option ByteArray} (h : PT w1 w.heap.size g bm most 0 0 F) (hb : Below w.heap.size w w1) : TS w w1 g bm most 0 0 F := ⟨h, hb⟩
theorem u32_bounds {n : Int} (h : (Lit.int .u32 n).wf = true) : 0 ≤ n ∧ n < 4294967296 := by
  simp only [Lit.wf, IntKind.min, IntKind.max, IntKind.signed, IntKind.bits, Bool.and_eq_true, decide_eq_true_eq] at h
  simp at h
  omega
set_option maxHeartbeats 4000000 in
set_option maxRecDepth 100000 in
theorem range_nat (most N : Nat) (hN : N < 4294967296) (w : World) : Calls Try.prog 5 #[.int .u32 most, .int .u32 N] w fun e w' => e = .returned (.bool true) ∧ Below w.heap.size w w' := by
  have HC30 := Lib.hid (show cutS ⟨#[97]⟩ 30 = ⟨#[97]⟩ from cutS_short (by decide))
  have HL : ∀ x ∈ [(N : Int)], 0 ≤ x ∧ x < 4294967296 := fun x hx => by
    obtain rfl := List.mem_singleton.1 hx
    omega
  have ho : oOf [(N : Int)] = some N := rfl
  by_cases hbad : N = 0 ∨ min most 65535 < N
  · have HE : Hid (stR (min most 65535) nF (oOf [(N : Int)]) ⟨#[97]⟩ true = (⟨#[]⟩, 11) ∧ stM nF 0 (stS (min most 65535) (oOf [(N : Int)]) ⟨#[97]⟩ true) = 0 ∧ stF nF (stS (min most 65535) (oOf [(N : Int)]) ⟨#[97]⟩ true) ⟨#[97]⟩ = nF) := by
      rw [ho]
      refine Lib.hid ⟨?_, ?_, ?_⟩ <;> simp only [stR, stS, if_pos hbad, stM, stF]
    clear ho
    have HB := Lib.hid hbad
    clear hbad
    go_enter Try.func5, Try.ntmps5
    go_wp2_with (first
      | (go_at_call 8; refine (tnew_calls _ most).mono ?_; rintro e w1 hp; obtain ⟨g, bm, rfl, hpt, hb⟩ := hp; have HS := Lib.hid (TS.new hpt hb); clear hpt hb)
      | (go_at_call 9; refine (awake_calls _).mono ?_; rintro e w2 ⟨rfl, hb⟩; have HS0 := Lib.hid (HS.out.to hb); clear HS hb; have HS := HS0; clear HS0)
      | ((with_reducible refine gate_dst (N := 19) rfl ?_); refine Kd.R_lit (Kd.int .u32) _ 22 ?hg (N := 19) ?hd (xs := ([(N : Int)] : List Int)) (inner := [.int .u32 (N : Int)]) (ok := fun _ => True) (okp := fun _ => True) ?hr ?hp (fun _ hk => hk) trivial (Below.refl _ _) (Nat.le_refl _) (by simp) ?_; (case hd => rfl); (case hg => rfl); (case hr => first | (go_simp; done) | (go_simp; rfl)); (case hp => exact (Reps.one (show Kd.M (Kd.int .u32) _ _ _ ((N : Int)) [.int .u32 ((N : Int))] from rfl) (Reps.none _ _))); intro v19 w3 ho hb _ _; obtain ⟨A19, c19, rfl⟩ := Kd.R_slice ho; have HR19 := Lib.hid ho; have HS0 := Lib.hid (HS.out.to hb); clear HS ho hb; have HS := HS0; clear HS0)
      | (go_at_call 12; refine (made_row HR19.out ⟨#[97]⟩).mono ?_; rw [HC30.out]; rintro e w4 hp; obtain ⟨u19, rfl, hu, hb⟩ := hp; have HU19 := Lib.hid hu; have HS0 := Lib.hid (HS.out.to hb); clear HS hu hb HR19; have HS := HS0; clear HS0)
      | (go_at_call 11; refine (HS.out.one (by decide) HU19.out HL ⟨#[97]⟩ (by decide) true (.inr (.inr word_a)) (s := ⟨#[]⟩) (er := 11) (m' := 0) (F' := nF) HE.out.1 HE.out.2.1 HE.out.2.2).mono ?_; rintro e w5 ⟨rfl, hs, _⟩; have HS0 := Lib.hid hs; clear HS hs HU19; have HS := HS0; clear HS0)
      | (go_at_call 13; refine (tlen_calls HS.out.pt).mono ?_; rintro e w6 ⟨rfl, rfl⟩))
    all_goals go_ret
    all_goals first
      | exact ⟨rfl, HS.out.below⟩
      | (exfalso; have := HB.out; simp_all; omega)
  · have HE : Hid (stR (min most 65535) nF (oOf [(N : Int)]) ⟨#[97]⟩ true = (⟨#[97]⟩, 0) ∧ stM nF 0 (stS (min most 65535) (oOf [(N : Int)]) ⟨#[97]⟩ true) = 1 ∧ stF nF (stS (min most 65535) (oOf [(N : Int)]) ⟨#[97]⟩ true) ⟨#[97]⟩ = setF nF N ⟨#[97]⟩) := by
      rw [ho]
      refine Lib.hid ⟨?_, ?_, ?_⟩
      · simp only [stR, if_neg hbad]; rfl
      · simp only [stS, if_neg hbad]; rfl
      · simp only [stS, if_neg hbad]; rfl
    clear ho
    have HB := Lib.hid hbad
    clear hbad
    go_enter Try.func5, Try.ntmps5
    go_wp2_with (first
      | (go_at_call 8; refine (tnew_calls _ most).mono ?_; rintro e w1 hp; obtain ⟨g, bm, rfl, hpt, hb⟩ := hp; have HS := Lib.hid (TS.new hpt hb); clear hpt hb)
      | (go_at_call 9; refine (awake_calls _).mono ?_; rintro e w2 ⟨rfl, hb⟩; have HS0 := Lib.hid (HS.out.to hb); clear HS hb; have HS := HS0; clear HS0)
      | ((with_reducible refine gate_dst (N := 19) rfl ?_); refine Kd.R_lit (Kd.int .u32) _ 22 ?hg (N := 19) ?hd (xs := ([(N : Int)] : List Int)) (inner := [.int .u32 (N : Int)]) (ok := fun _ => True) (okp := fun _ => True) ?hr ?hp (fun _ hk => hk) trivial (Below.refl _ _) (Nat.le_refl _) (by simp) ?_; (case hd => rfl); (case hg => rfl); (case hr => first | (go_simp; done) | (go_simp; rfl)); (case hp => exact (Reps.one (show Kd.M (Kd.int .u32) _ _ _ ((N : Int)) [.int .u32 ((N : Int))] from rfl) (Reps.none _ _))); intro v19 w3 ho hb _ _; obtain ⟨A19, c19, rfl⟩ := Kd.R_slice ho; have HR19 := Lib.hid ho; have HS0 := Lib.hid (HS.out.to hb); clear HS ho hb; have HS := HS0; clear HS0)
      | (go_at_call 12; refine (made_row HR19.out ⟨#[97]⟩).mono ?_; rw [HC30.out]; rintro e w4 hp; obtain ⟨u19, rfl, hu, hb⟩ := hp; have HU19 := Lib.hid hu; have HS0 := Lib.hid (HS.out.to hb); clear HS hu hb HR19; have HS := HS0; clear HS0)
      | (go_at_call 11; refine (HS.out.one (by decide) HU19.out HL ⟨#[97]⟩ (by decide) true (.inr (.inr word_a)) (s := ⟨#[97]⟩) (er := 0) (m' := 1) (F' := (setF nF N ⟨#[97]⟩)) HE.out.1 HE.out.2.1 HE.out.2.2).mono ?_; rintro e w5 ⟨rfl, hs, _⟩; have HS0 := Lib.hid hs; clear HS hs HU19; have HS := HS0; clear HS0)
      | (go_at_call 13; refine (tlen_calls HS.out.pt).mono ?_; rintro e w6 ⟨rfl, rfl⟩))
    all_goals go_ret
    all_goals first
      | exact ⟨rfl, HS.out.below⟩
      | (exfalso; have := HB.out; simp_all; omega)
theorem range_any (a0 a1 : Int) (w : World) (h0 : (Lit.int .u32 a0).wf = true) (h1 : (Lit.int .u32 a1).wf = true) : Calls Try.prog 5 #[.int .u32 a0, .int .u32 a1] w fun e w' => e = .returned (.bool true) ∧ Below w.heap.size w w' := by
  have p0 := u32_bounds h0
  have p1 := u32_bounds h1
  have := range_nat a0.toNat a1.toNat (by omega) w
  rwa [Int.toNat_of_nonneg p0.1, Int.toNat_of_nonneg p1.1] at this
end Go.Proofs.Ytjlohmhmnghjkaa
