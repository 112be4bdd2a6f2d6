/- awake: it is true. -/
import Derived.Test.YtjlohmhmnghjkaaO3
import Derived.Test.YtjlohmhmnghjkaaP1
namespace Go.Proofs.Ytjlohmhmnghjkaa
open Go.RowKit Go.Maps Go.Proofs.YtjlohmhmnghjkaaW.PrintWords Go.Proofs.Ytjlohmhmnghjkaa.PAliasPlays
set_option linter.unusedVariables false
set_option linter.unusedSimpArgs false

/-- A walk's world: the table made behind w0, and all of w0 as it was. -/
structure TS (w0 W : World) (g bm most n m : Nat) (F : Nat → Option ByteArray) : Prop where
  pt : PT W w0.heap.size g bm most n m F
  below : Below w0.heap.size w0 W
section
variable {w0 W W1 : World} {g bm most n m : Nat} {F : Nat → Option ByteArray}
theorem TS.to (h : TS w0 W g bm most n m F) (hb : Below W.heap.size W W1) : TS w0 W1 g bm most n m F := ⟨h.pt.below hb, h.below.trans (hb.mono h.below.size)⟩
theorem TS.lit (h : TS w0 W g bm most n m F) {b : Nat} (hb : Below b W W1) (e : b = W.heap.size) : TS w0 W1 g bm most n m F := h.to (e ▸ hb)
theorem TS.name (h : TS w0 W g bm most n m F) {n' m' : Nat} {F' : Nat → Option ByteArray} (hk : TKept W W1 w0.heap.size bm) (hp : PT W1 w0.heap.size g bm most n' m' F') : TS w0 W1 g bm most n' m' F' := ⟨hp, h.below.trans hk.below⟩
/-- One call of Name on what made gave. -/
theorem TS.one (h : TS w0 W g bm most n m F) (hn : n < 1000000) {b e : Nat} {ok : Nat → Prop} {u : Value} {L : List Int} (hu : Kd.R k61 e W b ok u (propsOf L)) (hL : ∀ x ∈ L, 0 ≤ x ∧ x < 4294967296) (topic : ByteArray) (hts : topic.size ≤ 30) (b0 : Bool) (hb0 : wordB most (oOf L) topic b0)
    {s : ByteArray} {er : Int} {m' : Nat} {F' : Nat → Option ByteArray} (hr : stR most F (oOf L) topic b0 = (s, er)) (hm : stM F m (stS most (oOf L) topic b0) = m') (hF : stF F (stS most (oOf L) topic b0) topic = F') :
    Calls Try.prog 11 #[.pointer (some ⟨g, 0, none⟩), .agg #[.bool false, .bool false, .int .u8 0, .int .u32 0, u, .string topic, .string ⟨#[]⟩]] W fun e W1 => e = .returned (.tuple #[.string s, .int .i64 er]) ∧ TS w0 W1 g bm most (n + 1) m' F' ∧ TKept W W1 w0.heap.size bm := by
  refine (tname_row h.pt h.below.size hn hu hL topic ⟨#[]⟩ hts b0 hb0).mono ?_
  rintro e W1 ⟨rfl, hk, hp⟩
  rw [hr, hm, hF] at *
  exact ⟨rfl, h.name hk hp, hk⟩
end
def nF : Nat → Option ByteArray := fun _ => none
theorem word_a : switchboardref10_Name.f 200 ⟨#[97]⟩ = some true := word_of (nameW_plain [97] (by decide) (by decide) (by decide)) (by decide)
theorem word_x : switchboardref10_Name.f 200 ⟨#[120]⟩ = some true := word_of (nameW_plain [120] (by decide) (by decide) (by decide)) (by decide)
set_option maxHeartbeats 4000000 in
set_option maxRecDepth 100000 in
theorem awake_calls (w : World) : Calls Try.prog 9 #[] w fun e w' => e = .returned (.bool true) ∧ Below w.heap.size w w' := by
  have c30 : cutS ⟨#[97]⟩ 30 = ⟨#[97]⟩ := cutS_short (by decide)
  have c31 : cutS ⟨#[120]⟩ 30 = ⟨#[120]⟩ := cutS_short (by decide)
  have c32 : cutS ⟨#[]⟩ 30 = ⟨#[]⟩ := cutS_short (by decide)
  have HC30 := Lib.hid c30
  have HC31 := Lib.hid c31
  have HC32 := Lib.hid c32
  clear c30 c31 c32
  go_enter Try.func9, Try.ntmps9
  go_wp2_with (first
    | (go_at_call 8; refine (tnew_calls _ 5).mono ?_; rintro e w1 hp; obtain ⟨g, bm, rfl, hpt, hb⟩ := hp; have HS : Hid (TS w w1 g bm 5 0 0 nF) := Lib.hid ⟨hpt, hb⟩; clear hpt hb)
    | ((with_reducible refine gate_dst (N := 15) rfl ?_); refine Kd.R_lit (Kd.int .u32) _ 22 ?hg (N := 15) ?hd (xs := ([1] : List Int)) (inner := [.int .u32 1]) (ok := fun _ => True) (okp := fun _ => True) ?hr ?hp (fun _ hk => hk) trivial (Below.refl _ _) (Nat.le_refl _) (by simp) ?_; (case hd => rfl); (case hg => rfl); (case hr => first | (go_simp; done) | (go_simp; rfl)); (case hp => exact (Reps.one (show Kd.M (Kd.int .u32) _ _ _ (1) [.int .u32 (1)] from rfl) (Reps.none _ _))); intro v15 w3 ho hb _ _; obtain ⟨A15, c15, rfl⟩ := Kd.R_slice ho; have HR15 := Lib.hid ho; have HS0 := Lib.hid (HS.out.to hb); clear HS ho hb; have HS := HS0; clear HS0)
    | (go_at_call 12; refine (made_row HR15.out ⟨#[97]⟩).mono ?_; rw [HC30.out]; rintro e w4 hp; obtain ⟨u15, rfl, hu, hb⟩ := hp; have HU15 := Lib.hid hu; have HS0 := Lib.hid (HS.out.to hb); clear HS hu hb HR15; have HS := HS0; clear HS0)
    | (go_at_call 11; refine (HS.out.one (by decide) HU15.out (by decide) ⟨#[97]⟩ (by decide) true (.inr (.inr word_a)) (s := ⟨#[97]⟩) (er := 0) (m' := 1) (F' := (setF nF 1 ⟨#[97]⟩)) rfl rfl rfl).mono ?_; rintro e w5 ⟨rfl, hs, _⟩; have HS0 := Lib.hid hs; clear HS hs HU15; have HS := HS0; clear HS0)
    | ((with_reducible refine gate_dst (N := 23) rfl ?_); refine Kd.R_lit (Kd.int .u32) _ 22 ?hg (N := 23) ?hd (xs := ([1] : List Int)) (inner := [.int .u32 1]) (ok := fun _ => True) (okp := fun _ => True) ?hr ?hp (fun _ hk => hk) trivial (Below.refl _ _) (Nat.le_refl _) (by simp) ?_; (case hd => rfl); (case hg => rfl); (case hr => first | (go_simp; done) | (go_simp; rfl)); (case hp => exact (Reps.one (show Kd.M (Kd.int .u32) _ _ _ (1) [.int .u32 (1)] from rfl) (Reps.none _ _))); intro v23 w3 ho hb _ _; obtain ⟨A23, c23, rfl⟩ := Kd.R_slice ho; have HR23 := Lib.hid ho; have HS0 := Lib.hid (HS.out.to hb); clear HS ho hb; have HS := HS0; clear HS0)
    | (go_at_call 12; refine (made_row HR23.out ⟨#[]⟩).mono ?_; rw [HC32.out]; rintro e w4 hp; obtain ⟨u23, rfl, hu, hb⟩ := hp; have HU23 := Lib.hid hu; have HS0 := Lib.hid (HS.out.to hb); clear HS hu hb HR23; have HS := HS0; clear HS0)
    | (go_at_call 11; refine (HS.out.one (by decide) HU23.out (by decide) ⟨#[]⟩ (by decide) true (.inr (.inl rfl)) (s := ⟨#[97]⟩) (er := 0) (m' := 1) (F' := (setF nF 1 ⟨#[97]⟩)) rfl rfl rfl).mono ?_; rintro e w5 ⟨rfl, hs, _⟩; have HS0 := Lib.hid hs; clear HS hs HU23; have HS := HS0; clear HS0)
    | ((with_reducible refine gate_dst (N := 31) rfl ?_); refine Kd.R_lit (Kd.int .u32) _ 22 ?hg (N := 31) ?hd (xs := ([2] : List Int)) (inner := [.int .u32 2]) (ok := fun _ => True) (okp := fun _ => True) ?hr ?hp (fun _ hk => hk) trivial (Below.refl _ _) (Nat.le_refl _) (by simp) ?_; (case hd => rfl); (case hg => rfl); (case hr => first | (go_simp; done) | (go_simp; rfl)); (case hp => exact (Reps.one (show Kd.M (Kd.int .u32) _ _ _ (2) [.int .u32 (2)] from rfl) (Reps.none _ _))); intro v31 w3 ho hb _ _; obtain ⟨A31, c31, rfl⟩ := Kd.R_slice ho; have HR31 := Lib.hid ho; have HS0 := Lib.hid (HS.out.to hb); clear HS ho hb; have HS := HS0; clear HS0)
    | (go_at_call 12; refine (made_row HR31.out ⟨#[]⟩).mono ?_; rw [HC32.out]; rintro e w4 hp; obtain ⟨u31, rfl, hu, hb⟩ := hp; have HU31 := Lib.hid hu; have HS0 := Lib.hid (HS.out.to hb); clear HS hu hb HR31; have HS := HS0; clear HS0)
    | (go_at_call 11; refine (HS.out.one (by decide) HU31.out (by decide) ⟨#[]⟩ (by decide) true (.inr (.inl rfl)) (s := ⟨#[]⟩) (er := 3) (m' := 1) (F' := (setF nF 1 ⟨#[97]⟩)) rfl rfl rfl).mono ?_; rintro e w5 ⟨rfl, hs, _⟩; have HS0 := Lib.hid hs; clear HS hs HU31; have HS := HS0; clear HS0)
    | ((with_reducible refine gate_dst (N := 39) rfl ?_); refine Kd.R_lit (Kd.int .u32) _ 22 ?hg (N := 39) ?hd (xs := ([6] : List Int)) (inner := [.int .u32 6]) (ok := fun _ => True) (okp := fun _ => True) ?hr ?hp (fun _ hk => hk) trivial (Below.refl _ _) (Nat.le_refl _) (by simp) ?_; (case hd => rfl); (case hg => rfl); (case hr => first | (go_simp; done) | (go_simp; rfl)); (case hp => exact (Reps.one (show Kd.M (Kd.int .u32) _ _ _ (6) [.int .u32 (6)] from rfl) (Reps.none _ _))); intro v39 w3 ho hb _ _; obtain ⟨A39, c39, rfl⟩ := Kd.R_slice ho; have HR39 := Lib.hid ho; have HS0 := Lib.hid (HS.out.to hb); clear HS ho hb; have HS := HS0; clear HS0)
    | (go_at_call 12; refine (made_row HR39.out ⟨#[120]⟩).mono ?_; rw [HC31.out]; rintro e w4 hp; obtain ⟨u39, rfl, hu, hb⟩ := hp; have HU39 := Lib.hid hu; have HS0 := Lib.hid (HS.out.to hb); clear HS hu hb HR39; have HS := HS0; clear HS0)
    | (go_at_call 11; refine (HS.out.one (by decide) HU39.out (by decide) ⟨#[120]⟩ (by decide) true (.inr (.inr word_x)) (s := ⟨#[]⟩) (er := 11) (m' := 1) (F' := (setF nF 1 ⟨#[97]⟩)) rfl rfl rfl).mono ?_; rintro e w5 ⟨rfl, hs, _⟩; have HS0 := Lib.hid hs; clear HS hs HU39; have HS := HS0; clear HS0))


  go_ret
  exact ⟨rfl, HS.out.below⟩
end Go.Proofs.Ytjlohmhmnghjkaa
