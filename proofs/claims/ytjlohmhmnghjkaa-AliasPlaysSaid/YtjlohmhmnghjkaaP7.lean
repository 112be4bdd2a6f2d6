/- AliasNone: the walk. -/
import Derived.Test.YtjlohmhmnghjkaaP6
namespace Go.Proofs.Ytjlohmhmnghjkaa
open Go.RowKit Go.Maps Go.Proofs.YtjlohmhmnghjkaaW.PrintWords Go.Proofs.Ytjlohmhmnghjkaa.PAliasPlays
set_option linter.unusedVariables false
set_option linter.unusedSimpArgs false

theorem none_ref (k most : Nat) (topic : ByteArray) (m' : Nat) (F : Nat → Option ByteArray) (b : Bool) (s : ByteArray) (er : Int) (hw : wordB m' (oOf []) topic b) (hr : stR m' F (oOf []) topic b = (s, er)) (hk : 210 ≤ k) :
    switchboardref17_Name.f k [] topic [] (most : Int) = some ([], s, er) := by
  have hnb : ¬ badO m' (oOf []) := fun ⟨N, h, _⟩ => by cases h
  have hf := name17_f [] topic [] (by simp) most b (by simp) (.inr (hw.resolve_left hnb)) k (by simpa using hk)
  have e1 : stR most (gF []) (oOf []) topic b = stR m' F (oOf []) topic b := rfl
  rw [e1, hr] at hf
  exact hf
theorem TS.kept {w0 W W1 : World} {g bm most n m : Nat} {F : Nat → Option ByteArray} {S : Nat → Prop} (h : TS w0 W g bm most n m F) (hb : Below w0.heap.size w0 W1) (hk : Kept W W1 S) (hg : ¬ S g) (hbm : ¬ S bm) : TS w0 W1 g bm most n m F :=
  ⟨h.pt.move (hk.2 g h.pt.lt.1 hg) (hk.2 bm h.pt.lt.2 hbm), hb⟩
set_option maxHeartbeats 4000000 in
set_option maxRecDepth 100000 in
theorem none_nat (most : Nat) (nm : ByteArray) (w : World) : Calls Try.prog 4 #[.int .u32 most, .string nm] w fun e w' => e = .returned (.bool true) ∧ Below w.heap.size w w' := by
  have hu36 := Try.underlying36
  have HTs := Lib.hid (cutS_size nm 30)
  have HC := Lib.hid (cut_f nm 30)
  obtain ⟨T, hT⟩ : ∃ T, cutS nm 30 = T := ⟨_, rfl⟩
  rw [hT] at HTs HC
  have HRn : ∀ W : World, Kd.R k61 61 W 0 (fun _ => True) (.slice none 0 0) (propsOf []) := fun W => Kd.R_nil _ _ _ _ _
  have HRn := Lib.hid HRn
  clear hT
  go_enter Try.func4, Try.ntmps4
  go_wp2_with (first
    | (go_at_call 8; refine (tnew_calls _ most).mono ?_; rintro e w1 hp; obtain ⟨g, bm, rfl, hpt, hb⟩ := hp; have HS := Lib.hid (TS.new hpt hb); clear hpt hb)
    | (go_at_call 9; refine (awake_calls _).mono ?_; rintro e w2 ⟨rfl, hb⟩; have HS0 := Lib.hid (HS.out.to hb); clear HS hb; have HS := HS0; clear HS0)
    | (go_at_call 10; refine (switchboardlaw01_Cut.calls nm 30 _ _ HC.out).mono ?_; rintro e w3 ⟨rfl, hd⟩; have HS0 := Lib.hid (HS.out.to hd.below); clear HS hd; have HS := HS0; clear HS0)
    | (go_at_call 11; refine (HS.out.any (by decide) (HRn.out _) (by simp) T HTs.out).mono ?_; rintro e w5 hp; obtain ⟨b, s, er, hwb, hr, rfl, hs, _⟩ := hp; have HRef := Lib.hid (fun k => none_ref k most T _ _ b s er hwb hr); have HS0 : Hid (TS w w5 g bm (min most 65535) 1 0 nF) := Lib.hid hs; clear HS hs hwb hr HRn; have HS := HS0; clear HS0)
    | (go_at_call 14; refine (switchboardref17_Name.calls 300 (fun _ => False) (.slice none 0 0) [] T none 0 [] most [] s er w _ HS.out.below (Kd.R_nil _ _ _ _ _) (fun W _ => Kd.C_nil _ _) (Nat.le_refl _) (HRef.out 300 (by decide))).mono ?_; rintro e w6 ⟨v0, rfl, _, hb0, hk6⟩; have HS0 := Lib.hid (HS.out.kept hb0 hk6 (fun h => h) (fun h => h)); clear HS hb0 hk6; have HS := HS0; clear HS0)
    | (go_at_call 13; refine (tlen_calls HS.out.pt).mono ?_; rintro e w6 ⟨rfl, rfl⟩))
  go_ret
  exact ⟨rfl, HS.out.below⟩
theorem none_any (a0 : Int) (a1 : ByteArray) (w : World) (h0 : (Lit.int .u32 a0).wf = true) (h1 : a1.size ≤ 140737488351232) : Calls Try.prog 4 #[.int .u32 a0, .string a1] w fun e w' => e = .returned (.bool true) ∧ Below w.heap.size w w' := by
  have p0 := u32_bounds h0
  have := none_nat a0.toNat a1 w
  rwa [Int.toNat_of_nonneg p0.1] at this
end Go.Proofs.Ytjlohmhmnghjkaa
