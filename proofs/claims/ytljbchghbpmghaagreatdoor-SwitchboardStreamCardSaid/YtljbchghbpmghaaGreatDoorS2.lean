/- word.TakePair, prop.value: what they take. -/
import Derived.Test.YtljbchghbpmghaaGreatDoorS1
namespace Go.Proofs.YtljbchghbpmghaaGreatDoor
open Go.RowKit Go.Lib Go.Proofs.YtljbchghbpmghaaGreatDoorW.PrintWords Go.Proofs.YtljbchghbpmghaaGreatDoor.PSwitchboardGreat
set_option linter.unusedVariables false
set_option linter.unusedSimpArgs false
theorem IN.drN {w : World} {g : Nat} {s : ByteArray} {er : Int} (h : IN w g s er) (n : Nat) : IN (w.drewN n) g s er := h
theorem chg_drN {S : Nat → Prop} {w w1 : World} (h : Chg S w w1) (n : Nat) : Chg S w (w1.drewN n) := ⟨h.os, h.tape, h.output, h.size, h.block⟩
theorem eat_fail {s s1 : ByteArray} {e e1 : Int} {a : Nat} (h : Eat s e s1 e1 a) (n : Int) (hn : n ≠ 0) : Eat s e s1 (if e1 = 0 then n else e1) a := h.err (fun h2 => by
  by_cases h0 : e1 = 0
  · exact h0
  · rw [if_neg h0] at h2; exact h2)
set_option maxHeartbeats 1000000 in
set_option maxRecDepth 1000000 in
theorem err_same {w : World} {g : Nat} {s : ByteArray} {er : Int} (h : IN w g s er) : Calls Tryz.prog 25 #[.pointer (some ⟨g, 0, none⟩)] w fun e w' => e = .returned (.int .i64 er) ∧ w' = w := by
  have h1 := cell_in1 h
  clear h
  go_enter Tryz.func25, Tryz.ntmps25
  go_wp2
  go_ret
  exact ⟨rfl, rfl⟩
/-- A string that was taken. -/
def WT (w : World) (g : Nat) (s : ByteArray) (er : Int) (e : Ending) (w' : World) : Prop := ∃ v s' er', e = .returned (.string v) ∧ v.size ≤ 65535 ∧ IN w' g s' er' ∧ Chg (fun i => i = g) w w' ∧ Eat s er s' er' (2 + v.size)
theorem wt_in {w : World} {g : Nat} {s : ByteArray} {er : Int} (h : IN w g s er) : Calls Tryz.prog 49 #[.pointer (some ⟨g, 0, none⟩)] w (WT w g s er) := by
  refine (wtake_in h).mono ?_
  rintro e w' ⟨b, _, he, hi, hc⟩
  exact ⟨_, _, _, he, takeV_size _ b (dataR_size s er), hi, hc, eat_take s er b⟩
theorem dt_in {w : World} {g : Nat} {s : ByteArray} {er : Int} (h : IN w g s er) : Calls Tryz.prog 62 #[.pointer (some ⟨g, 0, none⟩)] w (WT w g s er) := by
  refine (data_in h).mono ?_
  rintro e w' ⟨he, hi, hc⟩
  exact ⟨_, _, _, he, dataR_size s er, hi, hc, eat_data s er⟩
/-- A number that was taken, in k bytes or more. -/
def NT (k : IntKind) (m n : Nat) (w : World) (g : Nat) (s : ByteArray) (er : Int) (e : Ending) (w' : World) : Prop := ∃ (v : Nat) (s' : ByteArray) (er' : Int), e = .returned (.int k (v : Nat)) ∧ v < m ∧ IN w' g s' er' ∧ Chg (fun i => i = g) w w' ∧ Eat s er s' er' n
theorem nt_two {w : World} {g : Nat} {s : ByteArray} {er : Int} (h : IN w g s er) : Calls Tryz.prog 50 #[.pointer (some ⟨g, 0, none⟩)] w (NT .u32 65536 2 w g s er) := by
  refine (two_in h).mono ?_
  rintro e w' ⟨he, hi, hc⟩
  exact ⟨_, _, _, he, numR_lt2 s er, hi, hc, eat_rawN s er 2⟩
theorem nt_four {w : World} {g : Nat} {s : ByteArray} {er : Int} (h : IN w g s er) : Calls Tryz.prog 74 #[.pointer (some ⟨g, 0, none⟩)] w (NT .u32 4294967296 4 w g s er) := by
  refine (four_in h).mono ?_
  rintro e w' ⟨he, hi, hc⟩
  exact ⟨_, _, _, he, numR_lt s er 4, hi, hc, eat_rawN s er 4⟩
theorem nt_byte {w : World} {g : Nat} {s : ByteArray} {er : Int} (h : IN w g s er) : Calls Tryz.prog 42 #[.pointer (some ⟨g, 0, none⟩)] w (NT .u8 256 1 w g s er) := by
  refine (byteN_in h).mono ?_
  rintro e w' ⟨he, hi, hc⟩
  exact ⟨_, _, _, he, byteN_lt s er, hi, hc, byteN_eat s er⟩
/-- A variable byte integer that was taken. -/
def VT (w : World) (g : Nat) (s : ByteArray) (er : Int) (e : Ending) (w' : World) : Prop := ∃ (v : Nat) (s' : ByteArray) (er' : Int), e = .returned (.int .u32 (v : Nat)) ∧ v ≤ 268435455 ∧ IN w' g s' er' ∧ Chg (fun i => i = g) w w' ∧ Eat s er s' er' (varU v).length
theorem vt_in {w : World} {g : Nat} {s : ByteArray} {er : Int} (h : IN w g s er) : Calls Tryz.prog 24 #[.pointer (some ⟨g, 0, none⟩)] w (VT w g s er) := by
  refine (var_in h).mono ?_
  rintro e w' ⟨he, hi, hc⟩
  exact ⟨_, _, _, he, varR_lt s er, hi, hc, eat_var s er⟩
/-- Two strings that were taken. -/
def TP (w : World) (g : Nat) (s : ByteArray) (er : Int) (e : Ending) (w' : World) : Prop := ∃ a b s' er', e = .returned (.tuple #[.string a, .string b]) ∧ a.size ≤ 65535 ∧ b.size ≤ 65535 ∧ IN w' g s' er' ∧ Chg (fun i => i = g) w w' ∧ Eat s er s' er' (2 + a.size + (2 + b.size))
set_option maxHeartbeats 1000000 in
set_option maxRecDepth 1000000 in
theorem tp_in {w : World} {g : Nat} {s : ByteArray} {er : Int} (h : IN w g s er) : Calls Tryz.prog 75 #[.pointer (some ⟨g, 0, none⟩)] w (TP w g s er) := by
  have H := Lib.hid h
  clear h
  go_enter Tryz.func75, Tryz.ntmps75
  go_wp2_with (first
    | (go_at_call 49; refine (wt_in H.out).mono ?_; rintro e w1 hp; obtain ⟨a, s1, e1, rfl, ha, hi, hc, hE⟩ := hp; have H1 := Lib.hid hi; have C1 := Lib.hid hc; have E1 := Lib.hid hE; have A := Lib.hid ha; clear H hi hc hE ha)
    | (go_at_call 49; refine (wt_in H1.out).mono ?_; rintro e w2 hp; obtain ⟨b, s2, e2, rfl, ha, hi, hc, hE⟩ := hp; have H2 := Lib.hid hi; have C2 := Lib.hid (C1.out.trans hc); have E2 := Lib.hid (E1.out.trans hE); have B := Lib.hid ha; clear H1 hi hc hE ha)
    | (go_at_call 25; refine (err_same H2.out).mono ?_; rintro e w3 ⟨rfl, rfl⟩))
  · go_ret2
    have hne : e2 ≠ 0 := by
      intro h
      have : (e2 != 0) = true := by assumption
      rw [h] at this; cases this
    exact ⟨⟨#[]⟩, ⟨#[]⟩, s2, e2, rfl, Nat.zero_le _, Nat.zero_le _, H2.out, C2.out, Eat.bad hne⟩
  · go_ret2
    exact ⟨a, b, s2, e2, rfl, A.out, B.out, H2.out, C2.out, E2.out⟩
end Go.Proofs.YtljbchghbpmghaaGreatDoor
