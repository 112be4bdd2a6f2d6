/- reason.May, publish.id; what is left, the end. -/
import Derived.Test.YtljbchghbpmghaaGreatDoorS5
import Derived.Test.YtljbchghbpmghaaGreatDoorShelf
import Derived.Test.YtljbchghbpmghaaGreatDoorHC
namespace Go.Proofs.YtljbchghbpmghaaGreatDoor
open Go.RowKit Go.Lib Go.Proofs.YtljbchghbpmghaaGreatDoorW.PrintWords Go.Proofs.YtljbchghbpmghaaGreatDoor.PSwitchboardGreat
set_option linter.unusedVariables false
set_option linter.unusedSimpArgs false
theorem codes_in : ∀ n : Fin 16, (reason_codes.f 20 (n.1 : Nat)).isSome = true := by decide +kernel
theorem codes_f (k : Nat) (h : k < 16) : ∃ r, reason_codes.f 20 (k : Int) = some r := Option.isSome_iff_exists.1 (codes_in ⟨k, h⟩)
def MayP (w : World) (e : Ending) (w' : World) : Prop := ∃ b : Bool, e = .returned (.bool b) ∧ Below w.heap.size w w'
set_option maxHeartbeats 1000000 in
set_option maxRecDepth 1000000 in
theorem may_calls (k : Nat) (h : k < 16) (c : Int) (w : World) : Calls Tryz.prog 54 #[.int .i64 (k : Nat), .int .u8 c] w (MayP w) := by
  obtain ⟨r, hr⟩ := codes_f k h
  have HR := Lib.hid hr
  clear hr
  go_enter Tryz.func54, Tryz.ntmps54
  go_wp2_with (first
    | (go_at_call 69; refine (reason_codes.calls 20 k r _ HR.out).mono ?_; rintro e w1 ⟨rfl, hd⟩; have HB := Lib.hid hd.below; clear hd)
    | (go_at_call 68; refine (Tryz.strings_IndexByte r c _).mono ?_; rintro e w2 ⟨rfl, rfl⟩))
  go_ret
  exact ⟨_, rfl, HB.out⟩
set_option maxHeartbeats 1000000 in
set_option maxRecDepth 1000000 in
theorem id_calls {w : World} {g : Nat} {s : ByteArray} {er : Int} (h : IN w g s er) : Calls Tryz.prog 55 #[.pointer (some ⟨g, 0, none⟩)] w (NT .u32 65536 2 w g s er) := by
  have H := Lib.hid h
  clear h
  go_enter Tryz.func55, Tryz.ntmps55
  go_upto_region 2 with (first
    | (go_at_call 50; refine (nt_two H.out).mono ?_; rintro e w1 hp; obtain ⟨v, s1, e1, rfl, hv, hi, hc, hE⟩ := hp; have H1 := Lib.hid hi; have C1 := Lib.hid hc; have E1 := Lib.hid hE; have HV := Lib.hid hv; clear H hi hc hE hv))
  by_cases he : e1 = 0
  · obtain rfl := he
    by_cases hv : v = 0
    · obtain rfl := hv
      go_wp2_with (first
        | (go_at_call 25; refine (err_same H1.out).mono ?_; rintro e w2 ⟨rfl, rfl⟩)
        | (go_at_call 43; refine (fail_in H1.out 3).mono ?_; rintro e w3 ⟨rfl, hi, hc⟩; have H3 := Lib.hid hi; have C3 := Lib.hid (C1.out.trans hc); clear hi hc))
      go_ret
      exact ⟨0, s1, _, rfl, HV.out, H3.out, C3.out, eat_fail E1.out 3 (by decide)⟩
    · have hq : ((v : Int) == 0) = false := beq_eq_false_iff_ne.2 (by omega)
      go_wp2_with (first
        | (go_at_call 25; refine (err_same H1.out).mono ?_; rintro e w2 ⟨rfl, rfl⟩))
      go_ret
      exact ⟨v, s1, 0, rfl, HV.out, H1.out, C1.out, E1.out⟩
  · have hq : (e1 == 0) = false := beq_eq_false_iff_ne.2 he
    go_wp2_with (first
      | (go_at_call 25; refine (err_same H1.out).mono ?_; rintro e w2 ⟨rfl, rfl⟩))
    go_ret
    exact ⟨v, s1, e1, rfl, HV.out, H1.out, C1.out, E1.out⟩
theorem rest_calls {w : World} {g : Nat} {s : ByteArray} {er : Int} (h : IN w g s er) (hs : er = 0 → s.size ≤ 100000) : Calls Tryz.prog 29 #[.pointer (some ⟨g, 0, none⟩)] w (RT 100000 w g s er) := by
  refine (rest_in h).mono ?_
  rintro e w' ⟨he, hi, hc⟩
  refine ⟨_, _, _, he, ?_, hi, hc, eat_raw s er s.size⟩
  by_cases h0 : er = 0
  · exact Nat.le_trans (raw_size s er s.size) (hs h0)
  · unfold rawR
    rw [if_pos h0]
    exact Nat.zero_le _
/-- A failure: there is an error behind it. -/
def FailP (w : World) (g : Nat) (s : ByteArray) (e : Ending) (w' : World) : Prop := ∃ e' : Int, e = .returned (.tuple #[]) ∧ e' ≠ 0 ∧ IN w' g s e' ∧ Chg (fun i => i = g) w w'
theorem fail_any {w : World} {g : Nat} {s : ByteArray} {er : Int} (h : IN w g s er) (n : Int) (hn : n ≠ 0) : Calls Tryz.prog 43 #[.pointer (some ⟨g, 0, none⟩), .int .i64 n] w (FailP w g s) := by
  refine (fail_in h n).mono ?_
  rintro e w' ⟨he, hi, hc⟩
  refine ⟨_, he, ?_, hi, hc⟩
  split
  · exact hn
  · assumption
theorem endR_0 {s : ByteArray} {er : Int} (h : endR s er = 0) : er = 0 ∧ s.size = 0 := by
  unfold endR at h
  split at h
  · cases h
  · rename_i hn
    refine ⟨h, ?_⟩
    by_cases hz : s.size = 0
    · exact hz
    · exact absurd (.inr ⟨h, hz⟩) hn
theorem PO.zero {w : World} {B : Nat} {ok : Nat → Prop} {v : Value} {L : List PR} (h : PO w B ok v L) : PO w 0 ok v L := Kd.R_lower h (Nat.zero_le _)
/-- Properties that were taken, wherever they lie. -/
def Take0 (w : World) (g : Nat) (s : ByteArray) (er : Int) (e : Ending) (w' : World) : Prop := ∃ (v : Value) (L : List PR) (s' : ByteArray) (er' : Int), e = .returned v ∧ PO w' 0 (fun _ => True) v L ∧ LOk L ∧ IN w' g s' er' ∧ Chg (fun i => i = g) w w' ∧ Eat s er s' er' (putB L).length
theorem take0_calls {w : World} {g : Nat} {s : ByteArray} {er : Int} (h : IN w g s er) (hs : er = 0 → s.size ≤ 100000) (kd : Int) (isW : Bool) : Calls Tryz.prog 51 #[.pointer (some ⟨g, 0, none⟩), .int .i64 kd, .bool isW] w (Take0 w g s er) := by
  refine (take_calls h hs kd isW).mono ?_
  rintro e w' ⟨v, L, s', er', he, hp, hok, hl, hz, hi, hc, hE⟩
  exact ⟨v, L, s', er', he, hp.zero, ⟨hok, hz, by omega⟩, hi, hc, hE⟩
theorem chg_setc {w : World} (b i : Nat) (u : Value) : Chg (fun k => k = b) w (w.setCell ⟨b, i, none⟩ u) := ⟨rfl, rfl, rfl, by simp [World.setCell], fun k _ hn => Below.heap_setCell w ⟨b, i, none⟩ u k hn⟩
theorem PO.setc {w : World} {B : Nat} {ok : Nat → Prop} {v : Value} {L : List PR} (h : PO w B ok v L) (b i : Nat) (u : Value) {cs : Array Value} {t : TypeId} (hb : w.heap[b]? = some (.cells cs t (0, 0))) (ht : t ≠ 144) : PO (w.setCell ⟨b, i, none⟩ u) B ok v L := h.to (chg_setc b i u) (fun k hk => .inr ⟨cs, t, hk ▸ hb, ht⟩)
theorem PO.rd {w w1 : World} {B g : Nat} {s : ByteArray} {er : Int} {ok : Nat → Prop} {v : Value} {L : List PR} (h : PO w B ok v L) (hi : IN w g s er) (hc : Chg (fun i => i = g) w w1) : PO w1 B ok v L := h.to hc (fun k hk => .inr ⟨_, _, hk ▸ hi, by decide⟩)
theorem bset {B : Nat} {w w' : World} (h : Below B w w') (b i : Nat) (u : Value) (hb : B ≤ b) : Below B w (w'.setCell ⟨b, i, none⟩ u) := h.setCell hb u
end Go.Proofs.YtljbchghbpmghaaGreatDoor
