/- The contract of share.there: the members that are there; all, if none is. -/
import Derived.Test.YtbcpodbihldfgaaB
namespace Go.Proofs.Ytbcpodbihldfgaa
open Go.RowKit Go.Maps Go.Proofs.YtbcpodbihldfgaaW.PrintWords Go.Proofs.Ytbcpodbihldfgaa.PSharePlays
set_option linter.unusedVariables false

def onL (l : List S33) : List S33 := l.filter (fun m => m.f1)
def thereL (l : List S33) : List S33 := if (onL l).length = 0 then l else onL l

theorem onL_snoc (l : List S33) (k : Nat) (h : k < l.length) : onL (l.take (k + 1)) = onL (l.take k) ++ (if (rd_T33 l k).f1 = true then [rd_T33 l k] else []) := by
  unfold onL rd_T33
  rw [List.take_succ_eq_append_getElem h, List.filter_append]
  simp [List.filter_cons, List.getD_eq_getElem?_getD, List.getElem?_eq_getElem h]

theorem onL_le (l : List S33) (k : Nat) : (onL (l.take k)).length ≤ l.length := by
  unfold onL
  exact Nat.le_trans (List.length_filter_le _ _) (by rw [List.length_take]; omega)

def TherePost (w : World) (T : Nat → Prop) (l : List S33) (e : Ending) (w' : World) : Prop :=
  ∃ A c, e = .returned (.slice A (thereL l).length c) ∧ (∀ W, Kept w' W T → Kd.C k33 W A (thereL l).length (thereL l)) ∧ (thereL l).length ≤ c ∧ Below w.heap.size w w'

set_option maxHeartbeats 1000000 in
theorem there_calls {w : World} {T : Nat → Prop} {A : Option Addr} {c : Nat} {l : List S33} (hT : ∀ k, T k → k < w.heap.size) (hr : ∀ W, Kept w W T → Kd.C k33 W A l.length l) (hc : l.length ≤ c) (hl : l.length ≤ 1000) :
    Calls Try.prog 20 #[.slice A l.length c] w (TherePost w T l) := by
  have HR := Lib.hid (hr w (Kept.refl _ _))
  have HR2 := Lib.hid hr
  have HT := Lib.hid hT
  clear hr hT
  go_enter Try.func20, Try.ntmps20
  go_wp2
  go_loopw [3, 8] (fun on i wr => ∃ k : Nat, k ≤ l.length ∧ i = .int .i64 k ∧ Hid (Kd.R k33 33 wr w.heap.size (fun _ => True) on (onL (l.take k))) ∧ Hid (Below w.heap.size w wr)) (fun _ i _ => l.length - (intOf i).toNat)
  case atStart => exact ⟨0, Nat.zero_le _, rfl, Kd.R_nil _ _ _ _ _, Below.refl _ _⟩
  case round =>
    obtain ⟨k, hk, rfl, HO, HB⟩ := hrel
    by_cases hlt : k < l.length
    · obtain ⟨ad, rfl, hx0, hx1⟩ := at_T33 HR.out (k : Int) (by omega) (by omega)
      rw [Int.toNat_natCast] at hx0 hx1
      replace hx0 := (HB.out.cell (World.block_lt_of_cell? w _ hx0)).trans hx0
      replace hx1 := (HB.out.cell (World.block_lt_of_cell? w _ hx1)).trans hx1
      have hle := onL_le l k
      have HS := Lib.hid (onL_snoc l k hlt)
      generalize hp : rd_T33 l (k : Int) = p at hx0 hx1 HS
      have HP := Lib.hid hp
      clear hp
      obtain ⟨p0, p1⟩ := p
      simp only at hx0 hx1
      cases p1 with
      | true =>
        go_wp2_with (first | (at_builtin; refine Kd.R_append k33 (w0 := w) w.heap.size rfl (.tmp 14) (.tmp 16) 22 33 (.agg #[(.string ⟨#[]⟩), (.bool false)]) 24 rfl Try.underlying22 info33 rfl (by decide) (by omega) u3 (onL (l.take k)) ⟨p0, true⟩ [.string p0, .bool true] (fun _ => True) (fun _ => False) rfl (by first | (go_simp; done) | (go_simp; rfl)) ?aP (fun _ hk => hk.elim) ?aF ?aO ?aB ?aS ?aL ?_; (case aP => exact k33_mkM _ _ _ ⟨p0, true⟩); (case aF => exact fun _ _ => trivial); (case aO => exact Kd.R_alloc HO.out _); (case aB => exact HB.out.alloc HB.out.size _); (case aS => have := HB.out.size; simp; omega); (case aL => omega); intro v1 w1 hq1 hb1 hgr1 hat1; have HO1 := Lib.hid hq1; have HB1 := Lib.hid hb1; clear hq1 hb1 hgr1 hat1) | go_in)
        go_roundw
        case rel => exact ⟨k + 1, by omega, by go_num, by have := HO1.out; rw [HS.out, if_pos rfl]; exact this, HB1.out⟩
        case measure => simp [intOf]; omega
      | false =>
        go_wp2
        go_roundw
        case rel => exact ⟨k + 1, by omega, by go_num, by have := HO.out; rw [HS.out, if_neg (by simp), List.append_nil]; exact Kd.R_alloc this _, HB.out.alloc HB.out.size _⟩
        case measure => simp [intOf]; omega
    · obtain rfl : k = l.length := by omega
      have HO2 := HO.out
      rw [List.take_length] at HO2
      obtain ⟨A1, c1, rfl, hc1, hC1⟩ := Kd.R_reads HO2
      have hC := Lib.hid (Kd.C_kept_own (S := T) (Kd.R_bound HO2) (fun k hk ht => by have h1 := HT.out k ht; have h2 := hk.2.1; omega))
      clear hC1 HO2 HO
      by_cases h0 : (onL l).length = 0
      · have e0 : (((onL l).length : Int) == 0) = true := by rw [h0]; rfl
        have hfin : TherePost w T l (.returned (.slice A l.length c)) wr := by
          have e : thereL l = l := by unfold thereL; rw [if_pos h0]
          refine ⟨A, c, by rw [e], ?_, by rw [e]; exact hc, HB.out⟩
          rw [e]
          exact fun W hk => HR2.out W ((Kept.of_below HB.out T).then_ hk (fun k hk => .inl hk))
        have HF := Lib.hid hfin
        have h0' := Lib.hid h0
        clear hfin h0
        go_wp2
        go_ret
        exact HF.out
      · have e0 : (((onL l).length : Int) == 0) = false := by rw [beq_eq_false_iff_ne]; omega
        have hfin : TherePost w T l (.returned (.slice A1 (onL l).length c1)) wr := by
          have e : thereL l = onL l := by unfold thereL; rw [if_neg h0]
          refine ⟨A1, c1, by rw [e], ?_, by rw [e]; exact hc1, HB.out⟩
          rw [e]
          exact hC.out
        have HF := Lib.hid hfin
        have h0' := Lib.hid h0
        clear hfin h0
        go_wp2
        go_ret
        exact HF.out
end Go.Proofs.Ytbcpodbihldfgaa
