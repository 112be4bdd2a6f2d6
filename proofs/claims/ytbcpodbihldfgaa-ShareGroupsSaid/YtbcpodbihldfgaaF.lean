/- ShareTurns: members are chosen in turn. -/
import Derived.Test.YtbcpodbihldfgaaE
namespace Go.Proofs.Ytbcpodbihldfgaa
open Go.RowKit Go.Maps Go.Proofs.YtbcpodbihldfgaaW.PrintWords Go.Proofs.Ytbcpodbihldfgaa.PSharePlays
set_option linter.unusedVariables false

theorem k33_mk2 (w : World) (base : Nat) (ok : Nat → Prop) (a : ByteArray) (b : Bool) : k33.M w base ok ⟨a, b⟩ [.string a, .bool b] := k33_mkM w base ok ⟨a, b⟩

def letter (i : Nat) : ByteArray := Utf8.encode (97 + (i : Int))
def mems (k : Nat) : List S33 := (List.range k).map fun i => ⟨letter i, true⟩
theorem mems_len (k : Nat) : (mems k).length = k := by simp [mems]
theorem mems_succ (k : Nat) : mems (k + 1) = mems k ++ [⟨Utf8.encode (97 + (k : Int)), true⟩] := by simp [mems, List.range_succ, letter]
theorem thereL_mems (k : Nat) : thereL (mems k) = mems k := by
  have : onL (mems k) = mems k := by
    unfold onL
    rw [List.filter_eq_self]
    intro a ha
    simp [mems] at ha
    obtain ⟨i, _, rfl⟩ := ha
    rfl
  unfold thereL
  split
  · rfl
  · exact this
theorem pickS_mems (G : List UInt8 → Int) (s : List UInt8) (m : Nat) (hm : 0 < m) (hG : 0 ≤ G s) : pickS [] G s (mems m) = (rd_T33 (mems m) (G s % (m : Int))).f0 := by
  unfold pickS
  rw [thereL_mems, mems_len]
  have e : chooseI (G s) m = G s % (m : Int) := by
    unfold chooseI
    rw [Int.tmod_eq_emod_of_nonneg hG]
    split
    · have := Int.emod_nonneg (G s) (b := (m : Int)) (by omega)
      omega
    · rfl
  show (rd_T33 (mems m) (chooseI (G s) m)).f0 = _
  rw [e]

/-- How often each was asked behind i rounds. -/
def gt (i : Nat) : List UInt8 → Int := fun s => if s = [111, 116, 104, 101, 114] then i else if s = [103] then i else 0
theorem gt_g (i : Nat) : gt i [103] = i := rfl
theorem gt_step (i : Nat) (s : List UInt8) : setG (setG (gt i) [103] (gt i [103] + 1)) [111, 116, 104, 101, 114] (setG (gt i) [103] (gt i [103] + 1) [111, 116, 104, 101, 114] + 1) s = gt (i + 1) s := by
  have e1 : setG (gt i) [103] (gt i [103] + 1) [111, 116, 104, 101, 114] = i := rfl
  rw [e1, gt_g]
  unfold setG gt
  split
  · simp
  · split
    · simp
    · rfl

theorem ST.congr {w0 w : World} {g n n' : Nat} {wait : List Int} {G G' : List UInt8 → Int} {v : Value} {l : List S33} (h : ST w0 w g wait n G v l) (e : ∀ s, G s = G' s) (hn : n = n') : ST w0 w g wait n' G' v l :=
  ⟨h.row, hn ▸ h.pk.congr e, h.below⟩

theorem choose_g {w0 w : World} {g m i : Nat} {A : Option Addr} {c : Nat} (h : ST w0 w g [] (2 * i) (gt i) (.slice A m c) (mems m)) (hi : i ≤ 400) (hm : 1 ≤ m) (hm2 : m ≤ 20) :
    Calls Try.prog 12 #[.pointer (some ⟨g, 0, none⟩), .string ⟨#[103]⟩, .slice A m c] w fun e w' => e = .returned (.tuple #[.string (rd_T33 (mems m) ((i : Int) % (m : Int))).f0, .bool true]) ∧ Hid (ST w0 w' g [] (2 * i + 1) (setG (gt i) [103] (gt i [103] + 1)) (.slice A m c) (mems m)) := by
  have hl := mems_len m
  have h' : ST w0 w g [] (2 * i) (gt i) (.slice A (mems m).length c) (mems m) := by rw [hl]; exact h
  have := h'.choose (by omega) (by omega) (by omega) ⟨#[103]⟩ (by decide)
  rw [hl] at this
  refine this.mono fun e w' ⟨he, hs⟩ => ⟨?_, hs⟩
  rw [he]
  have e1 := pickS_mems (gt i) [103] m (by omega) (by rw [gt_g]; omega)
  rw [gt_g] at e1
  show _ = _
  rw [← e1]
theorem choose_o {w0 w : World} {g m i : Nat} {A : Option Addr} {c : Nat} (h : ST w0 w g [] (2 * i + 1) (setG (gt i) [103] (gt i [103] + 1)) (.slice A m c) (mems m)) (hi : i ≤ 400) (hm : 1 ≤ m) (hm2 : m ≤ 20) :
    Calls Try.prog 12 #[.pointer (some ⟨g, 0, none⟩), .string ⟨#[111, 116, 104, 101, 114]⟩, .slice A m c] w fun e w' => ∃ s, e = .returned (.tuple #[.string s, .bool true]) ∧ Hid (ST w0 w' g [] (2 * (i + 1)) (gt (i + 1)) (.slice A m c) (mems m)) := by
  have hl := mems_len m
  have h' : ST w0 w g [] (2 * i + 1) (setG (gt i) [103] (gt i [103] + 1)) (.slice A (mems m).length c) (mems m) := by rw [hl]; exact h
  have := h'.choose (by omega) (by omega) (by omega) ⟨#[111, 116, 104, 101, 114]⟩ (by decide)
  rw [hl] at this
  exact this.mono fun e w' ⟨he, hs⟩ => ⟨_, he, hs.congr (gt_step i) (by omega)⟩

set_option maxHeartbeats 2000000 in
theorem turns_walk (m r : Nat) (h1 : 1 ≤ m) (h2 : m ≤ 20) (h4 : r ≤ 20) (w : World) : Calls Try.prog 4 #[.int .i64 m, .int .i64 r] w fun e w' => e = .returned (.bool true) ∧ Below w.heap.size w w' := by
  have haw := Lib.hid (awake_calls w)
  obtain ⟨N, hN⟩ : ∃ N : Nat, N = m * r := ⟨_, rfl⟩
  have hN1 : N ≤ 400 := by rw [hN]; exact Nat.mul_le_mul h2 h4
  have hP1 : (0 : Int) ≤ (m : Int) * (r : Int) := by rw [← Int.natCast_mul]; omega
  have hP2 : (m : Int) * (r : Int) ≤ 400 := by rw [← Int.natCast_mul, ← hN]; omega
  have HN := Lib.hid (show (m : Int) * (r : Int) = (N : Int) by rw [hN, Int.natCast_mul])
  clear hN
  go_enter Try.func4, Try.ntmps4
  go_wp2_with (first
    | (go_at_call 9; refine haw.out.mono ?_; rintro e w1 ⟨rfl, hb⟩; have HB := Lib.hid hb; clear hb haw)
    | ((with_reducible refine gate_dst (N := 30) rfl ?_); refine Kd.R_lit k33 (w0 := w) w.heap.size 33 ?hg (N := 30) ?hd (xs := ([] : List S33)) (inner := []) (ok := fun _ => True) (okp := fun _ => True) ?hr ?hp (fun _ hk => hk) trivial (HB.out) (HB.out.size) (by simp) ?_; (case hd => rfl); (case hg => rfl); (case hr => first | (go_simp; done) | (go_simp; rfl)); (case hp => exact (Reps.none _ _)); intro v1 w2 hq hb2 hg_ hnew_; obtain ⟨A1, c1, rfl, hc1⟩ := OwnRow.slice_ hq.2; have HO := Lib.hid hq; have HB2 := Lib.hid hb2; clear hq hb2 hg_ hnew_ HB))
  go_loopw [5, 6] (fun v i wr => ∃ k : Nat, k ≤ m ∧ i = .int .i64 k ∧ Hid (Kd.R k33 33 wr w.heap.size (fun _ => True) v (mems k)) ∧ Hid (Below w.heap.size w wr)) (fun _ i _ => m - (intOf i).toNat)
  case atStart => exact ⟨0, Nat.zero_le _, rfl, HO.out, HB2.out⟩
  case round =>
    clear HO HB2
    obtain ⟨k, hk, rfl, HR, HB⟩ := hrel
    have hml := Lib.hid (mems_len k)
    have hmle : (mems k).length ≤ 20 := by rw [mems_len]; omega
    by_cases hlt : k < m
    · go_wp2_with (at_builtin; refine Kd.R_append k33 (w0 := w) w.heap.size rfl (.tmp 36) (.tmp 42) 22 33 (.agg #[(.string ⟨#[]⟩), (.bool false)]) 24 rfl Try.underlying22 info33 rfl (by decide) (by omega) u5 (mems k) ⟨Utf8.encode (97 + (k : Int)), true⟩ [.string (Utf8.encode (97 + (k : Int))), .bool true] (fun _ => True) (fun _ => False) rfl (by first | (go_simp; done) | (go_simp; rfl)) ?aP (fun _ hk => hk.elim) ?aF ?aO ?aB ?aS ?aL ?_; (case aP => exact k33_mk2 _ _ _ _ _); (case aF => exact fun _ _ => trivial); (case aO => exact HR.out); (case aB => exact HB.out); (case aS => exact HB.out.size); (case aL => omega); intro v1 w1 hq1 hb1 hgr1 hat1; have HO1 := Lib.hid hq1; have HB1 := Lib.hid hb1; clear hq1 hb1 hgr1 hat1)
      go_roundw
      case rel => exact ⟨k + 1, by omega, by go_num, by rw [mems_succ]; exact HO1.out, HB1.out⟩
      case measure => simp [intOf]; omega
    · obtain rfl : k = m := by omega
      obtain ⟨A1, c1, rfl, hc1⟩ := OwnRow.slice_ HR.out.2
      rw [hml.out] at HR ⊢
      have HS := Lib.hid (ST.new (R_flat HR.out) HB.out)
      clear hml hmle hc1 HR
      go_wp2_with (go_at_call 10; refine HS.out.mono ?_; rintro e w2 ⟨g, rfl, hst⟩; have H0 := Lib.hid hst; clear hst HS HB)
      go_loopw [8] (fun i wq => ∃ j : Nat, j ≤ N ∧ i = .int .i64 j ∧ Hid (ST w wq g [] (2 * j) (gt j) (.slice A1 k c1) (mems k))) (fun i _ => N - (intOf i).toNat)
      case atStart => exact ⟨0, Nat.zero_le _, rfl, H0.out.congr (fun s => by unfold gt; simp) rfl⟩
      case round =>
        obtain ⟨j, hj, rfl, HS⟩ := hrel
        have e1 := HN.out
        by_cases hlt : j < N
        · have hm1 : 0 ≤ (j : Int) % (k : Int) := Int.emod_nonneg _ (by omega)
          have hm2 : (j : Int) % (k : Int) < (k : Int) := Int.emod_lt_of_pos _ (by omega)
          have hlt' : (j : Int) < (k : Int) * (r : Int) := by rw [e1]; omega
          clear e1
          have hch := Lib.hid (choose_g HS.out (by omega) h1 h2)
          clear HS H0
          go_wp2_with (first
            | (go_at_call 12; refine hch.out.mono ?_; rintro e w3 ⟨rfl, hs3⟩; have hch2 := Lib.hid (choose_o hs3.out (by omega) h1 h2); have hrow := Kd.R_reads' hs3.out.row; obtain ⟨ad, hA1, hx0, hx1⟩ := at_T33 (n := k) (by have := hrow.2.2; rw [mems_len] at this; exact this) ((j : Int) % (k : Int)) hm1 hm2; subst hA1; rw [show ((j : Int) % (k : Int)).toNat = j % k by omega] at hx0; clear hx1 hrow hs3 hch)
            | (go_at_call 12; refine hch2.out.mono ?_; rintro e w4 ⟨s4, rfl, hs4⟩; clear hch2))
          go_roundw
          case rel => exact ⟨j + 1, by omega, by go_num, hs4.out⟩
          case measure => simp [intOf]; omega
        · obtain rfl : j = N := by omega
          have hT1 : Calls Try.prog 13 #[.pointer (some ⟨g, 0, none⟩), .string ⟨#[103]⟩] wr fun e w' => e = .returned (.int .i64 (j : Int)) ∧ wr = w' := (turn_calls HS.out.pk ⟨#[103]⟩ (by decide)).mono fun e w' ⟨he, hw⟩ => ⟨he, hw⟩
          have hT2 : Calls Try.prog 13 #[.pointer (some ⟨g, 0, none⟩), .string ⟨#[110, 111, 110, 101]⟩] wr fun e w' => e = .returned (.int .i64 0) ∧ wr = w' := (turn_calls HS.out.pk ⟨#[110, 111, 110, 101]⟩ (by decide)).mono fun e w' ⟨he, hw⟩ => ⟨he, hw⟩
          have T1 := Lib.hid hT1
          have T2 := Lib.hid hT2
          have hb := Lib.hid HS.out.below
          have hge : (k : Int) * (r : Int) ≤ (j : Int) := by rw [e1]; omega
          have heq : ((j : Int) == (k : Int) * (r : Int)) = true := by rw [e1]; simp
          clear hT1 hT2 HS e1 H0
          go_wp2_with (first
            | (go_at_call 13; refine T1.out.mono ?_; rintro e w6 ⟨rfl, rfl⟩; clear T1)
            | (go_at_call 13; refine T2.out.mono ?_; rintro e w7 ⟨rfl, rfl⟩))
          go_ret
          exact ⟨rfl, hb.out⟩
end Go.Proofs.Ytbcpodbihldfgaa
