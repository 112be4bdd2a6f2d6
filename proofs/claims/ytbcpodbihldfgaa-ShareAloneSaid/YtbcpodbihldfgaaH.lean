/- ShareAlone: who alone is there is always chosen: the walk. -/
import Derived.Test.YtbcpodbihldfgaaF
namespace Go.Proofs.Ytbcpodbihldfgaa
open Go.RowKit Go.Maps Go.Proofs.YtbcpodbihldfgaaW.PrintWords Go.Proofs.Ytbcpodbihldfgaa.PSharePlays
set_option linter.unusedVariables false

def memsW (q k : Nat) : List S33 := (List.range k).map fun i => ⟨letter i, (i : Int) == (q : Int)⟩
theorem memsW_len (q k : Nat) : (memsW q k).length = k := by simp [memsW]
theorem memsW_succ (q k : Nat) : memsW q (k + 1) = memsW q k ++ [⟨Utf8.encode (97 + (k : Int)), (k : Int) == (q : Int)⟩] := by simp [memsW, List.range_succ, letter]
theorem memsW_at (q k i : Nat) (h : i < k) : rd_T33 (memsW q k) (i : Int) = ⟨letter i, (i : Int) == (q : Int)⟩ := by
  unfold rd_T33 memsW
  rw [Int.toNat_natCast, List.getD_eq_getElem?_getD, List.getElem?_map, List.getElem?_range h]
  rfl
theorem onW (q k : Nat) : onL (memsW q k) = if q < k then [⟨letter q, true⟩] else [] := by
  induction k with
  | zero => rfl
  | succ k ih =>
    rw [memsW_succ]
    have : onL (memsW q k ++ [⟨Utf8.encode (97 + (k : Int)), (k : Int) == (q : Int)⟩]) = onL (memsW q k) ++ onL [⟨Utf8.encode (97 + (k : Int)), (k : Int) == (q : Int)⟩] := by simp [onL]
    rw [this, ih]
    by_cases h : k = q
    · subst h
      simp [onL, letter]
    · have h1 : ((k : Int) == (q : Int)) = false := by rw [beq_eq_false_iff_ne]; omega
      have h2 : onL [⟨Utf8.encode (97 + (k : Int)), (k : Int) == (q : Int)⟩] = [] := by simp [onL, h1]
      rw [h2, List.append_nil]
      by_cases h3 : q < k
      · rw [if_pos h3, if_pos (by omega)]
      · rw [if_neg h3, if_neg (by omega)]
theorem thereW (q k : Nat) (h : q < k) : thereL (memsW q k) = [⟨letter q, true⟩] := by
  unfold thereL
  rw [onW, if_pos h]
  rfl
theorem pickW (wait : List Int) (G : List UInt8 → Int) (s : List UInt8) (q k : Nat) (h : q < k) : pickS wait G s (memsW q k) = letter q := by
  unfold pickS
  rw [thereW q k h]
  have e : chooseI (wait.headD (G s)) [(⟨letter q, true⟩ : S33)].length = 0 := by
    unfold chooseI
    simp
  rw [e]
  simp [rd_T33]

/-- How often g was asked. -/
def ga (j : Nat) : List UInt8 → Int := fun s => if s = [103] then j else 0
theorem ga_step (j : Nat) (s : List UInt8) : setG (ga j) [103] (ga j [103] + 1) s = ga (j + 1) s := by
  have e1 : ga j [103] = j := rfl
  rw [e1]
  unfold setG ga
  split <;> simp

theorem alone_choose {w0 w : World} {g m q j : Nat} {x : Int} {A : Option Addr} {c : Nat} (h : ST w0 w g [x] j (ga j) (.slice A m c) (memsW q m)) (hi : j ≤ 400) (hq : q < m) (hm2 : m ≤ 20) :
    Calls Try.prog 12 #[.pointer (some ⟨g, 0, none⟩), .string ⟨#[103]⟩, .slice A m c] w fun e w' => e = .returned (.tuple #[.string (letter q), .bool true]) ∧ Hid (ST w0 w' g [] (j + 1) (ga (j + 1)) (.slice A m c) (memsW q m)) := by
  have hl := memsW_len q m
  have h' : ST w0 w g [x] j (ga j) (.slice A (memsW q m).length c) (memsW q m) := by rw [hl]; exact h
  have := h'.choose (by omega) (by omega) (by omega) ⟨#[103]⟩ (by decide)
  rw [hl] at this
  refine this.mono fun e w' ⟨he, hs⟩ => ⟨?_, hs.congr (ga_step j) rfl⟩
  rw [he, pickW _ _ _ _ _ hq]
theorem alone_push {w0 w : World} {g m q j : Nat} {A : Option Addr} {c : Nat} (x : Int) (h : ST w0 w g [] j (ga j) (.slice A m c) (memsW q m)) :
    Calls Try.prog 11 #[.pointer (some ⟨g, 0, none⟩), .int .i64 x] w fun e w' => e = .returned (.int .i64 0) ∧ Hid (ST w0 w' g [x] j (ga j) (.slice A m c) (memsW q m)) :=
  (h.push (by decide) x).mono fun e w' ⟨he, hs⟩ => ⟨he, hs⟩

set_option maxHeartbeats 2000000 in
theorem alone_walk (m : Nat) (who : Int) (h1 : 1 ≤ m) (h2 : m ≤ 10) (w : World) (A : Option Addr) (cp : Nat) (zs : List Int) (hr : ReadsInt w .i64 A zs.length zs) (hcp : zs.length ≤ cp) (hz : zs.length ≤ 1000000000000000) :
    Calls Try.prog 5 #[.int .i64 m, .int .i64 who, .slice A zs.length cp] w fun e w' => e = .returned (.bool true) ∧ Below w.heap.size w w' := by
  have haw := Lib.hid (awake_calls w)
  have HZ := Lib.hid hr
  have htm := tmod_bd who m (by omega)
  have t1 : -10 ≤ who.tmod (m : Int) := by omega
  have t2 : who.tmod (m : Int) ≤ 10 := by omega
  have t3 : 0 ≤ who.tmod (m : Int) + (m : Int) := by omega
  have t4 := htm.1
  have t5 := htm.2
  have t6 := Int.emod_nonneg (who.tmod (m : Int) + (m : Int)) (b := (m : Int)) (by omega)
  have t7 := Int.emod_lt_of_pos (who.tmod (m : Int) + (m : Int)) (b := (m : Int)) (by omega)
  obtain ⟨q, hq⟩ := Int.eq_ofNat_of_zero_le t6
  have hqm : q < m := by omega
  clear t6 t7 htm hr
  go_enter Try.func5, Try.ntmps5
  go_wp2_with (first
    | (go_at_call 9; refine haw.out.mono ?_; rintro e w1 ⟨rfl, hb⟩; have HB := Lib.hid hb; clear hb haw)
    | ((with_reducible refine gate_dst (N := 31) rfl ?_); refine Kd.R_lit k33 (w0 := w) w.heap.size 33 ?hg (N := 31) ?hd (xs := ([] : List S33)) (inner := []) (ok := fun _ => True) (okp := fun _ => True) ?hr ?hp (fun _ hk => hk) trivial (HB.out) (HB.out.size) (by simp) ?_; (case hd => rfl); (case hg => rfl); (case hr => first | (go_simp; done) | (go_simp; rfl)); (case hp => exact (Reps.none _ _)); intro v1 w2 hq bh hg_ hnew_; obtain ⟨A1, c1, rfl, hc1⟩ := OwnRow.slice_ hq.2; have HO := Lib.hid hq; have HB2 := Lib.hid bh; clear hq bh hg_ hnew_ HB))
  have Hq := Lib.hid hq
  clear hq
  go_loopw [7, 8] (fun v i wr => ∃ k : Nat, k ≤ m ∧ i = .int .i64 k ∧ Hid (Kd.R k33 33 wr w.heap.size (fun _ => True) v (memsW q k)) ∧ Hid (Below w.heap.size w wr)) (fun _ i _ => m - (intOf i).toNat)
  case atStart => exact ⟨0, Nat.zero_le _, rfl, HO.out, HB2.out⟩
  case round =>
    clear HO HB2
    obtain ⟨k, hk, rfl, HR, HB⟩ := hrel
    have hml := Lib.hid (memsW_len q k)
    have hmle : (memsW q k).length ≤ 20 := by rw [memsW_len]; omega
    by_cases hlt : k < m
    · go_wp2_with (at_builtin; refine Kd.R_append k33 (w0 := w) w.heap.size rfl (.tmp 37) (.tmp 46) 22 33 (.agg #[(.string ⟨#[]⟩), (.bool false)]) 24 rfl Try.underlying22 info33 rfl (by decide) (by omega) u7 (memsW q k) ⟨Utf8.encode (97 + (k : Int)), (k : Int) == (q : Int)⟩ [.string (Utf8.encode (97 + (k : Int))), .bool ((k : Int) == (q : Int))] (fun _ => True) (fun _ => False) rfl (by first | (go_simp; done) | (go_simp; rfl)) ?aP (fun _ hk => hk.elim) ?aF ?aO ?aB ?aS ?aL ?_; (case aP => exact k33_mk2 _ _ _ _ _); (case aF => exact fun _ _ => trivial); (case aO => exact HR.out); (case aB => exact HB.out); (case aS => exact HB.out.size); (case aL => omega); intro v1 w1 hq1 hb1 hgr1 hat1; have HO1 := Lib.hid hq1; have HB1 := Lib.hid hb1; clear hq1 hb1 hgr1 hat1)
      go_roundw
      case rel => exact ⟨k + 1, by omega, by go_num, by rw [memsW_succ]; exact HO1.out, HB1.out⟩
      case measure => simp [intOf]; omega
    · obtain rfl : k = m := by omega
      obtain ⟨A1, c1, rfl, hc1⟩ := OwnRow.slice_ HR.out.2
      rw [hml.out] at HR ⊢
      have HS := Lib.hid (ST.new (R_flat HR.out) HB.out)
      clear hml hmle hc1 HR
      go_wp2_with (go_at_call 10; refine HS.out.mono ?_; rintro e w2 ⟨g, rfl, hst⟩; have H0 := Lib.hid hst; clear hst HS HB)
      go_loopw [10] (fun i wq => ∃ j : Nat, j ≤ zs.length ∧ j ≤ 30 ∧ i = .int .i64 j ∧ Hid (ST w wq g [] j (ga j) (.slice A1 k c1) (memsW q k))) (fun i _ => zs.length - (intOf i).toNat)
      case atStart => exact ⟨0, Nat.zero_le _, by omega, rfl, H0.out.congr (fun s => by unfold ga; simp) rfl⟩
      case round =>
        obtain ⟨j, hj, hj30, rfl, HS⟩ := hrel
        clear H0
        by_cases hlt : j < zs.length ∧ j < 30
        · obtain ⟨hlt, hlt30⟩ := hlt
          obtain ⟨ad, rfl, hx⟩ := HZ.out.at_ (j : Int) (by omega) (by omega)
          rw [Int.toNat_natCast] at hx
          replace hx := (HS.out.below.cell (World.block_lt_of_cell? w _ hx)).trans hx
          generalize rd zs (j : Int) = x at hx
          have hpu := Lib.hid (alone_push x HS.out)
          clear HS
          go_wp2_with (first
            | (go_at_call 11; refine hpu.out.mono ?_; rintro e w3 ⟨rfl, hs3⟩; have hch := Lib.hid (alone_choose hs3.out (by omega) hqm (by omega)); clear hs3 hpu)
            | (go_at_call 12; refine hch.out.mono ?_; rintro e w4 ⟨rfl, hs4⟩; have hrow := Kd.R_reads' hs4.out.row; obtain ⟨ad1, hA1, hx0, hx1⟩ := at_T33 (n := k) (by have := hrow.2.2; rw [memsW_len] at this; exact this) (q : Int) (by omega) (by omega); subst hA1; rw [memsW_at _ _ _ hqm, Int.toNat_natCast] at hx0; clear hx1 hrow hch))
          go_roundw
          case rel => exact ⟨j + 1, by omega, by omega, by go_num, hs4.out⟩
          case measure => simp [intOf]; omega
        · have hle := Lib.hid (len_calls HS.out.pk)
          have hb := Lib.hid HS.out.below
          clear HS
          by_cases h3 : j < zs.length
          · have h4 : 30 ≤ j := by omega
            go_wp2_with (go_at_call 14; refine hle.out.mono ?_; rintro e w6 ⟨rfl, rfl⟩)
            go_ret
            exact ⟨rfl, hb.out⟩
          · have h4 : zs.length ≤ j := by omega
            go_wp2_with (go_at_call 14; refine hle.out.mono ?_; rintro e w6 ⟨rfl, rfl⟩)
            go_ret
            exact ⟨rfl, hb.out⟩
end Go.Proofs.Ytbcpodbihldfgaa
