/- The contract of (*share.Picks).Choose: who of a group is told. -/
import Derived.Test.YtbcpodbihldfgaaC
namespace Go.Proofs.Ytbcpodbihldfgaa
open Go.RowKit Go.Maps Go.Proofs.YtbcpodbihldfgaaW.PrintWords Go.Proofs.Ytbcpodbihldfgaa.PSharePlays
set_option linter.unusedVariables false

/-- The place that a number picks among k. -/
def chooseI (d : Int) (k : Nat) : Int := if d.tmod k < 0 then d.tmod k + k else d.tmod k
theorem tmod_bd (d : Int) (k : Nat) (hk : 0 < k) : -(k : Int) < d.tmod k ∧ d.tmod k < k := by
  have h := Int.tmod_lt_of_pos d (b := (k : Int)) (by omega)
  have h2 := Int.tmod_lt_of_pos (-d) (b := (k : Int)) (by omega)
  rw [Int.neg_tmod] at h2
  omega
theorem chooseI_bd (d : Int) (k : Nat) (hk : 0 < k) : 0 ≤ chooseI d k ∧ chooseI d k < k := by
  have := tmod_bd d k hk
  unfold chooseI
  split <;> omega

theorem thereL_len (l : List S33) : (thereL l).length ≤ l.length := by
  unfold thereL
  split
  · exact Nat.le_refl _
  · exact List.length_filter_le _ _

section
variable {w w0 w1 : World} {g n : Nat} {S : Nat → Prop} {wait : List Int} {G : List UInt8 → Int} {l : List S33} {A : Option Addr} {c : Nat}

def NonePost (w0 w : World) (g : Nat) (S : Nat → Prop) (wait : List Int) (n : Nat) (G : List UInt8 → Int) (e : Ending) (w' : World) : Prop :=
  e = .returned (.tuple #[.string ⟨#[]⟩, .bool false]) ∧ PK w' w0.heap.size g (fun k => S k ∨ w.heap.size ≤ k) wait n G ∧ Did w0 w w' S

theorem choose_none (hB : Below w0.heap.size w0 w) (h : PK w w0.heap.size g S wait n G) (s : ByteArray)
    (hr : ∀ W, Kept w W (fun k => S k ∧ k < w.heap.size) → Kd.C k33 W A l.length l) (hc : l.length ≤ c) (hl : l.length ≤ 1000) (h0 : (thereL l).length = 0) :
    Calls Try.prog 12 #[.pointer (some ⟨g, 0, none⟩), .string s, .slice A l.length c] w (NonePost w0 w g S wait n G) := by
  have hth := there_calls (T := fun k => S k ∧ k < w.heap.size) (fun _ hk => hk.2) hr hc hl
  have hfin : ∀ w1, Below w.heap.size w w1 → NonePost w0 w g S wait n G (.returned (.tuple #[.string ⟨#[]⟩, .bool false])) w1 := fun w1 hb =>
    ⟨rfl, (h.below hb).mono (fun _ hs _ => .inl hs), ⟨hB.trans (hb.mono hB.size), Kept.of_below hb _⟩⟩
  have hth' := Lib.hid hth
  have HF := Lib.hid hfin
  have H0 := Lib.hid h0
  clear hth hfin h hB hr h0
  go_enter Try.func12, Try.ntmps12
  go_wp2_with (first | (go_at_call 20; refine hth'.out.mono ?_; rintro e w1 ⟨A1, c1, rfl, hC1, hc1, hb1⟩; rw [H0.out]; have hf := Lib.hid (HF.out w1 hb1); clear hC1 hc1 hb1))
  go_ret2
  exact hf.out

def SomePost (w0 w : World) (g : Nat) (S : Nat → Prop) (wait : List Int) (n : Nat) (G : List UInt8 → Int) (s : List UInt8) (l : List S33) (e : Ending) (w' : World) : Prop :=
  e = .returned (.tuple #[.string (rd_T33 (thereL l) (chooseI (wait.headD (G s)) (thereL l).length)).f0, .bool true]) ∧
    PK w' w0.heap.size g (fun k => S k ∨ w.heap.size ≤ k) wait.tail (n + 1) (setG G s (G s + 1)) ∧ Did w0 w w' S

set_option maxHeartbeats 1000000 in
theorem choose_some (hB : Below w0.heap.size w0 w) (h : PK w w0.heap.size g S wait n G) (hn : n < 1000000) (s : ByteArray) (hs : s.size ≤ maxLen)
    (hr : ∀ W, Kept w W (fun k => S k ∧ k < w.heap.size) → Kd.C k33 W A l.length l) (hc : l.length ≤ c) (hl : l.length ≤ 1000) (h0 : 0 < (thereL l).length) :
    Calls Try.prog 12 #[.pointer (some ⟨g, 0, none⟩), .string s, .slice A l.length c] w (SomePost w0 w g S wait n G s.data.toList l) := by
  have hth := there_calls (T := fun k => S k ∧ k < w.heap.size) (fun _ hk => hk.2) hr hc hl
  have hle := Nat.le_trans (thereL_len l) hl
  obtain ⟨d, hd⟩ : ∃ d, d = wait.headD (G s.data.toList) := ⟨_, rfl⟩
  -- behind 'there': the number
  have hnx : ∀ w1, Below w.heap.size w w1 → Calls Try.prog 21 #[.pointer (some ⟨g, 0, none⟩), .string s] w1 fun e w2 => e = .returned (.int .i64 d) ∧ Hid (PK w2 w0.heap.size g (fun k => S k ∨ w.heap.size ≤ k) wait.tail (n + 1) (setG G s.data.toList (G s.data.toList + 1)) ∧ Did w0 w w2 S ∧ Kept w1 w2 (fun k => S k ∧ k < w.heap.size)) := by
    intro w1 hb
    have h' : PK w1 w0.heap.size g (fun k => S k ∧ k < w.heap.size) wait n G := (h.mono (fun k hs hl => ⟨hs, hl⟩)).below hb
    refine (next_calls (hB.trans (hb.mono hB.size)) h' hn s hs).mono ?_
    rintro e w2 ⟨rfl, hp, hdd⟩
    refine ⟨by rw [hd], hp.mono (fun k hk hl => ?_), ⟨hdd.below, ?_⟩, hdd.kept⟩
    · rcases hk with hk | hk
      · exact .inl hk.1
      · exact .inr (Nat.le_trans hb.size hk)
    · exact (Kept.of_below hb S).then_ hdd.kept (fun k hk => .inl hk.1)
  obtain ⟨k, hk⟩ : ∃ k, k = (thereL l).length := ⟨_, rfl⟩
  have htm := tmod_bd d k (by omega)
  have hci := chooseI_bd d k (by omega)
  have hfin : ∀ w2 x, x = (rd_T33 (thereL l) (chooseI d k)).f0 → (PK w2 w0.heap.size g (fun k => S k ∨ w.heap.size ≤ k) wait.tail (n + 1) (setG G s.data.toList (G s.data.toList + 1)) ∧ Did w0 w w2 S) →
      SomePost w0 w g S wait n G s.data.toList l (.returned (.tuple #[.string x, .bool true])) w2 := by
    rintro w2 x rfl hp
    exact ⟨by rw [hd, hk], hp.1, hp.2⟩
  have hth' := Lib.hid hth
  have HN := Lib.hid hnx
  have HF := Lib.hid hfin
  have HK := Lib.hid hk
  rw [← hk] at hle h0
  have t1 : -1000 ≤ d.tmod (k : Int) := by omega
  have t2 : d.tmod (k : Int) ≤ 1000 := by omega
  have t3 : -(k : Int) < d.tmod (k : Int) := htm.1
  have t4 : d.tmod (k : Int) < (k : Int) := htm.2
  have e0 : ((k : Int) == 0) = false := by rw [beq_eq_false_iff_ne]; omega
  clear hth hfin h hB hr hnx hd hk htm
  by_cases hneg : d.tmod (k : Int) < 0
  · have HI := Lib.hid (show chooseI d k = d.tmod (k : Int) + k by unfold chooseI; rw [if_pos hneg])
    go_enter Try.func12, Try.ntmps12
    go_wp2_with (first | (go_at_call 20; refine hth'.out.mono ?_; rintro e w1 ⟨A1, c1, rfl, hC1, hc1, hb1⟩; rw [← HK.out] at hC1 hc1 ⊢; have HC1 := Lib.hid hC1; have HB1 := Lib.hid hb1; clear hC1 hc1 hb1) | (go_at_call 21; refine (HN.out _ HB1.out).mono ?_; rintro e w2 ⟨rfl, hp⟩; obtain ⟨ad, rfl, hx0, hx1⟩ := at_T33 (n := k) (by have := HC1.out w2 hp.out.2.2; exact this) (chooseI d k) hci.1 hci.2; rw [HI.out] at hx0; clear hx1))
    go_ret2
    exact HF.out w2 _ (by rw [HI.out]) ⟨hp.out.1, hp.out.2.1⟩
  · have HI := Lib.hid (show chooseI d k = d.tmod (k : Int) by unfold chooseI; rw [if_neg hneg])
    go_enter Try.func12, Try.ntmps12
    go_wp2_with (first | (go_at_call 20; refine hth'.out.mono ?_; rintro e w1 ⟨A1, c1, rfl, hC1, hc1, hb1⟩; rw [← HK.out] at hC1 hc1 ⊢; have HC1 := Lib.hid hC1; have HB1 := Lib.hid hb1; clear hC1 hc1 hb1) | (go_at_call 21; refine (HN.out _ HB1.out).mono ?_; rintro e w2 ⟨rfl, hp⟩; obtain ⟨ad, rfl, hx0, hx1⟩ := at_T33 (n := k) (by have := HC1.out w2 hp.out.2.2; exact this) (chooseI d k) hci.1 hci.2; rw [HI.out] at hx0; clear hx1))
    go_ret2
    exact HF.out w2 _ (by rw [HI.out]) ⟨hp.out.1, hp.out.2.1⟩
end
end Go.Proofs.Ytbcpodbihldfgaa
