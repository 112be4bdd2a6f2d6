/- The contract of the reference's Choose. -/
import Derived.Test.YtbcpodbihldfgaaS
import Derived.Test.YtbcpodbihldfgaaT
import Derived.Deep.RegionHeld3
namespace Go.Proofs.Ytbcpodbihldfgaa
open Go.RowKit Go.Maps Go.Proofs.YtbcpodbihldfgaaW.PrintWords Go.Proofs.Ytbcpodbihldfgaa.PSharePlays
set_option linter.unusedVariables false

theorem int_at {w : World} {A : Option Addr} {n : Nat} {xs : List Int} (h : Kd.C (Kd.int .i64) w A n xs) (i : Nat) (hi : i < n) : ∃ ad, A = some ad ∧ w.cell? (ad.add i) = some (.int .i64 (xs.getD i 0)) := by
  obtain ⟨ad, cs, e, _, hK, hc⟩ := Kd.C_get h 0 (i : Int) (by omega) (by omega)
  have hK' : cs = [.int .i64 (xs.getD (i : Int).toNat 0)] := hK
  subst hK'
  have := hc 0 _ rfl
  rw [Int.toNat_natCast, show (Kd.int .i64).sz = 1 from rfl, Nat.mul_one, Nat.add_zero] at this
  exact ⟨ad, e, this⟩
theorem among_mem (T : List S57) (x : Int) (h : x ∈ amongL T) : ∃ i : Nat, x = i ∧ i < T.length := by
  unfold amongL at h
  split at h
  · unfold onI at h
    obtain ⟨i, hi, rfl⟩ := List.mem_map.1 h
    exact ⟨i, rfl, List.mem_range.1 (List.mem_filter.1 hi).1⟩
  · unfold allI at h
    obtain ⟨i, hi, rfl⟩ := List.mem_map.1 h
    exact ⟨i, rfl, List.mem_range.1 hi⟩
theorem among_len (T : List S57) : (amongL T).length ≤ T.length := by
  unfold amongL
  split
  · exact onI_le T _
  · rw [allI_len]; exact Nat.le_refl _
theorem among_pos (T : List S57) (h : 0 < T.length) : 0 < (amongL T).length := by
  unfold amongL
  split
  · assumption
  · rw [allI_len]; exact h
theorem tmod2 (d : Int) (k : Nat) (hk : 0 < k) : (d.tmod (k : Int) + (k : Int)) % (k : Int) = ((chooseI d k).toNat : Int) := by
  have h1 := tmod_bd d k hk
  have h2 := chooseI_bd d k hk
  rw [Int.toNat_of_nonneg h2.1]
  unfold chooseI
  split
  · rw [Int.emod_eq_of_lt (by omega) (by omega)]
  · rw [Int.add_emod_right, Int.emod_eq_of_lt (by omega) (by omega)]

/-- Who is chosen, as the reference says. -/
def rPick (T : List S57) (d : Int) : ByteArray := (rd_T57 T ((amongL T).getD (chooseI d (amongL T).length).toNat 0)).f0

/-- What it leaves: the numbers that wait, cut; the list of turns, new. -/
structure RC (w w' : World) (A1 : Option Addr) (c1 : Nat) (wait : List Int) (L : List S64) (g : ByteArray) (q : Int) (V1 V2 : Value) : Prop where
  wv : ∃ A c, V1 = .slice A wait.tail.length c ∧ wait.tail.length ≤ c ∧ ∀ W, Kd.C (Kd.int .i64) W A1 wait.length wait → Kd.C (Kd.int .i64) W A wait.tail.length wait.tail
  row : Kd.R k64 64 w' w.heap.size (fun _ => True) V2 (forgetL L g ++ [⟨g, q + 1⟩])
  below : Below w.heap.size w w'

def RNone (w : World) (V : Value) (e : Ending) (w' : World) : Prop := e = .returned (.tuple #[V, .string ⟨#[]⟩, .bool false]) ∧ Below w.heap.size w w'
def RSome (w : World) (A1 : Option Addr) (c1 : Nat) (wait : List Int) (L : List S64) (g : ByteArray) (T : List S57) (e : Ending) (w' : World) : Prop :=
  ∃ V1 V2, e = .returned (.tuple #[.agg #[V1, V2], .string (rPick T (wait.headD (askedL L g))), .bool true]) ∧ RC w w' A1 c1 wait L g (askedL L g) V1 V2

set_option maxHeartbeats 2000000 in
theorem rchoose_none {w : World} {A1 A2 A3 : Option Addr} {c1 c2 c3 n1 n2 : Nat} {T : List S57} (g : ByteArray) (hT : Kd.C k57 w A3 T.length T) (hc3 : T.length ≤ c3) (h0 : T.length = 0) :
    Calls Try.prog 16 #[.agg #[.slice A1 n1 c1, .slice A2 n2 c2], .string g, .slice A3 T.length c3] w (RNone w (.agg #[.slice A1 n1 c1, .slice A2 n2 c2])) := by
  have hu47 := Try.underlying47
  have hT' := Lib.hid hT
  have h0' := Lib.hid (show (amongL T).length = 0 by have := among_len T; omega)
  have hl : T.length ≤ 1000 := by omega
  clear hT h0
  go_enter Try.func16, Try.ntmps16
  go_wp2_with (go_at_call 22; obtain ⟨W, b0, b1, hW, h1, h0, k0, k1, hbW, hne, hge, hge1⟩ := two_boxes w #[.slice A1 n1 c1, .slice A2 n2 c2] #[.slice none 0 0, .slice none 0 0]; rw [hW, h1, h0]; refine (among_calls (Kd.C_below hT'.out hbW) hc3 hl).mono ?_; rintro e w1 ⟨v, rfl, hh⟩; obtain ⟨A4, c4, rfl, hc4⟩ := OwnRow.slice_ hh.out.1.2; rw [h0'.out]; have j0 := blk_below k0 hh.out.2; have j1 := blk_below k1 hh.out.2; have x0 : w1.cell? ⟨b0, 0, none⟩ = some (.slice A1 n1 c1) := (blk_cell j0 0).trans rfl; have x1 : w1.cell? ⟨b0, 1, none⟩ = some (.slice A2 n2 c2) := (blk_cell j0 1).trans rfl; have y0 : w1.cell? ⟨b1, 0, none⟩ = some (.slice none 0 0) := (blk_cell j1 0).trans rfl; have y1 : w1.cell? ⟨b1, 1, none⟩ = some (.slice none 0 0) := (blk_cell j1 1).trans rfl; have f1 : w1.frozen? ⟨b1, 0, none⟩ = false := blk_frozen j1 0; have f2 : w1.frozen? ⟨b1, 1, none⟩ = false := blk_frozen j1 1; have HB := Lib.hid (hbW.trans (hh.out.2.mono hbW.size)); clear hW h1 h0 k0 k1 j0 j1 hbW hc4 hh)
  refine bodyPost_ret (v := .tuple #[.agg #[.slice A1 n1 c1, .slice A2 n2 c2], .string ⟨#[]⟩, .bool false]) (by simp [results, Try.results16, go_sem, y0, y1]) rfl ⟨rfl, ?_⟩
  exact (HB.out.setCell hge1 _).setCell hge1 _
end Go.Proofs.Ytbcpodbihldfgaa
