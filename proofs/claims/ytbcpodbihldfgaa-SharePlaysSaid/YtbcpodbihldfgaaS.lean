/- The contracts of the reference's Asked, Forget and among. -/
import Derived.Test.YtbcpodbihldfgaaJ
namespace Go.Proofs.Ytbcpodbihldfgaa
open Go.RowKit Go.Maps Go.Proofs.YtbcpodbihldfgaaW.PrintWords Go.Proofs.Ytbcpodbihldfgaa.PSharePlays
set_option linter.unusedVariables false

theorem bs_eq {a b : ByteArray} : a.toList = b.toList ↔ a = b := by
  rw [ByteArray.toList_eq, ByteArray.toList_eq]
  constructor
  · intro h
    cases a; cases b
    congr 1
    exact Array.toList_inj.1 h
  · rintro rfl
    rfl

/-- How often a group was asked, of a list of turns. -/
def askedL : List S64 → ByteArray → Int
  | [], _ => 0
  | t :: r, g => if t.f0 = g then t.f1 else askedL r g
theorem asked_skip (L : List S64) (g : ByteArray) (k : Nat) (hk : k < L.length) (hn : ∀ j, j < k → (rd_T64 L j).f0 ≠ g) (he : (rd_T64 L k).f0 = g) : askedL L g = (rd_T64 L k).f1 := by
  induction L generalizing k with
  | nil => simp at hk
  | cons t r ih =>
    unfold askedL
    cases k with
    | zero =>
      have e : rd_T64 (t :: r) ((0 : Nat) : Int) = t := rfl
      rw [e] at he ⊢
      rw [if_pos he]
    | succ k =>
      have e : ∀ j : Nat, rd_T64 (t :: r) ((j + 1 : Nat) : Int) = rd_T64 r (j : Int) := fun j => by unfold rd_T64; rw [Int.toNat_natCast, Int.toNat_natCast]; rfl
      have h0 := hn 0 (by omega)
      have e0 : rd_T64 (t :: r) ((0 : Nat) : Int) = t := rfl
      rw [e0] at h0
      rw [if_neg h0, e]
      rw [e] at he
      exact ih k (by simpa using hk) (fun j hj => by have := hn (j + 1) (by omega); rwa [e] at this) he
theorem asked_none (L : List S64) (g : ByteArray) (hn : ∀ j, j < L.length → (rd_T64 L j).f0 ≠ g) : askedL L g = 0 := by
  induction L with
  | nil => rfl
  | cons t r ih =>
    unfold askedL
    have e : ∀ j : Nat, rd_T64 (t :: r) ((j + 1 : Nat) : Int) = rd_T64 r (j : Int) := fun j => by unfold rd_T64; rw [Int.toNat_natCast, Int.toNat_natCast]; rfl
    have h0 := hn 0 (by simp)
    have e0 : rd_T64 (t :: r) ((0 : Nat) : Int) = t := rfl
    rw [e0] at h0
    rw [if_neg h0]
    exact ih (fun j hj => by have := hn (j + 1) (by simpa using hj); rwa [e] at this)

theorem asked_calls {w : World} {V : Value} {n : Nat} {A : Option Addr} {c c1 : Nat} {A1 : Option Addr} {L : List S64} (g : ByteArray) (hr : Kd.C k64 w A L.length L) (hl : L.length ≤ 1000) :
    Calls Try.prog 19 #[.agg #[.slice A1 n c1, .slice A L.length c], .string g] w fun e w' => e = .returned (.int .i64 (askedL L g)) ∧ Below w.heap.size w w' := by
  have hu47 := Try.underlying47
  have HR := Lib.hid hr
  clear hr
  go_enter Try.func19, Try.ntmps19
  go_wp2
  go_loopw [10] (fun i wr => ∃ k : Nat, k ≤ L.length ∧ i = .int .i64 k ∧ Hid (∀ j, j < k → (rd_T64 L j).f0 ≠ g) ∧ Hid (Below w.heap.size w wr)) (fun i _ => L.length - (intOf i).toNat)
  case atStart => exact ⟨0, Nat.zero_le _, rfl, fun j hj => by omega, (Below.refl _ _).alloc (Nat.le_refl _) _⟩
  case round =>
    obtain ⟨k, hk, rfl, HN, HB⟩ := hrel
    by_cases hlt : k < L.length
    · obtain ⟨ad, rfl, hx0, hx1⟩ := at_T64 HR.out (k : Int) (by omega) (by omega)
      rw [Int.toNat_natCast] at hx0 hx1
      replace hx0 := (HB.out.cell (World.block_lt_of_cell? w _ hx0)).trans hx0
      replace hx1 := (HB.out.cell (World.block_lt_of_cell? w _ hx1)).trans hx1
      have hsk := asked_skip L g k hlt HN.out
      generalize hp : rd_T64 L (k : Int) = p at hx0 hx1 hsk
      have HP := Lib.hid hp
      have HSK := Lib.hid hsk
      clear hp hsk
      obtain ⟨p0, p1⟩ := p
      simp only at hx0 hx1
      by_cases he : p0 = g
      · have e1 : (p0.toList == g.toList) = true := by rw [he]; exact beq_self_eq_true _
        have hf := Lib.hid (HSK.out he)
        clear he HSK
        go_wp2
        go_ret
        exact ⟨by rw [hf.out]; rfl, HB.out.alloc HB.out.size _⟩
      · have e1 : (p0.toList == g.toList) = false := beq_eq_false_iff_ne.2 (fun h => he (bs_eq.1 h))
        have HE := Lib.hid he
        clear he HSK
        go_wp2
        go_roundw
        case rel =>
          refine ⟨k + 1, by omega, by go_num, fun j hj => ?_, HB.out.alloc HB.out.size _⟩
          by_cases hjk : j = k
          · subst hjk; rw [HP.out]; exact HE.out
          · exact HN.out j (by omega)
        case measure => simp [intOf]; omega
    · obtain rfl : k = L.length := by omega
      have hf := Lib.hid (asked_none L g HN.out)
      clear HN
      go_wp2
      go_ret
      exact ⟨by rw [hf.out]; rfl, HB.out⟩

/-- Without a group. -/
def forgetL (L : List S64) (g : ByteArray) : List S64 := L.filter (fun t => !(t.f0.toList == g.toList))
theorem forget_snoc (L : List S64) (g : ByteArray) (k : Nat) (h : k < L.length) : forgetL (L.take (k + 1)) g = forgetL (L.take k) g ++ (if ((rd_T64 L k).f0.toList == g.toList) = true then [] else [rd_T64 L k]) := by
  unfold forgetL rd_T64
  rw [List.take_succ_eq_append_getElem h, List.filter_append, Int.toNat_natCast, List.getD_eq_getElem?_getD, List.getElem?_eq_getElem h]
  simp only [List.filter_cons, List.filter_nil, Option.getD_some]
  congr 1
  cases (L[k].f0.toList == g.toList) <;> rfl
theorem forget_le (L : List S64) (g : ByteArray) (k : Nat) : (forgetL (L.take k) g).length ≤ L.length := by
  unfold forgetL
  exact Nat.le_trans (List.length_filter_le _ _) (by rw [List.length_take]; omega)
theorem k64_mk2 (w : World) (base : Nat) (ok : Nat → Prop) (a : ByteArray) (b : Int) : k64.M w base ok ⟨a, b⟩ [.string a, .int .i64 b] := k64_mkM w base ok ⟨a, b⟩

theorem two_boxes (w : World) (c0 c1 : Array Value) : ∃ W b0 b1, (w.alloc (.cells c0 47)).alloc (.cells c1 47) = W ∧ w.heap.size + 1 = b1 ∧ w.heap.size = b0 ∧ W.heap[b0]? = some (.cells c0 47 (0, 0)) ∧ W.heap[b1]? = some (.cells c1 47 (0, 0)) ∧ Below w.heap.size w W ∧ b0 ≠ b1 ∧ w.heap.size ≤ b0 ∧ w.heap.size ≤ b1 := by
  refine ⟨_, _, _, rfl, rfl, rfl, (Below.heap_alloc _ _ _ (by simp)).trans (heap_alloc_new w _), ?_, ((Below.refl _ _).alloc (Nat.le_refl _) _).alloc (by simp) _, by omega, Nat.le_refl _, by omega⟩
  have := heap_alloc_new (w.alloc (.cells c0 47)) (.cells c1 47)
  simpa using this
theorem blk_below {W wr : World} {b : Nat} {o : Obj} (h : W.heap[b]? = some o) (hb : Below W.heap.size W wr) : wr.heap[b]? = some o := (hb.block b (blk_lt h)).trans h

def RForgetPost (w : World) (A1 : Option Addr) (n c1 : Nat) (L : List S64) (g : ByteArray) (e : Ending) (w' : World) : Prop :=
  ∃ v, e = .returned (.agg #[.slice A1 n c1, v]) ∧ Kd.R k64 64 w' w.heap.size (fun _ => True) v (forgetL L g) ∧ Below w.heap.size w w'

set_option maxHeartbeats 2000000 in
theorem rforget_calls {w : World} {n : Nat} {A : Option Addr} {c c1 : Nat} {A1 : Option Addr} {L : List S64} (g : ByteArray) (hr : Kd.C k64 w A L.length L) (hl : L.length ≤ 1000) :
    Calls Try.prog 18 #[.agg #[.slice A1 n c1, .slice A L.length c], .string g] w (RForgetPost w A1 n c1 L g) := by
  have hu47 := Try.underlying47
  have HR := Lib.hid hr
  clear hr
  go_enter Try.func18, Try.ntmps18
  go_wp2_with ((with_reducible refine gate_dst (N := 8) rfl ?_); obtain ⟨W, b0, b1, hW, h1, h0, k0, k1, hbW, hne, hge, hge1⟩ := two_boxes w #[.slice A1 n c1, .slice A L.length c] #[.slice none 0 0, .slice none 0 0]; rw [hW, h1, h0]; refine Kd.R_lit k64 (w0 := W) W.heap.size 64 ?hg (N := 8) ?hd (xs := ([] : List S64)) (inner := []) (ok := fun _ => True) (okp := fun _ => True) ?hr ?hp (fun _ hk => hk) trivial (Below.refl _ _) (Nat.le_refl _) (by simp) ?_; (case hd => rfl); (case hg => rfl); (case hr => first | (go_simp; done) | (go_simp; rfl)); (case hp => exact (Reps.none _ _)); intro v1 w2 hq bh hg_ hnew_; obtain ⟨A3, c3, rfl, hc3⟩ := OwnRow.slice_ hq.2; have HO := Lib.hid hq; have HB := Lib.hid bh; have x0 : w2.cell? ⟨b0, 1, none⟩ = some (.slice A L.length c) := (blk_cell (blk_below k0 bh) 1).trans rfl; have K0 := Lib.hid k0; have K1 := Lib.hid k1; have HBW := Lib.hid hbW; clear hW h1 h0 k0 k1 hbW hq bh hg_ hnew_)
  go_loopw [5, 12] (fun v i wr => ∃ k : Nat, k ≤ L.length ∧ i = .int .i64 k ∧ Hid (Kd.R k64 64 wr W.heap.size (fun _ => True) v (forgetL (L.take k) g)) ∧ Hid (Below W.heap.size W wr)) (fun _ i _ => L.length - (intOf i).toNat)
  case atStart => exact ⟨0, Nat.zero_le _, rfl, HO.out, HB.out⟩
  case round =>
    clear HO HB x0
    obtain ⟨k, hk, rfl, HO, HB⟩ := hrel
    by_cases hlt : k < L.length
    · obtain ⟨ad, rfl, hx0, hx1⟩ := at_T64 HR.out (k : Int) (by omega) (by omega)
      rw [Int.toNat_natCast] at hx0 hx1
      have hb2 := HBW.out.trans (HB.out.mono HBW.out.size)
      replace hx0 := (hb2.cell (World.block_lt_of_cell? w _ hx0)).trans hx0
      replace hx1 := (hb2.cell (World.block_lt_of_cell? w _ hx1)).trans hx1
      have hle := forget_le L g k
      have HS := Lib.hid (forget_snoc L g k hlt)
      clear hb2
      generalize hp : rd_T64 L (k : Int) = p at hx0 hx1 HS
      have HP := Lib.hid hp
      clear hp
      obtain ⟨p0, p1⟩ := p
      simp only at hx0 hx1
      by_cases he : (p0.toList == g.toList) = true
      · go_wp2
        have HE := Lib.hid he
        clear he
        go_roundw
        case rel => exact ⟨k + 1, by omega, by go_num, by rw [HS.out, if_pos HE.out, List.append_nil]; exact Kd.R_alloc HO.out _, HB.out.alloc HB.out.size _⟩
        case measure => simp [intOf]; omega
      · replace he : (p0.toList == g.toList) = false := by simpa using he
        go_wp2_with (at_builtin; refine Kd.R_append k64 (w0 := W) W.heap.size rfl (.tmp 20) (.tmp 22) 45 64 (.agg #[(.string ⟨#[]⟩), (.int .i64 0)]) 24 rfl Try.underlying45 info64 rfl (by decide) (by omega) u5 (forgetL (L.take k) g) ⟨p0, p1⟩ [.string p0, .int .i64 p1] (fun _ => True) (fun _ => False) rfl (by first | (go_simp; done) | (go_simp; rfl)) ?aP (fun _ hk => hk.elim) ?aF ?aO ?aB ?aS ?aL ?_; (case aP => exact k64_mk2 _ _ _ _ _); (case aF => exact fun _ _ => trivial); (case aO => exact Kd.R_alloc HO.out _); (case aB => exact HB.out.alloc HB.out.size _); (case aS => have := HB.out.size; simp; omega); (case aL => omega); intro v1 w1 hq1 hb1 hgr1 hat1; have HO1 := Lib.hid hq1; have HB1 := Lib.hid hb1; clear hq1 hb1 hgr1 hat1)
        have HE := Lib.hid he
        clear he
        go_roundw
        case rel => exact ⟨k + 1, by omega, by go_num, by rw [HS.out, if_neg (by rw [HE.out]; simp)]; exact HO1.out, HB1.out⟩
        case measure => simp [intOf]; omega
    · obtain rfl : k = L.length := by omega
      rw [List.take_length] at HO
      obtain ⟨A5, c5, rfl, hc5⟩ := OwnRow.slice_ HO.out.2
      have x0 : wr.cell? ⟨b0, 0, none⟩ = some (.slice A1 n c1) := (blk_cell (blk_below K0.out HB.out) 0).trans rfl
      have y0 : wr.cell? ⟨b1, 0, none⟩ = some (.slice none 0 0) := (blk_cell (blk_below K1.out HB.out) 0).trans rfl
      have y1 : wr.cell? ⟨b1, 1, none⟩ = some (.slice none 0 0) := (blk_cell (blk_below K1.out HB.out) 1).trans rfl
      have f1 : wr.frozen? ⟨b1, 0, none⟩ = false := blk_frozen (blk_below K1.out HB.out) 0
      have f2 : wr.frozen? ⟨b1, 1, none⟩ = false := blk_frozen (blk_below K1.out HB.out) 1
      go_wp2
      refine bodyPost_ret (v := .agg #[.slice A1 n c1, .slice A5 (forgetL L g).length c5]) (by simp [results, Try.results18, go_sem, y0, y1]) rfl ⟨_, rfl, ?_, ?_⟩
      · have hn1 : b1 < W.heap.size := blk_lt K1.out
        have hq := Kd.R_bound HO.out
        have hq2 := Kd.R_far (p := ⟨b1, 1, none⟩) (Kd.R_far (p := ⟨b1, 0, none⟩) hq (fun k hk e => by have h1 := hk.2.1; simp only at e; omega) (.slice A1 n c1)) (fun k hk e => by have h1 := hk.2.1; simp only at e; omega) (.slice A5 (forgetL L g).length c5)
        exact Kd.R_mono (Kd.R_lower hq2 HBW.out.size) (fun _ _ => trivial)
      · exact ((HBW.out.trans (HB.out.mono HBW.out.size)).setCell hge1 _).setCell hge1 _
end Go.Proofs.Ytbcpodbihldfgaa
