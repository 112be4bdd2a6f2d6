/- ShareGroups: groups have turns of their own: the walk. -/
import Derived.Test.YtbcpodbihldfgaaF
import Derived.Deep.QuietTactic
import Derived.BigQuiet
namespace Go.Proofs.Ytbcpodbihldfgaa
open Go.RowKit Go.Maps Go.Proofs.YtbcpodbihldfgaaW.PrintWords Go.Proofs.Ytbcpodbihldfgaa.PSharePlays
set_option linter.unusedVariables false

/-- How often each of two groups was asked. -/
def gg (a b : Nat) : List UInt8 → Int := fun s => if s = [104] then b else if s = [103] then a else 0
theorem gg_a (a b : Nat) (s : List UInt8) : setG (gg a b) [103] (gg a b [103] + 1) s = gg (a + 1) b s := by
  have e1 : gg a b [103] = a := rfl
  rw [e1]
  unfold setG gg
  by_cases h : s = [103]
  · subst h; simp
  · simp [h]
theorem gg_b (a b : Nat) (s : List UInt8) : setG (gg a b) [104] (gg a b [104] + 1) s = gg a (b + 1) s := by
  have e1 : gg a b [104] = b := rfl
  rw [e1]
  unfold setG gg
  by_cases h : s = [104]
  · subst h; simp
  · simp [h]

/-- Picks beside a row of members and a pair of counts. -/
structure SG (w0 w : World) (g gb m a b : Nat) (v : Value) : Prop where
  row : Kd.R k33 33 w w0.heap.size (fun k => v.ownBlock = some k) v (mems m)
  pk : PK w w0.heap.size g (fun k => v.ownBlock ≠ some k ∧ k ≠ gb) [] (a + b) (gg a b)
  blk : w.heap[gb]? = some (.cells #[.int .i64 a, .int .i64 b] 42 (0, 0))
  old : w0.heap.size ≤ gb
  ne : v.ownBlock ≠ some gb
  below : Below w0.heap.size w0 w

section
variable {w w0 w1 : World} {g gb m a b c : Nat} {A : Option Addr}
theorem SG.choose (s : ByteArray) (hs : s.size ≤ maxLen) {G' : List UInt8 → Int} {n' : Nat} (h : SG w0 w g gb m a b (.slice A m c)) (hm : 1 ≤ m) (hm2 : m ≤ 20) (hab : a + b ≤ 400) (q : Nat) (hq : gg a b s.data.toList = q) :
    Calls Try.prog 12 #[.pointer (some ⟨g, 0, none⟩), .string s, .slice A m c] w fun e w' => e = .returned (.tuple #[.string (rd_T33 (mems m) ((q : Int) % (m : Int))).f0, .bool true]) ∧
      Hid ((∀ a' b', a' + b' = a + b + 1 → (∀ t, setG (gg a b) s.data.toList (gg a b s.data.toList + 1) t = gg a' b' t) → PK w' w0.heap.size g (fun k => (Value.slice A m c).ownBlock ≠ some k ∧ k ≠ gb) [] (a' + b') (gg a' b')) ∧
        Kd.R k33 33 w' w0.heap.size (fun k => (Value.slice A m c).ownBlock = some k) (.slice A m c) (mems m) ∧ w'.heap[gb]? = some (.cells #[.int .i64 a, .int .i64 b] 42 (0, 0)) ∧ Below w0.heap.size w0 w') := by
  have hl := mems_len m
  have hrow := h.row
  have hgb := blk_lt h.blk
  have hc := Kd.R_reads' hrow
  have hlt := Kd.R_lt hrow
  have := choose_some (l := mems m) (A := A) (c := c) h.below h.pk (by omega) s hs (fun W hk => ?_) (by have := hc.2.1; omega) (by omega) (by rw [thereL_mems]; omega)
  · rw [hl] at this
    refine this.mono ?_
    rintro e w' ⟨rfl, hp, hd⟩
    refine ⟨?_, ?_, ?_, ?_, hd.below⟩
    · have e1 := pickS_mems (gg a b) s.data.toList m (by omega) (by rw [hq]; omega)
      rw [hq] at e1
      rw [← e1]
      rfl
    · intro a' b' hab' hG
      refine (hab' ▸ hp.congr hG).mono (fun k hk _ => ?_)
      rcases hk with hk | hk
      · exact hk
      · refine ⟨fun he => ?_, ?_⟩
        · have := hlt k he; omega
        · omega
    · exact Kd.R_kept hrow hd.kept (fun k hk hn => hn.1 hk)
    · exact (hd.kept.2 gb hgb (fun hn => hn.2 rfl)).trans h.blk
  · have hC : Kd.R k33 33 w w0.heap.size (fun k => (Value.slice A m c).ownBlock = some k) (.slice A m c) (mems m) := hrow
    have := Kd.C_kept_own hC (S := fun k => ((Value.slice A m c).ownBlock ≠ some k ∧ k ≠ gb) ∧ k < w.heap.size) (fun k hk hn => hn.1.1 hk) W hk
    rw [hl]
    exact this
theorem SG.init {v : Value} (h : ST w0 w g [] 0 (fun _ => 0) v (mems m)) : SG w0 (w.alloc (.cells #[.int .i64 0, .int .i64 0] 42)) g w.heap.size m 0 0 v := by
  have hlt := Kd.R_lt h.row
  have hb : Below w.heap.size w (w.alloc (.cells #[.int .i64 0, .int .i64 0] 42)) := below_alloc (Below.refl _ _) _
  refine ⟨Kd.R_below h.row hb, ((h.pk.mono (S1 := fun k => v.ownBlock ≠ some k ∧ k ≠ w.heap.size) (fun k hk hl => ⟨hk, by omega⟩)).below hb).congr (fun s => by unfold gg; simp), heap_alloc_new w _, h.below.size, fun e => by have := hlt _ e; omega, h.below.alloc h.below.size _⟩
theorem SG.put {v : Value} {G' : List UInt8 → Int} {a' b' : Nat} {x : Value} {j : Nat} (hr : Kd.R k33 33 w w0.heap.size (fun k => v.ownBlock = some k) v (mems m)) (hp : PK w w0.heap.size g (fun k => v.ownBlock ≠ some k ∧ k ≠ gb) [] (a' + b') (gg a' b'))
    (hb : w.heap[gb]? = some (.cells #[.int .i64 a, .int .i64 b] 42 (0, 0))) (ho : w0.heap.size ≤ gb) (hne : v.ownBlock ≠ some gb) (hB : Below w0.heap.size w0 w) (hx : (#[Value.int .i64 (a : Int), Value.int .i64 (b : Int)]).setIfInBounds j x = #[.int .i64 (a' : Int), .int .i64 (b' : Int)]) :
    SG w0 (w.setCell ⟨gb, j, none⟩ x) g gb m a' b' v :=
  ⟨Kd.R_step hr (fun k hk _ => Below.heap_setCell w _ x k (fun e => hne (by rw [hk, e]))), hp.move (fun k hk _ => Below.heap_setCell w _ x k hk.2) (fun _ hk _ => hk), by rw [← hx]; exact blk_set hb j x, ho, hne, hB.setCell ho x⟩
theorem SG.turn {v : Value} (h : SG w0 w g gb m a b v) (s : ByteArray) (hs : s.size ≤ maxLen) (q : Nat) (hq : gg a b s.data.toList = q) (n : Nat) :
    Calls Try.prog 13 #[.pointer (some ⟨g, 0, none⟩), .string s] (w.drewN n) fun e w'' => e = .returned (.int .i64 q) ∧ ∃ m, w'' = w.drewN m := by
  have hb : Below w.heap.size w (w.drewN n) := pw_below_drewN (Below.refl _ _) n
  refine (turn_calls (h.pk.below hb) s hs).mono ?_
  rintro e w' ⟨rfl, rfl⟩
  exact ⟨by rw [hq], n, rfl⟩
end

set_option maxHeartbeats 4000000 in
theorem groups_walk (m : Nat) (h1 : 1 ≤ m) (h2 : m ≤ 10) (w : World) (A : Option Addr) (cp : Nat) (zs : List Bool) (hr : Kd.C Kd.bool w A zs.length zs) (hcp : zs.length ≤ cp) (hz : zs.length ≤ 1000000000000000) :
    Calls Try.prog 6 #[.int .i64 m, .slice A zs.length cp] w fun e w' => e = .returned (.bool true) ∧ Below w.heap.size w w' := by
  have haw := Lib.hid (awake_calls w)
  have HZ := Lib.hid hr
  clear hr
  go_enter Try.func6, Try.ntmps6
  go_wp2_with (first
    | (go_at_call 9; refine haw.out.mono ?_; rintro e w1 ⟨rfl, hb⟩; have HB := Lib.hid hb; clear hb haw)
    | ((with_reducible refine gate_dst (N := 25) rfl ?_); refine Kd.R_lit k33 (w0 := w) w.heap.size 33 ?hg (N := 25) ?hd (xs := ([] : List S33)) (inner := []) (ok := fun _ => True) (okp := fun _ => True) ?hr ?hp (fun _ hk => hk) trivial (HB.out) (HB.out.size) (by simp) ?_; (case hd => rfl); (case hg => rfl); (case hr => first | (go_simp; done) | (go_simp; rfl)); (case hp => exact (Reps.none _ _)); intro v1 w2 hq bh hg_ hnew_; obtain ⟨A1, c1, rfl, hc1⟩ := OwnRow.slice_ hq.2; have HO := Lib.hid hq; have HB2 := Lib.hid bh; clear hq bh hg_ hnew_ HB))
  go_loopw [5, 6] (fun v i wr => ∃ k : Nat, k ≤ m ∧ i = .int .i64 k ∧ Hid (Kd.R k33 33 wr w.heap.size (fun _ => True) v (mems k)) ∧ Hid (Below w.heap.size w wr)) (fun _ i _ => m - (intOf i).toNat)
  case atStart => exact ⟨0, Nat.zero_le _, rfl, HO.out, HB2.out⟩
  case round =>
    clear HO HB2
    obtain ⟨k, hk, rfl, HR, HB⟩ := hrel
    have hml := Lib.hid (mems_len k)
    have hmle : (mems k).length ≤ 20 := by rw [mems_len]; omega
    by_cases hlt : k < m
    · go_wp2_with (at_builtin; refine Kd.R_append k33 (w0 := w) w.heap.size rfl (.tmp 31) (.tmp 37) 22 33 (.agg #[(.string ⟨#[]⟩), (.bool false)]) 24 rfl Try.underlying22 info33 rfl (by decide) (by omega) u5 (mems k) ⟨Utf8.encode (97 + (k : Int)), true⟩ [.string (Utf8.encode (97 + (k : Int))), .bool true] (fun _ => True) (fun _ => False) rfl (by first | (go_simp; done) | (go_simp; rfl)) ?aP (fun _ hk => hk.elim) ?aF ?aO ?aB ?aS ?aL ?_; (case aP => exact k33_mk2 _ _ _ _ _); (case aF => exact fun _ _ => trivial); (case aO => exact HR.out); (case aB => exact HB.out); (case aS => exact HB.out.size); (case aL => omega); intro v1 w1 hq1 hb1 hgr1 hat1; have HO1 := Lib.hid hq1; have HB1 := Lib.hid hb1; clear hq1 hb1 hgr1 hat1)
      go_roundw
      case rel => exact ⟨k + 1, by omega, by go_num, by rw [mems_succ]; exact HO1.out, HB1.out⟩
      case measure => simp [intOf]; omega
    · obtain rfl : k = m := by omega
      obtain ⟨A1, c1, rfl, hc1⟩ := OwnRow.slice_ HR.out.2
      rw [hml.out] at HR ⊢
      have HS := Lib.hid (ST.new (R_flat HR.out) HB.out)
      clear hml hmle hc1 HR
      go_wp2_with (go_at_call 10; refine HS.out.mono ?_; rintro e w2 ⟨g, rfl, hst⟩; have H0 := Lib.hid hst; clear hst HS HB)
      have HI := Lib.hid (SG.init H0.out)
      obtain ⟨gb, hgb⟩ : ∃ gb, w2.heap.size = gb := ⟨_, rfl⟩
      rw [hgb] at HI ⊢
      generalize w2.alloc (Obj.cells #[Value.int IntKind.i64 0, Value.int IntKind.i64 0] 42) = w3 at HI ⊢
      clear hgb H0
      go_loopw [9] (fun i wq => ∃ j : Nat, j ≤ zs.length ∧ j ≤ 40 ∧ i = .int .i64 j ∧ ∃ a b : Nat, a + b = j ∧ Hid (SG w wq g gb k a b (.slice A1 k c1))) (fun i _ => zs.length - (intOf i).toNat)
      case atStart => exact ⟨0, Nat.zero_le _, by omega, rfl, 0, 0, rfl, HI.out⟩
      case round =>
        clear HI
        obtain ⟨j, hj, hj40, rfl, a, b, hab, HS⟩ := hrel
        replace hab : a + b ≤ j ∧ j ≤ a + b := by omega
        obtain ⟨hab1, hab2⟩ := hab
        by_cases hlt : j < zs.length ∧ j < 40
        · obtain ⟨hlt, hlt40⟩ := hlt
          obtain ⟨ad, cs, rfl, _, hK, hcc⟩ := Kd.C_get HZ.out false (j : Int) (by omega) (by omega)
          have hx := hcc 0 (.bool (zs.getD (j : Int).toNat false)) (by have : cs = [.bool (zs.getD (j : Int).toNat false)] := hK; rw [this]; rfl)
          rw [Int.toNat_natCast, show Kd.bool.sz = 1 from rfl, Nat.mul_one, Nat.add_zero] at hx
          clear hcc hK
          replace hx := (HS.out.below.cell (World.block_lt_of_cell? w _ hx)).trans hx
          generalize zs.getD j false = z at hx
          cases z with
          | false =>
            have hm1 : 0 ≤ (a : Int) % (k : Int) := Int.emod_nonneg _ (by omega)
            have hm2 : (a : Int) % (k : Int) < (k : Int) := Int.emod_lt_of_pos _ (by omega)
            have hch := Lib.hid (SG.choose ⟨#[103]⟩ (by decide) (G' := fun _ => 0) (n' := 0) HS.out (by omega) (by omega) (by omega) a rfl)
            have ho := HS.out.old
            have hne := HS.out.ne
            clear HS
            go_wp2_with (go_at_call 12; refine hch.out.mono ?_; rintro e w3 ⟨rfl, hs3⟩; have hrow := Kd.R_reads' hs3.out.2.1; obtain ⟨ad1, hA1, hx0, hx1⟩ := at_T33 (n := k) (by have := hrow.2.2; rw [mems_len] at this; exact this) ((a : Int) % (k : Int)) hm1 hm2; subst hA1; rw [show ((a : Int) % (k : Int)).toNat = a % k by omega] at hx0; have c0 : w3.cell? ⟨gb, 0, none⟩ = some (.int .i64 a) := (blk_cell hs3.out.2.2.1 0).trans rfl; have f0 := blk_frozen hs3.out.2.2.1 0; clear hx1 hrow hch)
            go_roundw
            case rel => exact ⟨j + 1, by omega, by omega, by go_num, a + 1, b, by omega, SG.put (G' := fun _ => 0) hs3.out.2.1 (hs3.out.1 (a + 1) b (by omega) (gg_a a b)) hs3.out.2.2.1 ho hne hs3.out.2.2.2 (by simp)⟩
            case measure => simp [intOf]; omega
          | true =>
            have hm1 : 0 ≤ (b : Int) % (k : Int) := Int.emod_nonneg _ (by omega)
            have hm2 : (b : Int) % (k : Int) < (k : Int) := Int.emod_lt_of_pos _ (by omega)
            have hch := Lib.hid (SG.choose ⟨#[104]⟩ (by decide) (G' := fun _ => 0) (n' := 0) HS.out (by omega) (by omega) (by omega) b rfl)
            have ho := HS.out.old
            have hne := HS.out.ne
            clear HS
            go_wp2_with (go_at_call 12; refine hch.out.mono ?_; rintro e w3 ⟨rfl, hs3⟩; have hrow := Kd.R_reads' hs3.out.2.1; obtain ⟨ad1, hA1, hx0, hx1⟩ := at_T33 (n := k) (by have := hrow.2.2; rw [mems_len] at this; exact this) ((b : Int) % (k : Int)) hm1 hm2; subst hA1; rw [show ((b : Int) % (k : Int)).toNat = b % k by omega] at hx0; have c0 : w3.cell? ⟨gb, 1, none⟩ = some (.int .i64 b) := (blk_cell hs3.out.2.2.1 1).trans rfl; have f0 := blk_frozen hs3.out.2.2.1 1; clear hx1 hrow hch)
            go_roundw
            case rel => exact ⟨j + 1, by omega, by omega, by go_num, a, b + 1, by omega, SG.put (G' := fun _ => 0) hs3.out.2.1 (hs3.out.1 a (b + 1) (by omega) (gg_b a b)) hs3.out.2.2.1 ho hne hs3.out.2.2.2 (by simp)⟩
            case measure => simp [intOf]; omega
        · have T1 := fun n => HS.out.turn ⟨#[103]⟩ (by decide) a rfl n
          have T2 := fun n => HS.out.turn ⟨#[104]⟩ (by decide) b rfl n
          have H1 := Lib.hid T1
          have H2 := Lib.hid T2
          have hb := Lib.hid HS.out.below
          have c0 : wr.cell? ⟨gb, 0, none⟩ = some (.int .i64 a) := (blk_cell HS.out.blk 0).trans rfl
          have c1' : wr.cell? ⟨gb, 1, none⟩ = some (.int .i64 b) := (blk_cell HS.out.blk 1).trans rfl
          clear T1 T2 HS
          by_cases h3 : j < zs.length
          all_goals
            have h4 : 40 ≤ j ∨ zs.length ≤ j := by omega
            clear hlt
            go_wp2_with fail
            go_quiet ((first | (go_at_call 13; with_reducible exact H1.out _) | (go_at_call 13; with_reducible exact H2.out _)))
            go_wp2
            go_ret
            exact ⟨rfl, pw_below_drewN hb.out _⟩
end Go.Proofs.Ytbcpodbihldfgaa
