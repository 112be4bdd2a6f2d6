/- prop.value: what it takes. -/
import Derived.Test.YtljbchghbpmghaaGreatDoorS2
namespace Go.Proofs.YtljbchghbpmghaaGreatDoor
open Go.RowKit Go.Lib Go.Proofs.YtljbchghbpmghaaGreatDoorW.PrintWords Go.Proofs.YtljbchghbpmghaaGreatDoor.PSwitchboardGreat
set_option linter.unusedVariables false
set_option linter.unusedSimpArgs false
theorem IN.setc {w : World} {g : Nat} {s : ByteArray} {er : Int} (h : IN w g s er) (b i : Nat) (u : Value) (hg : g ≠ b) : IN (w.setCell ⟨b, i, none⟩ u) g s er := h.to (S := fun k => k = b) ⟨rfl, rfl, rfl, by simp [World.setCell], fun k _ hn => Below.heap_setCell w ⟨b, i, none⟩ u k hn⟩ hg
theorem blk_sfar {w : World} {i b : Nat} {o : Obj} (h : w.heap[i]? = some o) (j : Nat) (u : Value) (hne : i ≠ b) : (w.setCell ⟨b, j, none⟩ u).heap[i]? = some o := (Below.heap_setCell w ⟨b, j, none⟩ u i hne).trans h
theorem rcell {w : World} {bx : Nat} {t : TypeId} {a0 a1 a2 a3 a4 : Value} (h : w.heap[bx]? = some (.cells #[a0, a1, a2, a3, a4] t (0, 0))) : w.cell? ⟨bx, 0, none⟩ = some a0 ∧ w.cell? ⟨bx, 1, none⟩ = some a1 ∧ w.cell? ⟨bx, 2, none⟩ = some a2 ∧ w.cell? ⟨bx, 3, none⟩ = some a3 ∧ w.cell? ⟨bx, 4, none⟩ = some a4 :=
  ⟨(blk_cell h 0).trans rfl, (blk_cell h 1).trans rfl, (blk_cell h 2).trans rfl, (blk_cell h 3).trans rfl, (blk_cell h 4).trans rfl⟩
def VP (w : World) (g bp : Nat) (id k : Nat) (s : ByteArray) (er : Int) (e : Ending) (w' : World) : Prop := ∃ (n : Nat) (a b s' : ByteArray) (er' : Int), e = .returned (.tuple #[]) ∧ w'.heap[bp]? = some (.cells #[.int .i64 (id : Nat), .int .u32 (n : Nat), .string a, .string b] 144 (0, 0)) ∧ IN w' g s' er' ∧ Chg (fun i => i = g ∨ i = bp) w w' ∧ Eat s er s' er' (valB k n a b).length ∧ n ≤ 4294967295 ∧ (k = 4 → n ≤ 268435455) ∧ a.size ≤ 65535 ∧ b.size ≤ 65535
theorem valB_len (k n : Nat) (a b : ByteArray) : (valB k n a b).length = if k = 1 then 1 else if k = 2 then 2 else if k = 3 then 4 else if k = 4 then (varU n).length else if k = 5 ∨ k = 6 then 2 + a.size else if k = 7 then 2 + a.size + (2 + b.size) else 0 := by
  unfold valB
  by_cases h1 : k = 1
  · rw [if_pos h1, if_pos h1]; rfl
  · rw [if_neg h1, if_neg h1]
    by_cases h2 : k = 2
    · rw [if_pos h2, if_pos h2]; rfl
    · rw [if_neg h2, if_neg h2]
      by_cases h3 : k = 3
      · rw [if_pos h3, if_pos h3]; rfl
      · rw [if_neg h3, if_neg h3]
        by_cases h4 : k = 4
        · rw [if_pos h4, if_pos h4]
        · rw [if_neg h4, if_neg h4]
          by_cases h5 : k = 5 ∨ k = 6
          · rw [if_pos h5, if_pos h5, dat_len]
          · rw [if_neg h5, if_neg h5]
            by_cases h7 : k = 7
            · rw [if_pos h7, if_pos h7, List.length_append, dat_len, dat_len]
            · rw [if_neg h7, if_neg h7]; rfl
set_option maxHeartbeats 2000000 in
set_option maxRecDepth 1000000 in
theorem value_0 {w : World} {g bp id : Nat} {s : ByteArray} {er : Int} (h : IN w g s er) (hp : w.heap[bp]? = some (.cells #[.int .i64 (id : Nat), .int .u32 0, .string ⟨#[]⟩, .string ⟨#[]⟩] 144 (0, 0))) (x1 x2 x3 x4 : Int) :
    Calls Tryz.prog 67 #[.pointer (some ⟨g, 0, none⟩), .pointer (some ⟨bp, 0, none⟩), .agg #[.int .i64 0, .int .i64 x1, .int .u32 x2, .int .u32 x3, .int .i64 x4]] w (VP w g bp id 0 s er) := by
  have hgp : g ≠ bp := blk_ne h hp (by decide)
  have HGP := Lib.hid hgp
  have HI0 := Lib.hid (h.below ((Below.refl w.heap.size w).alloc (Nat.le_refl _) (.cells #[.int .i64 0, .int .i64 x1, .int .u32 x2, .int .u32 x3, .int .i64 x4] 77)))
  have HP0 := Lib.hid (blk_alloc hp (.cells #[.int .i64 0, .int .i64 x1, .int .u32 x2, .int .u32 x3, .int .i64 x4] 77))
  have HR0 := Lib.hid (heap_alloc_new w (.cells #[.int .i64 0, .int .i64 x1, .int .u32 x2, .int .u32 x3, .int .i64 x4] 77))
  have HC0 := Lib.hid (show Chg (fun i => i = g ∨ i = bp) w (w.alloc (.cells #[.int .i64 0, .int .i64 x1, .int .u32 x2, .int .u32 x3, .int .i64 x4] 77)) from (Chg.refl _ _).alloc _)
  have HN := Lib.hid (show w.heap.size ≠ g ∧ w.heap.size ≠ bp by have h1 := h.lt; have h2 := blk_lt hp; omega)
  clear h hp hgp
  go_enter Tryz.func67, Tryz.ntmps67
  go_upto_region 16 with (fail)
  have HI2 := HI0
  have HP2 := HP0
  have HR2 := HR0
  have HC2 := HC0
  have HE := Lib.hid (Eat.refl s er)
  clear HI0 HP0 HR0 HC0
  generalize (w.alloc (.cells #[.int .i64 0, .int .i64 x1, .int .u32 x2, .int .u32 x3, .int .i64 x4] 77)) = W1 at HI2 HP2 HR2 HC2 ⊢
  obtain ⟨p0, p1, p2, p3⟩ := bxcell HP2.out
  obtain ⟨r0, r1, r2, r3, r4⟩ := rcell HR2.out
  by_cases he : er = 0
  · obtain rfl := he
    by_cases h1 : (0 : Int) < x2
    · have d1 : decide ((0 : Int) < x2) = true := decide_eq_true h1
      go_quiet ((go_at_call 25; exact Calls.quiet_of_same (err_same (HI2.out.drN _))))
      go_wp2_with (go_at_call 43; refine (fail_in (HI2.out.drN _) 3).mono ?_; rintro e w5 ⟨rfl, hi, hc⟩; have HI3 := Lib.hid hi; have HP3 := Lib.hid (hc.blk (blk_drewN HP2.out _) (fun e => HGP.out e.symm)); have HC3 := Lib.hid ((chg_drN HC2.out _).trans (hc.mono (fun i hi => .inl hi))); clear hi hc)
      go_end0
      exact ⟨0, ⟨#[]⟩, ⟨#[]⟩, s, _, rfl, HP3.out, HI3.out, HC3.out, (by rw [valB_len]; exact eat_fail HE.out 3 (by decide)), by decide, fun _ => by decide, Nat.zero_le _, Nat.zero_le _⟩
    · have d1 : decide ((0 : Int) < x2) = false := decide_eq_false h1
      by_cases h2 : x3 < (0 : Int)
      · have d2 : decide (x3 < (0 : Int)) = true := decide_eq_true h2
        go_quiet ((go_at_call 25; exact Calls.quiet_of_same (err_same (HI2.out.drN _))))
        go_wp2_with (go_at_call 43; refine (fail_in (HI2.out.drN _) 3).mono ?_; rintro e w5 ⟨rfl, hi, hc⟩; have HI3 := Lib.hid hi; have HP3 := Lib.hid (hc.blk (blk_drewN HP2.out _) (fun e => HGP.out e.symm)); have HC3 := Lib.hid ((chg_drN HC2.out _).trans (hc.mono (fun i hi => .inl hi))); clear hi hc)
        go_end0
        exact ⟨0, ⟨#[]⟩, ⟨#[]⟩, s, _, rfl, HP3.out, HI3.out, HC3.out, (by rw [valB_len]; exact eat_fail HE.out 3 (by decide)), by decide, fun _ => by decide, Nat.zero_le _, Nat.zero_le _⟩
      · have d2 : decide (x3 < (0 : Int)) = false := decide_eq_false h2
        go_quiet ((go_at_call 25; exact Calls.quiet_of_same (err_same (HI2.out.drN _))))
        go_wp2
        go_end0
        exact ⟨0, ⟨#[]⟩, ⟨#[]⟩, s, 0, rfl, HP2.out, HI2.out.drN _, chg_drN HC2.out _, (by rw [valB_len]; exact HE.out), by decide, fun _ => by decide, Nat.zero_le _, Nat.zero_le _⟩
  · have hq : (er == 0) = false := beq_eq_false_iff_ne.2 he
    go_quiet ((go_at_call 25; exact Calls.quiet_of_same (err_same (HI2.out.drN _))))
    go_wp2
    go_end0
    exact ⟨0, ⟨#[]⟩, ⟨#[]⟩, s, er, rfl, HP2.out, HI2.out.drN _, chg_drN HC2.out _, (by rw [valB_len]; exact HE.out), by decide, fun _ => by decide, Nat.zero_le _, Nat.zero_le _⟩
set_option maxHeartbeats 2000000 in
set_option maxRecDepth 1000000 in
theorem value_1 {w : World} {g bp id : Nat} {s : ByteArray} {er : Int} (h : IN w g s er) (hp : w.heap[bp]? = some (.cells #[.int .i64 (id : Nat), .int .u32 0, .string ⟨#[]⟩, .string ⟨#[]⟩] 144 (0, 0))) (x1 x2 x3 x4 : Int) :
    Calls Tryz.prog 67 #[.pointer (some ⟨g, 0, none⟩), .pointer (some ⟨bp, 0, none⟩), .agg #[.int .i64 1, .int .i64 x1, .int .u32 x2, .int .u32 x3, .int .i64 x4]] w (VP w g bp id 1 s er) := by
  have hgp : g ≠ bp := blk_ne h hp (by decide)
  have HGP := Lib.hid hgp
  have HI0 := Lib.hid (h.below ((Below.refl w.heap.size w).alloc (Nat.le_refl _) (.cells #[.int .i64 1, .int .i64 x1, .int .u32 x2, .int .u32 x3, .int .i64 x4] 77)))
  have HP0 := Lib.hid (blk_alloc hp (.cells #[.int .i64 1, .int .i64 x1, .int .u32 x2, .int .u32 x3, .int .i64 x4] 77))
  have HR0 := Lib.hid (heap_alloc_new w (.cells #[.int .i64 1, .int .i64 x1, .int .u32 x2, .int .u32 x3, .int .i64 x4] 77))
  have HC0 := Lib.hid (show Chg (fun i => i = g ∨ i = bp) w (w.alloc (.cells #[.int .i64 1, .int .i64 x1, .int .u32 x2, .int .u32 x3, .int .i64 x4] 77)) from (Chg.refl _ _).alloc _)
  have HN := Lib.hid (show w.heap.size ≠ g ∧ w.heap.size ≠ bp by have h1 := h.lt; have h2 := blk_lt hp; omega)
  clear h hp hgp
  go_enter Tryz.func67, Tryz.ntmps67
  go_upto_region 16 with (go_at_call 42; refine (nt_byte HI0.out).mono ?_; rintro e w1 hp; obtain ⟨v, s1, e1, rfl, hv, hi, hc, hE⟩ := hp; have HE := Lib.hid hE; have HV := Lib.hid hv; have HI1 := Lib.hid hi; have HP1 := Lib.hid (hc.blk HP0.out (fun e => HGP.out e.symm)); have HR1 := Lib.hid (hc.blk HR0.out HN.out.1); have HC1 := Lib.hid (HC0.out.trans (hc.mono (fun i hi => .inl hi))); obtain ⟨p0, p1, p2, p3⟩ := bxcell HP1.out; have fp1 := blk_frozen HP1.out 1; have fp2 := blk_frozen HP1.out 2; have fp3 := blk_frozen HP1.out 3; clear hi hc; clear hE; have hv32 : (v : Int) % 4294967296 = (v : Int) := by omega)
  have HI2 := Lib.hid (HI1.out.setc bp 1 (.int .u32 (v : Nat)) HGP.out)
  have HP2 := Lib.hid (blk_put HP1.out 1 (.int .u32 (v : Nat)) rfl)
  have HR2 := Lib.hid (blk_sfar HR1.out 1 (.int .u32 (v : Nat)) HN.out.2)
  have HC2 := Lib.hid (HC1.out.setCell (p := ⟨bp, 1, none⟩) (.inl (.inr rfl)) (.int .u32 (v : Nat)))
  clear HI1 HP1 HR1 HC1 HI0 HP0 HR0 HC0 p0 p1 p2 p3 fp1 fp2 fp3
  generalize (w1.setCell ⟨bp, 1, none⟩ (.int .u32 (v : Nat))) = W1 at HI2 HP2 HR2 HC2 ⊢
  obtain ⟨p0, p1, p2, p3⟩ := bxcell HP2.out
  obtain ⟨r0, r1, r2, r3, r4⟩ := rcell HR2.out
  by_cases he : e1 = 0
  · obtain rfl := he
    by_cases h1 : (v : Int) < x2
    · have d1 : decide ((v : Int) < x2) = true := decide_eq_true h1
      go_quiet ((go_at_call 25; exact Calls.quiet_of_same (err_same (HI2.out.drN _))))
      go_wp2_with (go_at_call 43; refine (fail_in (HI2.out.drN _) 3).mono ?_; rintro e w5 ⟨rfl, hi, hc⟩; have HI3 := Lib.hid hi; have HP3 := Lib.hid (hc.blk (blk_drewN HP2.out _) (fun e => HGP.out e.symm)); have HC3 := Lib.hid ((chg_drN HC2.out _).trans (hc.mono (fun i hi => .inl hi))); clear hi hc)
      go_end0
      exact ⟨v, ⟨#[]⟩, ⟨#[]⟩, s1, _, rfl, HP3.out, HI3.out, HC3.out, (by rw [valB_len]; exact eat_fail HE.out 3 (by decide)), (by have := HV.out; omega), fun h => by omega, Nat.zero_le _, Nat.zero_le _⟩
    · have d1 : decide ((v : Int) < x2) = false := decide_eq_false h1
      by_cases h2 : x3 < (v : Int)
      · have d2 : decide (x3 < (v : Int)) = true := decide_eq_true h2
        go_quiet ((go_at_call 25; exact Calls.quiet_of_same (err_same (HI2.out.drN _))))
        go_wp2_with (go_at_call 43; refine (fail_in (HI2.out.drN _) 3).mono ?_; rintro e w5 ⟨rfl, hi, hc⟩; have HI3 := Lib.hid hi; have HP3 := Lib.hid (hc.blk (blk_drewN HP2.out _) (fun e => HGP.out e.symm)); have HC3 := Lib.hid ((chg_drN HC2.out _).trans (hc.mono (fun i hi => .inl hi))); clear hi hc)
        go_end0
        exact ⟨v, ⟨#[]⟩, ⟨#[]⟩, s1, _, rfl, HP3.out, HI3.out, HC3.out, (by rw [valB_len]; exact eat_fail HE.out 3 (by decide)), (by have := HV.out; omega), fun h => by omega, Nat.zero_le _, Nat.zero_le _⟩
      · have d2 : decide (x3 < (v : Int)) = false := decide_eq_false h2
        go_quiet ((go_at_call 25; exact Calls.quiet_of_same (err_same (HI2.out.drN _))))
        go_wp2
        go_end0
        exact ⟨v, ⟨#[]⟩, ⟨#[]⟩, s1, 0, rfl, HP2.out, HI2.out.drN _, chg_drN HC2.out _, (by rw [valB_len]; exact HE.out), (by have := HV.out; omega), fun h => by omega, Nat.zero_le _, Nat.zero_le _⟩
  · have hq : (e1 == 0) = false := beq_eq_false_iff_ne.2 he
    go_quiet ((go_at_call 25; exact Calls.quiet_of_same (err_same (HI2.out.drN _))))
    go_wp2
    go_end0
    exact ⟨v, ⟨#[]⟩, ⟨#[]⟩, s1, e1, rfl, HP2.out, HI2.out.drN _, chg_drN HC2.out _, (by rw [valB_len]; exact HE.out), (by have := HV.out; omega), fun h => by omega, Nat.zero_le _, Nat.zero_le _⟩
set_option maxHeartbeats 2000000 in
set_option maxRecDepth 1000000 in
theorem value_2 {w : World} {g bp id : Nat} {s : ByteArray} {er : Int} (h : IN w g s er) (hp : w.heap[bp]? = some (.cells #[.int .i64 (id : Nat), .int .u32 0, .string ⟨#[]⟩, .string ⟨#[]⟩] 144 (0, 0))) (x1 x2 x3 x4 : Int) :
    Calls Tryz.prog 67 #[.pointer (some ⟨g, 0, none⟩), .pointer (some ⟨bp, 0, none⟩), .agg #[.int .i64 2, .int .i64 x1, .int .u32 x2, .int .u32 x3, .int .i64 x4]] w (VP w g bp id 2 s er) := by
  have hgp : g ≠ bp := blk_ne h hp (by decide)
  have HGP := Lib.hid hgp
  have HI0 := Lib.hid (h.below ((Below.refl w.heap.size w).alloc (Nat.le_refl _) (.cells #[.int .i64 2, .int .i64 x1, .int .u32 x2, .int .u32 x3, .int .i64 x4] 77)))
  have HP0 := Lib.hid (blk_alloc hp (.cells #[.int .i64 2, .int .i64 x1, .int .u32 x2, .int .u32 x3, .int .i64 x4] 77))
  have HR0 := Lib.hid (heap_alloc_new w (.cells #[.int .i64 2, .int .i64 x1, .int .u32 x2, .int .u32 x3, .int .i64 x4] 77))
  have HC0 := Lib.hid (show Chg (fun i => i = g ∨ i = bp) w (w.alloc (.cells #[.int .i64 2, .int .i64 x1, .int .u32 x2, .int .u32 x3, .int .i64 x4] 77)) from (Chg.refl _ _).alloc _)
  have HN := Lib.hid (show w.heap.size ≠ g ∧ w.heap.size ≠ bp by have h1 := h.lt; have h2 := blk_lt hp; omega)
  clear h hp hgp
  go_enter Tryz.func67, Tryz.ntmps67
  go_upto_region 16 with (go_at_call 50; refine (nt_two HI0.out).mono ?_; rintro e w1 hp; obtain ⟨v, s1, e1, rfl, hv, hi, hc, hE⟩ := hp; have HE := Lib.hid hE; have HV := Lib.hid hv; have HI1 := Lib.hid hi; have HP1 := Lib.hid (hc.blk HP0.out (fun e => HGP.out e.symm)); have HR1 := Lib.hid (hc.blk HR0.out HN.out.1); have HC1 := Lib.hid (HC0.out.trans (hc.mono (fun i hi => .inl hi))); obtain ⟨p0, p1, p2, p3⟩ := bxcell HP1.out; have fp1 := blk_frozen HP1.out 1; have fp2 := blk_frozen HP1.out 2; have fp3 := blk_frozen HP1.out 3; clear hi hc; clear hE hv)
  have HI2 := Lib.hid (HI1.out.setc bp 1 (.int .u32 (v : Nat)) HGP.out)
  have HP2 := Lib.hid (blk_put HP1.out 1 (.int .u32 (v : Nat)) rfl)
  have HR2 := Lib.hid (blk_sfar HR1.out 1 (.int .u32 (v : Nat)) HN.out.2)
  have HC2 := Lib.hid (HC1.out.setCell (p := ⟨bp, 1, none⟩) (.inl (.inr rfl)) (.int .u32 (v : Nat)))
  clear HI1 HP1 HR1 HC1 HI0 HP0 HR0 HC0 p0 p1 p2 p3 fp1 fp2 fp3
  generalize (w1.setCell ⟨bp, 1, none⟩ (.int .u32 (v : Nat))) = W1 at HI2 HP2 HR2 HC2 ⊢
  obtain ⟨p0, p1, p2, p3⟩ := bxcell HP2.out
  obtain ⟨r0, r1, r2, r3, r4⟩ := rcell HR2.out
  by_cases he : e1 = 0
  · obtain rfl := he
    by_cases h1 : (v : Int) < x2
    · have d1 : decide ((v : Int) < x2) = true := decide_eq_true h1
      go_quiet ((go_at_call 25; exact Calls.quiet_of_same (err_same (HI2.out.drN _))))
      go_wp2_with (go_at_call 43; refine (fail_in (HI2.out.drN _) 3).mono ?_; rintro e w5 ⟨rfl, hi, hc⟩; have HI3 := Lib.hid hi; have HP3 := Lib.hid (hc.blk (blk_drewN HP2.out _) (fun e => HGP.out e.symm)); have HC3 := Lib.hid ((chg_drN HC2.out _).trans (hc.mono (fun i hi => .inl hi))); clear hi hc)
      go_end0
      exact ⟨v, ⟨#[]⟩, ⟨#[]⟩, s1, _, rfl, HP3.out, HI3.out, HC3.out, (by rw [valB_len]; exact eat_fail HE.out 3 (by decide)), (by have := HV.out; omega), fun h => by omega, Nat.zero_le _, Nat.zero_le _⟩
    · have d1 : decide ((v : Int) < x2) = false := decide_eq_false h1
      by_cases h2 : x3 < (v : Int)
      · have d2 : decide (x3 < (v : Int)) = true := decide_eq_true h2
        go_quiet ((go_at_call 25; exact Calls.quiet_of_same (err_same (HI2.out.drN _))))
        go_wp2_with (go_at_call 43; refine (fail_in (HI2.out.drN _) 3).mono ?_; rintro e w5 ⟨rfl, hi, hc⟩; have HI3 := Lib.hid hi; have HP3 := Lib.hid (hc.blk (blk_drewN HP2.out _) (fun e => HGP.out e.symm)); have HC3 := Lib.hid ((chg_drN HC2.out _).trans (hc.mono (fun i hi => .inl hi))); clear hi hc)
        go_end0
        exact ⟨v, ⟨#[]⟩, ⟨#[]⟩, s1, _, rfl, HP3.out, HI3.out, HC3.out, (by rw [valB_len]; exact eat_fail HE.out 3 (by decide)), (by have := HV.out; omega), fun h => by omega, Nat.zero_le _, Nat.zero_le _⟩
      · have d2 : decide (x3 < (v : Int)) = false := decide_eq_false h2
        go_quiet ((go_at_call 25; exact Calls.quiet_of_same (err_same (HI2.out.drN _))))
        go_wp2
        go_end0
        exact ⟨v, ⟨#[]⟩, ⟨#[]⟩, s1, 0, rfl, HP2.out, HI2.out.drN _, chg_drN HC2.out _, (by rw [valB_len]; exact HE.out), (by have := HV.out; omega), fun h => by omega, Nat.zero_le _, Nat.zero_le _⟩
  · have hq : (e1 == 0) = false := beq_eq_false_iff_ne.2 he
    go_quiet ((go_at_call 25; exact Calls.quiet_of_same (err_same (HI2.out.drN _))))
    go_wp2
    go_end0
    exact ⟨v, ⟨#[]⟩, ⟨#[]⟩, s1, e1, rfl, HP2.out, HI2.out.drN _, chg_drN HC2.out _, (by rw [valB_len]; exact HE.out), (by have := HV.out; omega), fun h => by omega, Nat.zero_le _, Nat.zero_le _⟩
set_option maxHeartbeats 2000000 in
set_option maxRecDepth 1000000 in
theorem value_3 {w : World} {g bp id : Nat} {s : ByteArray} {er : Int} (h : IN w g s er) (hp : w.heap[bp]? = some (.cells #[.int .i64 (id : Nat), .int .u32 0, .string ⟨#[]⟩, .string ⟨#[]⟩] 144 (0, 0))) (x1 x2 x3 x4 : Int) :
    Calls Tryz.prog 67 #[.pointer (some ⟨g, 0, none⟩), .pointer (some ⟨bp, 0, none⟩), .agg #[.int .i64 3, .int .i64 x1, .int .u32 x2, .int .u32 x3, .int .i64 x4]] w (VP w g bp id 3 s er) := by
  have hgp : g ≠ bp := blk_ne h hp (by decide)
  have HGP := Lib.hid hgp
  have HI0 := Lib.hid (h.below ((Below.refl w.heap.size w).alloc (Nat.le_refl _) (.cells #[.int .i64 3, .int .i64 x1, .int .u32 x2, .int .u32 x3, .int .i64 x4] 77)))
  have HP0 := Lib.hid (blk_alloc hp (.cells #[.int .i64 3, .int .i64 x1, .int .u32 x2, .int .u32 x3, .int .i64 x4] 77))
  have HR0 := Lib.hid (heap_alloc_new w (.cells #[.int .i64 3, .int .i64 x1, .int .u32 x2, .int .u32 x3, .int .i64 x4] 77))
  have HC0 := Lib.hid (show Chg (fun i => i = g ∨ i = bp) w (w.alloc (.cells #[.int .i64 3, .int .i64 x1, .int .u32 x2, .int .u32 x3, .int .i64 x4] 77)) from (Chg.refl _ _).alloc _)
  have HN := Lib.hid (show w.heap.size ≠ g ∧ w.heap.size ≠ bp by have h1 := h.lt; have h2 := blk_lt hp; omega)
  clear h hp hgp
  go_enter Tryz.func67, Tryz.ntmps67
  go_upto_region 16 with (go_at_call 74; refine (nt_four HI0.out).mono ?_; rintro e w1 hp; obtain ⟨v, s1, e1, rfl, hv, hi, hc, hE⟩ := hp; have HE := Lib.hid hE; have HV := Lib.hid hv; have HI1 := Lib.hid hi; have HP1 := Lib.hid (hc.blk HP0.out (fun e => HGP.out e.symm)); have HR1 := Lib.hid (hc.blk HR0.out HN.out.1); have HC1 := Lib.hid (HC0.out.trans (hc.mono (fun i hi => .inl hi))); obtain ⟨p0, p1, p2, p3⟩ := bxcell HP1.out; have fp1 := blk_frozen HP1.out 1; have fp2 := blk_frozen HP1.out 2; have fp3 := blk_frozen HP1.out 3; clear hi hc; clear hE hv)
  have HI2 := Lib.hid (HI1.out.setc bp 1 (.int .u32 (v : Nat)) HGP.out)
  have HP2 := Lib.hid (blk_put HP1.out 1 (.int .u32 (v : Nat)) rfl)
  have HR2 := Lib.hid (blk_sfar HR1.out 1 (.int .u32 (v : Nat)) HN.out.2)
  have HC2 := Lib.hid (HC1.out.setCell (p := ⟨bp, 1, none⟩) (.inl (.inr rfl)) (.int .u32 (v : Nat)))
  clear HI1 HP1 HR1 HC1 HI0 HP0 HR0 HC0 p0 p1 p2 p3 fp1 fp2 fp3
  generalize (w1.setCell ⟨bp, 1, none⟩ (.int .u32 (v : Nat))) = W1 at HI2 HP2 HR2 HC2 ⊢
  obtain ⟨p0, p1, p2, p3⟩ := bxcell HP2.out
  obtain ⟨r0, r1, r2, r3, r4⟩ := rcell HR2.out
  by_cases he : e1 = 0
  · obtain rfl := he
    by_cases h1 : (v : Int) < x2
    · have d1 : decide ((v : Int) < x2) = true := decide_eq_true h1
      go_quiet ((go_at_call 25; exact Calls.quiet_of_same (err_same (HI2.out.drN _))))
      go_wp2_with (go_at_call 43; refine (fail_in (HI2.out.drN _) 3).mono ?_; rintro e w5 ⟨rfl, hi, hc⟩; have HI3 := Lib.hid hi; have HP3 := Lib.hid (hc.blk (blk_drewN HP2.out _) (fun e => HGP.out e.symm)); have HC3 := Lib.hid ((chg_drN HC2.out _).trans (hc.mono (fun i hi => .inl hi))); clear hi hc)
      go_end0
      exact ⟨v, ⟨#[]⟩, ⟨#[]⟩, s1, _, rfl, HP3.out, HI3.out, HC3.out, (by rw [valB_len]; exact eat_fail HE.out 3 (by decide)), (by have := HV.out; omega), fun h => by omega, Nat.zero_le _, Nat.zero_le _⟩
    · have d1 : decide ((v : Int) < x2) = false := decide_eq_false h1
      by_cases h2 : x3 < (v : Int)
      · have d2 : decide (x3 < (v : Int)) = true := decide_eq_true h2
        go_quiet ((go_at_call 25; exact Calls.quiet_of_same (err_same (HI2.out.drN _))))
        go_wp2_with (go_at_call 43; refine (fail_in (HI2.out.drN _) 3).mono ?_; rintro e w5 ⟨rfl, hi, hc⟩; have HI3 := Lib.hid hi; have HP3 := Lib.hid (hc.blk (blk_drewN HP2.out _) (fun e => HGP.out e.symm)); have HC3 := Lib.hid ((chg_drN HC2.out _).trans (hc.mono (fun i hi => .inl hi))); clear hi hc)
        go_end0
        exact ⟨v, ⟨#[]⟩, ⟨#[]⟩, s1, _, rfl, HP3.out, HI3.out, HC3.out, (by rw [valB_len]; exact eat_fail HE.out 3 (by decide)), (by have := HV.out; omega), fun h => by omega, Nat.zero_le _, Nat.zero_le _⟩
      · have d2 : decide (x3 < (v : Int)) = false := decide_eq_false h2
        go_quiet ((go_at_call 25; exact Calls.quiet_of_same (err_same (HI2.out.drN _))))
        go_wp2
        go_end0
        exact ⟨v, ⟨#[]⟩, ⟨#[]⟩, s1, 0, rfl, HP2.out, HI2.out.drN _, chg_drN HC2.out _, (by rw [valB_len]; exact HE.out), (by have := HV.out; omega), fun h => by omega, Nat.zero_le _, Nat.zero_le _⟩
  · have hq : (e1 == 0) = false := beq_eq_false_iff_ne.2 he
    go_quiet ((go_at_call 25; exact Calls.quiet_of_same (err_same (HI2.out.drN _))))
    go_wp2
    go_end0
    exact ⟨v, ⟨#[]⟩, ⟨#[]⟩, s1, e1, rfl, HP2.out, HI2.out.drN _, chg_drN HC2.out _, (by rw [valB_len]; exact HE.out), (by have := HV.out; omega), fun h => by omega, Nat.zero_le _, Nat.zero_le _⟩
set_option maxHeartbeats 2000000 in
set_option maxRecDepth 1000000 in
theorem value_4 {w : World} {g bp id : Nat} {s : ByteArray} {er : Int} (h : IN w g s er) (hp : w.heap[bp]? = some (.cells #[.int .i64 (id : Nat), .int .u32 0, .string ⟨#[]⟩, .string ⟨#[]⟩] 144 (0, 0))) (x1 x2 x3 x4 : Int) :
    Calls Tryz.prog 67 #[.pointer (some ⟨g, 0, none⟩), .pointer (some ⟨bp, 0, none⟩), .agg #[.int .i64 4, .int .i64 x1, .int .u32 x2, .int .u32 x3, .int .i64 x4]] w (VP w g bp id 4 s er) := by
  have hgp : g ≠ bp := blk_ne h hp (by decide)
  have HGP := Lib.hid hgp
  have HI0 := Lib.hid (h.below ((Below.refl w.heap.size w).alloc (Nat.le_refl _) (.cells #[.int .i64 4, .int .i64 x1, .int .u32 x2, .int .u32 x3, .int .i64 x4] 77)))
  have HP0 := Lib.hid (blk_alloc hp (.cells #[.int .i64 4, .int .i64 x1, .int .u32 x2, .int .u32 x3, .int .i64 x4] 77))
  have HR0 := Lib.hid (heap_alloc_new w (.cells #[.int .i64 4, .int .i64 x1, .int .u32 x2, .int .u32 x3, .int .i64 x4] 77))
  have HC0 := Lib.hid (show Chg (fun i => i = g ∨ i = bp) w (w.alloc (.cells #[.int .i64 4, .int .i64 x1, .int .u32 x2, .int .u32 x3, .int .i64 x4] 77)) from (Chg.refl _ _).alloc _)
  have HN := Lib.hid (show w.heap.size ≠ g ∧ w.heap.size ≠ bp by have h1 := h.lt; have h2 := blk_lt hp; omega)
  clear h hp hgp
  go_enter Tryz.func67, Tryz.ntmps67
  go_upto_region 16 with (go_at_call 24; refine (vt_in HI0.out).mono ?_; rintro e w1 hp; obtain ⟨v, s1, e1, rfl, hv, hi, hc, hE⟩ := hp; have HE := Lib.hid hE; have HV := Lib.hid hv; have HI1 := Lib.hid hi; have HP1 := Lib.hid (hc.blk HP0.out (fun e => HGP.out e.symm)); have HR1 := Lib.hid (hc.blk HR0.out HN.out.1); have HC1 := Lib.hid (HC0.out.trans (hc.mono (fun i hi => .inl hi))); obtain ⟨p0, p1, p2, p3⟩ := bxcell HP1.out; have fp1 := blk_frozen HP1.out 1; have fp2 := blk_frozen HP1.out 2; have fp3 := blk_frozen HP1.out 3; clear hi hc; clear hE hv)
  have HI2 := Lib.hid (HI1.out.setc bp 1 (.int .u32 (v : Nat)) HGP.out)
  have HP2 := Lib.hid (blk_put HP1.out 1 (.int .u32 (v : Nat)) rfl)
  have HR2 := Lib.hid (blk_sfar HR1.out 1 (.int .u32 (v : Nat)) HN.out.2)
  have HC2 := Lib.hid (HC1.out.setCell (p := ⟨bp, 1, none⟩) (.inl (.inr rfl)) (.int .u32 (v : Nat)))
  clear HI1 HP1 HR1 HC1 HI0 HP0 HR0 HC0 p0 p1 p2 p3 fp1 fp2 fp3
  generalize (w1.setCell ⟨bp, 1, none⟩ (.int .u32 (v : Nat))) = W1 at HI2 HP2 HR2 HC2 ⊢
  obtain ⟨p0, p1, p2, p3⟩ := bxcell HP2.out
  obtain ⟨r0, r1, r2, r3, r4⟩ := rcell HR2.out
  by_cases he : e1 = 0
  · obtain rfl := he
    by_cases h1 : (v : Int) < x2
    · have d1 : decide ((v : Int) < x2) = true := decide_eq_true h1
      go_quiet ((go_at_call 25; exact Calls.quiet_of_same (err_same (HI2.out.drN _))))
      go_wp2_with (go_at_call 43; refine (fail_in (HI2.out.drN _) 3).mono ?_; rintro e w5 ⟨rfl, hi, hc⟩; have HI3 := Lib.hid hi; have HP3 := Lib.hid (hc.blk (blk_drewN HP2.out _) (fun e => HGP.out e.symm)); have HC3 := Lib.hid ((chg_drN HC2.out _).trans (hc.mono (fun i hi => .inl hi))); clear hi hc)
      go_end0
      exact ⟨v, ⟨#[]⟩, ⟨#[]⟩, s1, _, rfl, HP3.out, HI3.out, HC3.out, (by rw [valB_len]; exact eat_fail HE.out 3 (by decide)), (by have := HV.out; omega), fun _ => HV.out, Nat.zero_le _, Nat.zero_le _⟩
    · have d1 : decide ((v : Int) < x2) = false := decide_eq_false h1
      by_cases h2 : x3 < (v : Int)
      · have d2 : decide (x3 < (v : Int)) = true := decide_eq_true h2
        go_quiet ((go_at_call 25; exact Calls.quiet_of_same (err_same (HI2.out.drN _))))
        go_wp2_with (go_at_call 43; refine (fail_in (HI2.out.drN _) 3).mono ?_; rintro e w5 ⟨rfl, hi, hc⟩; have HI3 := Lib.hid hi; have HP3 := Lib.hid (hc.blk (blk_drewN HP2.out _) (fun e => HGP.out e.symm)); have HC3 := Lib.hid ((chg_drN HC2.out _).trans (hc.mono (fun i hi => .inl hi))); clear hi hc)
        go_end0
        exact ⟨v, ⟨#[]⟩, ⟨#[]⟩, s1, _, rfl, HP3.out, HI3.out, HC3.out, (by rw [valB_len]; exact eat_fail HE.out 3 (by decide)), (by have := HV.out; omega), fun _ => HV.out, Nat.zero_le _, Nat.zero_le _⟩
      · have d2 : decide (x3 < (v : Int)) = false := decide_eq_false h2
        go_quiet ((go_at_call 25; exact Calls.quiet_of_same (err_same (HI2.out.drN _))))
        go_wp2
        go_end0
        exact ⟨v, ⟨#[]⟩, ⟨#[]⟩, s1, 0, rfl, HP2.out, HI2.out.drN _, chg_drN HC2.out _, (by rw [valB_len]; exact HE.out), (by have := HV.out; omega), fun _ => HV.out, Nat.zero_le _, Nat.zero_le _⟩
  · have hq : (e1 == 0) = false := beq_eq_false_iff_ne.2 he
    go_quiet ((go_at_call 25; exact Calls.quiet_of_same (err_same (HI2.out.drN _))))
    go_wp2
    go_end0
    exact ⟨v, ⟨#[]⟩, ⟨#[]⟩, s1, e1, rfl, HP2.out, HI2.out.drN _, chg_drN HC2.out _, (by rw [valB_len]; exact HE.out), (by have := HV.out; omega), fun _ => HV.out, Nat.zero_le _, Nat.zero_le _⟩
set_option maxHeartbeats 2000000 in
set_option maxRecDepth 1000000 in
theorem value_5 {w : World} {g bp id : Nat} {s : ByteArray} {er : Int} (h : IN w g s er) (hp : w.heap[bp]? = some (.cells #[.int .i64 (id : Nat), .int .u32 0, .string ⟨#[]⟩, .string ⟨#[]⟩] 144 (0, 0))) (x1 x2 x3 x4 : Int) :
    Calls Tryz.prog 67 #[.pointer (some ⟨g, 0, none⟩), .pointer (some ⟨bp, 0, none⟩), .agg #[.int .i64 5, .int .i64 x1, .int .u32 x2, .int .u32 x3, .int .i64 x4]] w (VP w g bp id 5 s er) := by
  have hgp : g ≠ bp := blk_ne h hp (by decide)
  have HGP := Lib.hid hgp
  have HI0 := Lib.hid (h.below ((Below.refl w.heap.size w).alloc (Nat.le_refl _) (.cells #[.int .i64 5, .int .i64 x1, .int .u32 x2, .int .u32 x3, .int .i64 x4] 77)))
  have HP0 := Lib.hid (blk_alloc hp (.cells #[.int .i64 5, .int .i64 x1, .int .u32 x2, .int .u32 x3, .int .i64 x4] 77))
  have HR0 := Lib.hid (heap_alloc_new w (.cells #[.int .i64 5, .int .i64 x1, .int .u32 x2, .int .u32 x3, .int .i64 x4] 77))
  have HC0 := Lib.hid (show Chg (fun i => i = g ∨ i = bp) w (w.alloc (.cells #[.int .i64 5, .int .i64 x1, .int .u32 x2, .int .u32 x3, .int .i64 x4] 77)) from (Chg.refl _ _).alloc _)
  have HN := Lib.hid (show w.heap.size ≠ g ∧ w.heap.size ≠ bp by have h1 := h.lt; have h2 := blk_lt hp; omega)
  clear h hp hgp
  go_enter Tryz.func67, Tryz.ntmps67
  go_upto_region 16 with (go_at_call 49; refine (wt_in HI0.out).mono ?_; rintro e w1 hp; obtain ⟨a, s1, e1, rfl, hv, hi, hc, hE⟩ := hp; have HE := Lib.hid hE; have HV := Lib.hid hv; have HI1 := Lib.hid hi; have HP1 := Lib.hid (hc.blk HP0.out (fun e => HGP.out e.symm)); have HR1 := Lib.hid (hc.blk HR0.out HN.out.1); have HC1 := Lib.hid (HC0.out.trans (hc.mono (fun i hi => .inl hi))); obtain ⟨p0, p1, p2, p3⟩ := bxcell HP1.out; have fp1 := blk_frozen HP1.out 1; have fp2 := blk_frozen HP1.out 2; have fp3 := blk_frozen HP1.out 3; clear hi hc; clear hE hv)
  have HI2 := Lib.hid (HI1.out.setc bp 2 (.string a) HGP.out)
  have HP2 := Lib.hid (blk_put HP1.out 2 (.string a) rfl)
  have HR2 := Lib.hid (blk_sfar HR1.out 2 (.string a) HN.out.2)
  have HC2 := Lib.hid (HC1.out.setCell (p := ⟨bp, 2, none⟩) (.inl (.inr rfl)) (.string a))
  clear HI1 HP1 HR1 HC1 HI0 HP0 HR0 HC0 p0 p1 p2 p3 fp1 fp2 fp3
  generalize (w1.setCell ⟨bp, 2, none⟩ (.string a)) = W1 at HI2 HP2 HR2 HC2 ⊢
  obtain ⟨p0, p1, p2, p3⟩ := bxcell HP2.out
  obtain ⟨r0, r1, r2, r3, r4⟩ := rcell HR2.out
  go_quiet (fail)
  go_wp2
  go_end0
  exact ⟨0, a, ⟨#[]⟩, s1, e1, rfl, HP2.out, HI2.out.drN _, chg_drN HC2.out _, (by rw [valB_len]; exact HE.out), by decide, fun h => by omega, HV.out, Nat.zero_le _⟩
set_option maxHeartbeats 2000000 in
set_option maxRecDepth 1000000 in
theorem value_6 {w : World} {g bp id : Nat} {s : ByteArray} {er : Int} (h : IN w g s er) (hp : w.heap[bp]? = some (.cells #[.int .i64 (id : Nat), .int .u32 0, .string ⟨#[]⟩, .string ⟨#[]⟩] 144 (0, 0))) (x1 x2 x3 x4 : Int) :
    Calls Tryz.prog 67 #[.pointer (some ⟨g, 0, none⟩), .pointer (some ⟨bp, 0, none⟩), .agg #[.int .i64 6, .int .i64 x1, .int .u32 x2, .int .u32 x3, .int .i64 x4]] w (VP w g bp id 6 s er) := by
  have hgp : g ≠ bp := blk_ne h hp (by decide)
  have HGP := Lib.hid hgp
  have HI0 := Lib.hid (h.below ((Below.refl w.heap.size w).alloc (Nat.le_refl _) (.cells #[.int .i64 6, .int .i64 x1, .int .u32 x2, .int .u32 x3, .int .i64 x4] 77)))
  have HP0 := Lib.hid (blk_alloc hp (.cells #[.int .i64 6, .int .i64 x1, .int .u32 x2, .int .u32 x3, .int .i64 x4] 77))
  have HR0 := Lib.hid (heap_alloc_new w (.cells #[.int .i64 6, .int .i64 x1, .int .u32 x2, .int .u32 x3, .int .i64 x4] 77))
  have HC0 := Lib.hid (show Chg (fun i => i = g ∨ i = bp) w (w.alloc (.cells #[.int .i64 6, .int .i64 x1, .int .u32 x2, .int .u32 x3, .int .i64 x4] 77)) from (Chg.refl _ _).alloc _)
  have HN := Lib.hid (show w.heap.size ≠ g ∧ w.heap.size ≠ bp by have h1 := h.lt; have h2 := blk_lt hp; omega)
  clear h hp hgp
  go_enter Tryz.func67, Tryz.ntmps67
  go_upto_region 16 with (go_at_call 62; refine (dt_in HI0.out).mono ?_; rintro e w1 hp; obtain ⟨a, s1, e1, rfl, hv, hi, hc, hE⟩ := hp; have HE := Lib.hid hE; have HV := Lib.hid hv; have HI1 := Lib.hid hi; have HP1 := Lib.hid (hc.blk HP0.out (fun e => HGP.out e.symm)); have HR1 := Lib.hid (hc.blk HR0.out HN.out.1); have HC1 := Lib.hid (HC0.out.trans (hc.mono (fun i hi => .inl hi))); obtain ⟨p0, p1, p2, p3⟩ := bxcell HP1.out; have fp1 := blk_frozen HP1.out 1; have fp2 := blk_frozen HP1.out 2; have fp3 := blk_frozen HP1.out 3; clear hi hc; clear hE hv)
  have HI2 := Lib.hid (HI1.out.setc bp 2 (.string a) HGP.out)
  have HP2 := Lib.hid (blk_put HP1.out 2 (.string a) rfl)
  have HR2 := Lib.hid (blk_sfar HR1.out 2 (.string a) HN.out.2)
  have HC2 := Lib.hid (HC1.out.setCell (p := ⟨bp, 2, none⟩) (.inl (.inr rfl)) (.string a))
  clear HI1 HP1 HR1 HC1 HI0 HP0 HR0 HC0 p0 p1 p2 p3 fp1 fp2 fp3
  generalize (w1.setCell ⟨bp, 2, none⟩ (.string a)) = W1 at HI2 HP2 HR2 HC2 ⊢
  obtain ⟨p0, p1, p2, p3⟩ := bxcell HP2.out
  obtain ⟨r0, r1, r2, r3, r4⟩ := rcell HR2.out
  go_quiet (fail)
  go_wp2
  go_end0
  exact ⟨0, a, ⟨#[]⟩, s1, e1, rfl, HP2.out, HI2.out.drN _, chg_drN HC2.out _, (by rw [valB_len]; exact HE.out), by decide, fun h => by omega, HV.out, Nat.zero_le _⟩
set_option maxHeartbeats 2000000 in
set_option maxRecDepth 1000000 in
theorem value_7 {w : World} {g bp id : Nat} {s : ByteArray} {er : Int} (h : IN w g s er) (hp : w.heap[bp]? = some (.cells #[.int .i64 (id : Nat), .int .u32 0, .string ⟨#[]⟩, .string ⟨#[]⟩] 144 (0, 0))) (x1 x2 x3 x4 : Int) :
    Calls Tryz.prog 67 #[.pointer (some ⟨g, 0, none⟩), .pointer (some ⟨bp, 0, none⟩), .agg #[.int .i64 7, .int .i64 x1, .int .u32 x2, .int .u32 x3, .int .i64 x4]] w (VP w g bp id 7 s er) := by
  have hgp : g ≠ bp := blk_ne h hp (by decide)
  have HGP := Lib.hid hgp
  have HI0 := Lib.hid (h.below ((Below.refl w.heap.size w).alloc (Nat.le_refl _) (.cells #[.int .i64 7, .int .i64 x1, .int .u32 x2, .int .u32 x3, .int .i64 x4] 77)))
  have HP0 := Lib.hid (blk_alloc hp (.cells #[.int .i64 7, .int .i64 x1, .int .u32 x2, .int .u32 x3, .int .i64 x4] 77))
  have HR0 := Lib.hid (heap_alloc_new w (.cells #[.int .i64 7, .int .i64 x1, .int .u32 x2, .int .u32 x3, .int .i64 x4] 77))
  have HC0 := Lib.hid (show Chg (fun i => i = g ∨ i = bp) w (w.alloc (.cells #[.int .i64 7, .int .i64 x1, .int .u32 x2, .int .u32 x3, .int .i64 x4] 77)) from (Chg.refl _ _).alloc _)
  have HN := Lib.hid (show w.heap.size ≠ g ∧ w.heap.size ≠ bp by have h1 := h.lt; have h2 := blk_lt hp; omega)
  clear h hp hgp
  go_enter Tryz.func67, Tryz.ntmps67
  go_upto_region 16 with (go_at_call 75; refine (tp_in HI0.out).mono ?_; rintro e w1 hp; obtain ⟨a, b, s1, e1, rfl, hv, hv2, hi, hc, hE⟩ := hp; have HE := Lib.hid hE; have HV := Lib.hid hv; have HV2 := Lib.hid hv2; have HI1 := Lib.hid hi; have HP1 := Lib.hid (hc.blk HP0.out (fun e => HGP.out e.symm)); have HR1 := Lib.hid (hc.blk HR0.out HN.out.1); have HC1 := Lib.hid (HC0.out.trans (hc.mono (fun i hi => .inl hi))); obtain ⟨p0, p1, p2, p3⟩ := bxcell HP1.out; have fp1 := blk_frozen HP1.out 1; have fp2 := blk_frozen HP1.out 2; have fp3 := blk_frozen HP1.out 3; clear hi hc; clear hE hv hv2)
  have HI2 := Lib.hid ((HI1.out.setc bp 2 (.string a) HGP.out).setc bp 3 (.string b) HGP.out)
  have HP2 := Lib.hid (blk_put (blk_put HP1.out 2 (.string a) rfl) 3 (.string b) rfl)
  have HR2 := Lib.hid (blk_sfar (blk_sfar HR1.out 2 (.string a) HN.out.2) 3 (.string b) HN.out.2)
  have HC2 := Lib.hid ((HC1.out.setCell (p := ⟨bp, 2, none⟩) (.inl (.inr rfl)) (.string a)).setCell (p := ⟨bp, 3, none⟩) (.inl (.inr rfl)) (.string b))
  clear HI1 HP1 HR1 HC1 HI0 HP0 HR0 HC0 p0 p1 p2 p3 fp1 fp2 fp3
  generalize ((w1.setCell ⟨bp, 2, none⟩ (.string a)).setCell ⟨bp, 3, none⟩ (.string b)) = W1 at HI2 HP2 HR2 HC2 ⊢
  obtain ⟨p0, p1, p2, p3⟩ := bxcell HP2.out
  obtain ⟨r0, r1, r2, r3, r4⟩ := rcell HR2.out
  go_quiet (fail)
  go_wp2
  go_end0
  exact ⟨0, a, b, s1, e1, rfl, HP2.out, HI2.out.drN _, chg_drN HC2.out _, (by rw [valB_len]; exact HE.out), by decide, fun h => by omega, HV.out, HV2.out⟩
end Go.Proofs.YtljbchghbpmghaaGreatDoor
