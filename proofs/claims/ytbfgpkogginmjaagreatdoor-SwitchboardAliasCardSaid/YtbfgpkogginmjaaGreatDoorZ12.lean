/- Parts of a proof about aliases: HD. -/
import Derived.RegionTactic
import Derived.Test.YtbfgpkogginmjaaGreatDoorZ8
import Derived.Test.YtbfgpkogginmjaaGreatDoorZ11
section
namespace Go.Proofs.YtbfgpkogginmjaaGreatDoor
open Go.RowKit Go.Lib Go.Proofs.YtbfgpkogginmjaaGreatDoorW.PrintWords Go.Proofs.YtbfgpkogginmjaaGreatDoor.PSwitchboardGreat
set_option linter.unusedVariables false
set_option linter.unusedSimpArgs false
set_option maxHeartbeats 1000000 in
set_option maxRecDepth 1000000 in
theorem size_calls {w : World} (n : Nat) (hn : n ≤ 268435455) : Calls Tryz.prog 94 #[.int .u32 n] w fun e w' => e = .returned (.int .i64 ((varU n).length : Nat)) ∧ Below w.heap.size w w' := by
  have HN := Lib.hid (OW.new w (fun k => w.heap.size ≤ k))
  have HB := Lib.hid (show Below w.heap.size w (w.alloc (.cells #[.slice none 0 0] 59)) from (Below.refl _ _).alloc (Nat.le_refl _) _)
  go_enter Tryz.func94, Tryz.ntmps94
  go_wp2_with (first
    | (go_at_call 15; refine (ovar_calls HN.out (fun k hk => Nat.le_trans HB.out.size hk) (by rw [List.length_nil]; omega) n hn).mono ?_; rintro e w1 ⟨rfl, ho, hc1⟩; rw [List.nil_append] at ho; have HO1 := Lib.hid ho; have HB1 := Lib.hid (HB.out.trans (hc1.to_below HB.out.size (by omega) (fun _ h => h))); clear ho hc1)
    | (go_at_call 139; refine (len_calls HO1.out).mono ?_; rintro e w2 ⟨rfl, hb⟩; have HB2 := Lib.hid (HB1.out.trans (hb.mono HB1.out.size)); clear hb))
  go_ret
  exact ⟨rfl, HB2.out⟩
set_option maxHeartbeats 1000000 in
set_option maxRecDepth 1000000 in
theorem fsize_calls {w : World} (n : Nat) (hn : n ≤ 268435455) : Calls Tryz.prog 67 #[.int .i64 n] w fun e w' => e = .returned (.int .i64 (1 + (varU n).length + n : Nat)) ∧ Below w.heap.size w w' := by
  have HS := Lib.hid (fun W => size_calls (w := W) n hn)
  have hm : max (n : Int) 0 = (n : Int) := by omega
  have hm2 : (n : Int) % 4294967296 = (n : Int) := by omega
  have hv : (varU n).length ≤ 4 := varU_5 n hn
  generalize (varU n).length = v at HS hv ⊢
  go_enter Tryz.func67, Tryz.ntmps67
  go_wp2_with (first
    | (go_at_call 94; refine (HS.out _).mono ?_; rintro e w1 ⟨rfl, hb⟩; have HB1 := Lib.hid hb; clear hb))
  go_ret
  exact ⟨by push_cast; rfl, HB1.out⟩
def chk (k f : Nat) : Int := if k = 3 then (if f / 2 % 4 = 3 ∨ (f / 2 % 4 = 0 ∧ 8 ≤ f) then 2 else 0) else if k = 6 ∨ k = 8 ∨ k = 10 then (if f = 2 then 0 else 2) else if 1 ≤ k ∧ k ≤ 15 then (if f = 0 then 0 else 2) else 2
theorem chk_f (k f : Nat) (hk : k < 16) (hf : f < 16) : frame_Check.f 30 (k : Int) (f : Int) = some (chk k f) := by
  have h : ∀ (k f : Fin 16), frame_Check.f 30 ((k.1 : Nat) : Int) ((f.1 : Nat) : Int) = some (chk k.1 f.1) := by decide +kernel
  exact h ⟨k, hk⟩ ⟨f, hf⟩
theorem chk_calls (k f : Nat) (hk : k < 16) (hf : f < 16) (w : World) : Calls Tryz.prog 62 #[.int .i64 k, .int .i64 f] w fun e w' => e = .returned (.int .i64 (chk k f)) ∧ Below w.heap.size w w' := by
  refine (frame_Check.calls 30 k f _ w (chk_f k f hk hf)).mono ?_
  rintro e w' ⟨he, hd⟩
  exact ⟨he, hd.below⟩
theorem chk_2 (k f : Nat) : chk k f = 0 ∨ chk k f = 2 := by
  unfold chk
  (repeat' split) <;> simp
def RD (w : World) (g : Nat) (most : Int) (s : ByteArray) (er : Int) : Prop := w.heap[g]? = some (.cells #[.int .i64 most, .string s, .int .i64 er] 170 (0, 0))
section
variable {w w' w0 : World} {g : Nat} {most er : Int} {s : ByteArray} {S : Nat → Prop}
theorem RD.lt (h : RD w g most s er) : g < w.heap.size := blk_lt h
theorem RD.to (h : RD w g most s er) (hc : Chg S w w') (hg : ¬ S g) : RD w' g most s er := hc.blk h hg
theorem RD.below (h : RD w g most s er) (hc : Below w.heap.size w w') : RD w' g most s er := (Chg.of_below (S := fun _ => False) hc).blk h id
theorem RD.set (h : RD w g most s er) (a : Addr) (u : Value) (hg : g ≠ a.block) : RD (w.setCell a u) g most s er := h.to (S := fun k => k = a.block) ⟨rfl, rfl, rfl, by simp [World.setCell], fun i _ hn => Below.heap_setCell w a u i hn⟩ hg
theorem RD.dr (h : RD w g most s er) : RD w.drew g most s er := h
theorem RD.drN (h : RD w g most s er) (n : Nat) : RD (w.drewN n) g most s er := h
theorem chg_set (h : Chg S w w') (b i : Nat) (u : Value) (hb : w.heap.size ≤ b) : Chg S w (w'.setCell ⟨b, i, none⟩ u) := h.setCell (.inr hb) u
theorem RD.cells (h : RD w g most s er) : w.cell? ⟨g, 0, none⟩ = some (.int .i64 most) ∧ w.cell? ⟨g, 1, none⟩ = some (.string s) ∧ w.cell? ⟨g, 2, none⟩ = some (.int .i64 er) := frcell h
end
def RPost (w : World) (g : Nat) (v : Value) (most : Int) (s : ByteArray) (er : Int) (e : Ending) (w' : World) : Prop := e = .returned v ∧ RD w' g most s er ∧ Chg (fun i => i = g) w w'
theorem RD.lift {fn : Nat} {args : Array Value} {w : World} {g : Nat} {most most' : Int} {s s' : ByteArray} {er er' : Int} {v : Value} (h : RD w g most s er)
    (hc : ∀ w0 : World, IsS64 w0 w g most s er → Below w0.heap.size w0 w → Calls Tryz.prog fn args w fun e w' => e = .returned v ∧ IsS64 w0 w' g most' s' er' ∧ Below w0.heap.size w0 w' ∧ KeepBut w w' g none) :
    Calls Tryz.prog fn args w (RPost w g v most' s' er') := by
  have hl := Nat.le_of_lt h.lt
  refine (hc (upto w g) ⟨h, by rw [upto_size hl]; exact Nat.le_refl _⟩ (upto_below hl)).mono ?_
  rintro e w' ⟨he, hi, hb, hk⟩
  exact ⟨he, hi.1, Chg.of_keep (upto_below hl) hb hk⟩
theorem new_rd {w : World} (most : Int) : Calls Tryz.prog 37 #[.int .i64 most] w fun e w' => ∃ g, e = .returned (.pointer (some ⟨g, 0, none⟩)) ∧ RD w' g most ⟨#[]⟩ 0 ∧ w.heap.size ≤ g ∧ Below w.heap.size w w' := by
  refine (frame_New.calls most _ _ _ w w (Below.refl _ _) rfl).mono ?_
  rintro e w' ⟨g, he, hi, _, hb⟩
  exact ⟨g, he, hi.1, hi.2, hb⟩
theorem feed_rd {w : World} {g : Nat} {most : Int} {s : ByteArray} (h : RD w g most s 0) (t : ByteArray) (hs : s.size + t.size ≤ 9223372036854775807) : Calls Tryz.prog 42 #[.pointer (some ⟨g, 0, none⟩), .string t] w (RPost w g (.tuple #[]) most (s ++ t) 0) :=
  h.lift (fun w0 hi hb => frame_Reader_Feed.calls g most s 0 t _ _ _ w0 w hi hb (by unfold frame_Reader_Feed.f; rw [if_pos rfl, if_pos hs]))
theorem fail_rd {w : World} {g : Nat} {most er : Int} {s : ByteArray} (h : RD w g most s er) (n : Int) : Calls Tryz.prog 63 #[.pointer (some ⟨g, 0, none⟩), .int .i64 n] w (RPost w g (.tuple #[fr 0 0 ⟨#[]⟩, .int .i64 n]) most ⟨#[]⟩ n) :=
  h.lift (fun w0 hi hb => frame_Reader_fail.calls g most s er n _ _ _ _ _ _ _ w0 w hi hb rfl)
theorem waits_rd {w : World} {g : Nat} {most er : Int} {s : ByteArray} (h : RD w g most s er) : Calls Tryz.prog 49 #[.pointer (some ⟨g, 0, none⟩)] w (RPost w g (.int .i64 s.size) most s er) :=
  h.lift (fun w0 hi hb => frame_Reader_Waits.calls g most s er _ _ _ _ w0 w hi hb rfl)
set_option maxHeartbeats 4000000 in
set_option maxRecDepth 1000000 in
theorem next_nil {w : World} {g : Nat} {most : Int} (h : RD w g most ⟨#[]⟩ 0) : Calls Tryz.prog 43 #[.pointer (some ⟨g, 0, none⟩)] w (RPost w g (.tuple #[fr 0 0 ⟨#[]⟩, .int .i64 1]) most ⟨#[]⟩ 0) := by
  have HG := Lib.hid h.lt
  have HR := Lib.hid (h.below ((Below.refl w.heap.size w).alloc (Nat.le_refl _) (.cells #[.int .i64 0, .int .i64 0, .string ⟨#[]⟩] 128)))
  have HX := Lib.hid (heap_alloc_new w (.cells #[.int .i64 0, .int .i64 0, .string ⟨#[]⟩] 128))
  have HC := Lib.hid (show Chg (fun i => i = g) w (w.alloc (.cells #[.int .i64 0, .int .i64 0, .string ⟨#[]⟩] 128)) from (Chg.refl _ _).alloc _)
  obtain ⟨x0, x1, x2⟩ := HR.out.cells
  clear h
  go_enter Tryz.func43, Tryz.ntmps43
  go_wp2
  refine bodyPost_ret (v := .tuple #[fr 0 0 ⟨#[]⟩, .int .i64 1]) (by unfold fr; simp [results, Tryz.results43, go_sem]) rfl ⟨rfl, ?_, ?_⟩
  · have hg := HG.out
    repeat (first | exact HR.out | refine RD.set ?_ _ _ (by show g ≠ w.heap.size; omega) | refine RD.dr ?_ | refine RD.drN ?_ _)
  · repeat (first | exact HC.out | refine chg_set ?_ _ _ _ (Nat.le_refl _) | refine Chg.drew ?_ | refine Chg.drewN ?_ _)
theorem and15 (c : Nat) (h : c < 256) : Go.bits .and .i64 (c : Int) 15 = ((c % 16 : Nat) : Int) := by
  have h : ∀ n : Fin 256, Go.bits .and .i64 ((n.1 : Nat) : Int) 15 = ((n.1 % 16 : Nat) : Int) := by decide +kernel
  exact h ⟨c, by assumption⟩
theorem varG_lt : ∀ (j v : Nat) (s : ByteArray) (er : Int), j ≤ 4 → v < 128 ^ (4 - j) → (varG j v s er).1 < 268435456
  | 0, v, s, er, _, _ => by unfold varG; show (0 : Nat) < 268435456; decide
  | j + 1, v, s, er, hj, hv => by
    unfold varG
    have hstep : v + (byteN s er).1 % 128 * 128 ^ (3 - j) < 128 ^ (4 - j) := by
      have e : (128 : Nat) ^ (4 - j) = 128 ^ (3 - j) * 128 := by rw [← Nat.pow_succ]; congr 1; omega
      have e2 : 4 - (j + 1) = 3 - j := by omega
      rw [e2] at hv
      have hq : (byteN s er).1 % 128 ≤ 127 := by omega
      have h2 : (byteN s er).1 % 128 * 128 ^ (3 - j) ≤ 127 * 128 ^ (3 - j) := Nat.mul_le_mul_right _ hq
      rw [e]
      omega
    have hall : (128 : Nat) ^ (4 - j) ≤ 268435456 := by
      have : (128 : Nat) ^ (4 - j) ≤ 128 ^ 4 := Nat.pow_le_pow_right (by decide) (by omega)
      have e4 : (128 : Nat) ^ 4 = 268435456 := by decide
      omega
    split
    · show (0 : Nat) < 268435456; decide
    · split
      · exact varG_lt j _ _ _ (by omega) hstep
      · split
        · show (0 : Nat) < 268435456; decide
        · show v + (byteN s er).1 % 128 * 128 ^ (3 - j) < 268435456
          omega
theorem varR_lt (s : ByteArray) (er : Int) : (varR s er).1 ≤ 268435455 := by
  have := varG_lt 4 0 s er (Nat.le_refl _) (by decide)
  unfold varR
  omega
def nextF (most : Int) (s : ByteArray) : (Nat × Nat × ByteArray × Int) × (ByteArray × Int) :=
  if chk (byA s 0 / 16) (byA s 0 % 16) ≠ 0 then ((0, 0, ⟨#[]⟩, 2), (⟨#[]⟩, 2))
  else
    let v := varR (s.extract 1 s.size) 0
    if v.2.2 = 1 then ((0, 0, ⟨#[]⟩, 1), (s, 0))
    else if v.2.2 ≠ 0 then ((0, 0, ⟨#[]⟩, v.2.2), (⟨#[]⟩, v.2.2))
    else if most < (1 + (varU v.1).length + v.1 : Nat) then ((0, 0, ⟨#[]⟩, 4), (⟨#[]⟩, 4))
    else if v.2.1.size < v.1 then ((0, 0, ⟨#[]⟩, 1), (s, 0))
    else ((byA s 0 / 16, byA s 0 % 16, v.2.1.extract 0 v.1, 0), (v.2.1.extract v.1 v.2.1.size, 0))
theorem fail_ag {w : World} {g : Nat} {most er : Int} {s : ByteArray} (h : RD w g most s er) (n : Int) : Calls Tryz.prog 63 #[.pointer (some ⟨g, 0, none⟩), .int .i64 n] w (RPost w g (.tuple #[.agg #[.int .i64 0, .int .i64 0, .string ⟨#[]⟩], .int .i64 n]) most ⟨#[]⟩ n) := fail_rd h n
def NextP (w : World) (g : Nat) (most : Int) (r : (Nat × Nat × ByteArray × Int) × (ByteArray × Int)) : Ending → World → Prop := RPost w g (.tuple #[fr r.1.1 r.1.2.1 r.1.2.2.1, .int .i64 r.1.2.2.2]) most r.2.1 r.2.2
set_option maxHeartbeats 4000000 in
set_option maxRecDepth 1000000 in
theorem next_bad {w : World} {g : Nat} {most : Int} {s : ByteArray} (h : RD w g most s 0) (h0 : 0 < s.size) (hk : chk (byA s 0 / 16) (byA s 0 % 16) = 2) : Calls Tryz.prog 43 #[.pointer (some ⟨g, 0, none⟩)] w (NextP w g most ((0, 0, ⟨#[]⟩, 2), (⟨#[]⟩, 2))) := by
  have HG := Lib.hid h.lt
  have HR0 := Lib.hid (h.below ((Below.refl w.heap.size w).alloc (Nat.le_refl _) (.cells #[.int .i64 0, .int .i64 0, .string ⟨#[]⟩] 128)))
  have HX0 := Lib.hid (heap_alloc_new w (.cells #[.int .i64 0, .int .i64 0, .string ⟨#[]⟩] 128))
  have HC0 := Lib.hid (show Chg (fun i => i = g) w (w.alloc (.cells #[.int .i64 0, .int .i64 0, .string ⟨#[]⟩] 128)) from (Chg.refl _ _).alloc _)
  obtain ⟨a0, a1, a2⟩ := HR0.out.cells
  have hne : s.toList.isEmpty = false := by
    rw [Lib.toList_data]
    cases h : s.data.toList with
    | nil => have := Lib.size_eq s; rw [h, List.length_nil] at this; omega
    | cons _ _ => rfl
  have hsx : ((s[0]'h0).toNat) = byA s 0 := by
    unfold byA
    rw [List.getD_eq_getElem?_getD, Lib.data_getElem? s 0 h0]
    rfl
  have hlt := byA_lt s 0
  have b15 := and15 (byA s 0) hlt
  have hdiv : (byA s 0 : Int) / 16 = ((byA s 0 / 16 : Nat) : Int) := by omega
  have HCK := Lib.hid (fun W => chk_calls (byA s 0 / 16) (byA s 0 % 16) (by omega) (by omega) W)
  clear h
  rw [hk] at HCK
  clear hk
  generalize byA s 0 / 16 = k at HCK hdiv
  generalize byA s 0 % 16 = f at HCK b15
  go_enter Tryz.func43, Tryz.ntmps43
  go_wp2_with (first
    | (go_at_call 62; refine (HCK.out _).mono ?_; rintro e w1 ⟨rfl, hb⟩; have HR1 := Lib.hid (HR0.out.below hb); have HX1 := Lib.hid (hb.block _ (blk_lt HX0.out) |>.trans HX0.out); have HC1 := Lib.hid (HC0.out.below hb); obtain ⟨b0, b1, b2⟩ := HR1.out.cells; clear hb)
    | (go_at_call 63; refine (fail_ag HR1.out 2).mono ?_; rintro e w2 ⟨rfl, hr, hc⟩; have HR2 := Lib.hid hr; have HX2 := Lib.hid (hc.blk HX1.out (by have := HG.out; omega)); have HC2 := Lib.hid (HC1.out.trans hc); obtain ⟨r0, r1, r2⟩ := frcell HX2.out; have f0 := blk_frozen HX2.out 0; have f1 := blk_frozen HX2.out 1; have f2 := blk_frozen HX2.out 2; clear hr hc))
  refine bodyPost_ret (v := .tuple #[fr 0 0 ⟨#[]⟩, .int .i64 2]) (by unfold fr; simp [results, Tryz.results43, go_sem, r0, r1, r2]) rfl ⟨rfl, ?_, ?_⟩
  · have hg := HG.out
    repeat (first | exact HR2.out | refine RD.set ?_ _ _ (by show g ≠ w.heap.size; omega) | refine RD.dr ?_ | refine RD.drN ?_ _)
  · repeat (first | exact HC2.out | refine chg_set ?_ _ _ _ (Nat.le_refl _) | refine Chg.drew ?_ | refine Chg.drewN ?_ _)
set_option maxHeartbeats 4000000 in
set_option maxRecDepth 1000000 in
theorem next_end {w : World} {g : Nat} {most : Int} {s : ByteArray} (h : RD w g most s 0) (h0 : 0 < s.size) (hk : chk (byA s 0 / 16) (byA s 0 % 16) = 0) (he : (varR (s.extract 1 s.size) 0).2.2 = 1) : Calls Tryz.prog 43 #[.pointer (some ⟨g, 0, none⟩)] w (NextP w g most ((0, 0, ⟨#[]⟩, 1), (s, 0))) := by
  have HG := Lib.hid h.lt
  have HR0 := Lib.hid (h.below ((Below.refl w.heap.size w).alloc (Nat.le_refl _) (.cells #[.int .i64 0, .int .i64 0, .string ⟨#[]⟩] 128)))
  have HX0 := Lib.hid (heap_alloc_new w (.cells #[.int .i64 0, .int .i64 0, .string ⟨#[]⟩] 128))
  have HC0 := Lib.hid (show Chg (fun i => i = g) w (w.alloc (.cells #[.int .i64 0, .int .i64 0, .string ⟨#[]⟩] 128)) from (Chg.refl _ _).alloc _)
  obtain ⟨a0, a1, a2⟩ := HR0.out.cells
  have hne : s.toList.isEmpty = false := by
    rw [Lib.toList_data]
    cases h : s.data.toList with
    | nil => have := Lib.size_eq s; rw [h, List.length_nil] at this; omega
    | cons _ _ => rfl
  have hsx : ((s[0]'h0).toNat) = byA s 0 := by
    unfold byA
    rw [List.getD_eq_getElem?_getD, Lib.data_getElem? s 0 h0]
    rfl
  have hlt := byA_lt s 0
  have b15 := and15 (byA s 0) hlt
  have hdiv : (byA s 0 : Int) / 16 = ((byA s 0 / 16 : Nat) : Int) := by omega
  have HCK := Lib.hid (fun W => chk_calls (byA s 0 / 16) (byA s 0 % 16) (by omega) (by omega) W)
  clear h
  rw [hk] at HCK
  clear hk
  have HVR := Lib.hid (fun W g2 => fun (h : IN W g2 (s.extract 1 s.size) 0) => var_in h)
  have hn := varR_lt (s.extract 1 s.size) 0
  generalize varR (s.extract 1 s.size) 0 = V at HVR hn he ⊢
  obtain ⟨n, r, ev⟩ := V
  simp only at HVR hn he ⊢
  subst he
  generalize byA s 0 / 16 = k at HCK hdiv
  generalize byA s 0 % 16 = f at HCK b15
  go_enter Tryz.func43, Tryz.ntmps43
  go_wp2_with (first
    | (go_at_call 62; refine (HCK.out _).mono ?_; rintro e w1 ⟨rfl, hb⟩; have HR1 := Lib.hid (HR0.out.below hb); have HX1 := Lib.hid (hb.block _ (blk_lt HX0.out) |>.trans HX0.out); have HC1 := Lib.hid (HC0.out.below hb); obtain ⟨b0, b1, b2⟩ := HR1.out.cells; clear hb)
    | (go_at_call 64; refine (over_in (s.extract 1 s.size)).mono ?_; rintro e w2 ⟨g2, rfl, hi, hg2, hb⟩; have HR2 := Lib.hid (HR1.out.below hb); have HX2 := Lib.hid (hb.block _ (blk_lt HX1.out) |>.trans HX1.out); have HC2 := Lib.hid (HC1.out.below hb); obtain ⟨c0, c1, c2⟩ := HR2.out.cells; have HI2 := Lib.hid hi; have HN1 := Lib.hid (show g ≠ g2 by have := HR1.out.lt; omega); have HN2 := Lib.hid (show w.heap.size ≠ g2 by have := blk_lt HX1.out; omega); have HN3 := Lib.hid (show w.heap.size ≤ g2 by have := HC1.out.size; omega); clear hi hb hg2)
    | (go_at_call 65; refine (HVR.out _ _ HI2.out).mono ?_; rintro e w3 ⟨rfl, hi, hc⟩; have HI3 := Lib.hid hi; have HR3 := Lib.hid (HR2.out.to hc HN1.out); have HX3 := Lib.hid (hc.blk HX2.out HN2.out); have HC3 := Lib.hid (HC2.out.then_ hc (fun i hi => .inr (hi ▸ HN3.out))); obtain ⟨d0, d1, d2⟩ := HR3.out.cells; clear hi hc)
    | (go_at_call 66; refine (err_in HI3.out).mono ?_; rintro e w4 ⟨rfl, hi, hc⟩; have HI4 := Lib.hid hi; have HR4 := Lib.hid (HR3.out.to hc HN1.out); have HX4 := Lib.hid (hc.blk HX3.out HN2.out); have HC4 := Lib.hid (HC3.out.then_ hc (fun i hi => .inr (hi ▸ HN3.out))); obtain ⟨e0, e1, e2⟩ := HR4.out.cells; clear hi hc; obtain ⟨r0, r1, r2⟩ := frcell HX4.out; have f0 := blk_frozen HX4.out 0; have f1 := blk_frozen HX4.out 1; have f2 := blk_frozen HX4.out 2))
  refine bodyPost_ret (v := .tuple #[fr 0 0 ⟨#[]⟩, .int .i64 1]) (by unfold fr; simp [results, Tryz.results43, go_sem, r0, r1, r2]) rfl ⟨rfl, ?_, ?_⟩
  · have hg := HG.out
    repeat (first | exact HR4.out | refine RD.set ?_ _ _ (by show g ≠ w.heap.size; omega) | refine RD.dr ?_ | refine RD.drN ?_ _)
  · repeat (first | exact HC4.out | refine chg_set ?_ _ _ _ (Nat.le_refl _) | refine Chg.drew ?_ | refine Chg.drewN ?_ _)
set_option maxHeartbeats 4000000 in
set_option maxRecDepth 1000000 in
theorem next_form {w : World} {g : Nat} {most : Int} {s : ByteArray} (h : RD w g most s 0) (h0 : 0 < s.size) (hk : chk (byA s 0 / 16) (byA s 0 % 16) = 0) (he : (varR (s.extract 1 s.size) 0).2.2 ≠ 1) (he0 : (varR (s.extract 1 s.size) 0).2.2 ≠ 0) : Calls Tryz.prog 43 #[.pointer (some ⟨g, 0, none⟩)] w (NextP w g most ((0, 0, ⟨#[]⟩, (varR (s.extract 1 s.size) 0).2.2), (⟨#[]⟩, (varR (s.extract 1 s.size) 0).2.2))) := by
  have HG := Lib.hid h.lt
  have HR0 := Lib.hid (h.below ((Below.refl w.heap.size w).alloc (Nat.le_refl _) (.cells #[.int .i64 0, .int .i64 0, .string ⟨#[]⟩] 128)))
  have HX0 := Lib.hid (heap_alloc_new w (.cells #[.int .i64 0, .int .i64 0, .string ⟨#[]⟩] 128))
  have HC0 := Lib.hid (show Chg (fun i => i = g) w (w.alloc (.cells #[.int .i64 0, .int .i64 0, .string ⟨#[]⟩] 128)) from (Chg.refl _ _).alloc _)
  obtain ⟨a0, a1, a2⟩ := HR0.out.cells
  have hne : s.toList.isEmpty = false := by
    rw [Lib.toList_data]
    cases h : s.data.toList with
    | nil => have := Lib.size_eq s; rw [h, List.length_nil] at this; omega
    | cons _ _ => rfl
  have hsx : ((s[0]'h0).toNat) = byA s 0 := by
    unfold byA
    rw [List.getD_eq_getElem?_getD, Lib.data_getElem? s 0 h0]
    rfl
  have hlt := byA_lt s 0
  have b15 := and15 (byA s 0) hlt
  have hdiv : (byA s 0 : Int) / 16 = ((byA s 0 / 16 : Nat) : Int) := by omega
  have HCK := Lib.hid (fun W => chk_calls (byA s 0 / 16) (byA s 0 % 16) (by omega) (by omega) W)
  clear h
  rw [hk] at HCK
  clear hk
  have HVR := Lib.hid (fun W g2 => fun (h : IN W g2 (s.extract 1 s.size) 0) => var_in h)
  have hn := varR_lt (s.extract 1 s.size) 0
  generalize varR (s.extract 1 s.size) 0 = V at HVR hn he he0 ⊢
  obtain ⟨n, r, ev⟩ := V
  simp only at HVR hn he he0 ⊢
  generalize byA s 0 / 16 = k at HCK hdiv
  generalize byA s 0 % 16 = f at HCK b15
  have hq1 : (ev == 1) = false := beq_eq_false_iff_ne.2 he
  have hq2 : (ev != 0) = true := by simpa [bne_iff_ne] using he0
  clear he he0
  go_enter Tryz.func43, Tryz.ntmps43
  go_wp2_with (first
    | (go_at_call 62; refine (HCK.out _).mono ?_; rintro e w1 ⟨rfl, hb⟩; have HR1 := Lib.hid (HR0.out.below hb); have HX1 := Lib.hid (hb.block _ (blk_lt HX0.out) |>.trans HX0.out); have HC1 := Lib.hid (HC0.out.below hb); obtain ⟨b0, b1, b2⟩ := HR1.out.cells; clear hb)
    | (go_at_call 64; refine (over_in (s.extract 1 s.size)).mono ?_; rintro e w2 ⟨g2, rfl, hi, hg2, hb⟩; have HR2 := Lib.hid (HR1.out.below hb); have HX2 := Lib.hid (hb.block _ (blk_lt HX1.out) |>.trans HX1.out); have HC2 := Lib.hid (HC1.out.below hb); obtain ⟨c0, c1, c2⟩ := HR2.out.cells; have HI2 := Lib.hid hi; have HN1 := Lib.hid (show g ≠ g2 by have := HR1.out.lt; omega); have HN2 := Lib.hid (show w.heap.size ≠ g2 by have := blk_lt HX1.out; omega); have HN3 := Lib.hid (show w.heap.size ≤ g2 by have := HC1.out.size; omega); clear hi hb hg2)
    | (go_at_call 65; refine (HVR.out _ _ HI2.out).mono ?_; rintro e w3 ⟨rfl, hi, hc⟩; have HI3 := Lib.hid hi; have HR3 := Lib.hid (HR2.out.to hc HN1.out); have HX3 := Lib.hid (hc.blk HX2.out HN2.out); have HC3 := Lib.hid (HC2.out.then_ hc (fun i hi => .inr (hi ▸ HN3.out))); obtain ⟨d0, d1, d2⟩ := HR3.out.cells; clear hi hc)
    | (go_at_call 66; refine (err_in HI3.out).mono ?_; rintro e w4 ⟨rfl, hi, hc⟩; have HI4 := Lib.hid hi; have HR4 := Lib.hid (HR3.out.to hc HN1.out); have HX4 := Lib.hid (hc.blk HX3.out HN2.out); have HC4 := Lib.hid (HC3.out.then_ hc (fun i hi => .inr (hi ▸ HN3.out))); obtain ⟨e0, e1, e2⟩ := HR4.out.cells; clear hi hc; obtain ⟨r0, r1, r2⟩ := frcell HX4.out; have f0 := blk_frozen HX4.out 0; have f1 := blk_frozen HX4.out 1; have f2 := blk_frozen HX4.out 2)
    | (go_at_call 63; refine (fail_ag HR4.out ev).mono ?_; rintro e w5 ⟨rfl, hr, hc⟩; have HR5 := Lib.hid hr; have HX5 := Lib.hid (hc.blk HX4.out (by have := HG.out; omega)); have HC5 := Lib.hid (HC4.out.trans hc); obtain ⟨r0, r1, r2⟩ := frcell HX5.out; have f0 := blk_frozen HX5.out 0; have f1 := blk_frozen HX5.out 1; have f2 := blk_frozen HX5.out 2; clear hr hc))
  refine bodyPost_ret (v := .tuple #[fr 0 0 ⟨#[]⟩, .int .i64 ev]) (by unfold fr; simp [results, Tryz.results43, go_sem, r0, r1, r2]) rfl ⟨rfl, ?_, ?_⟩
  · have hg := HG.out
    repeat (first | exact HR5.out | refine RD.set ?_ _ _ (by show g ≠ w.heap.size; omega) | refine RD.dr ?_ | refine RD.drN ?_ _)
  · repeat (first | exact HC5.out | refine chg_set ?_ _ _ _ (Nat.le_refl _) | refine Chg.drew ?_ | refine Chg.drewN ?_ _)
set_option maxHeartbeats 4000000 in
set_option maxRecDepth 1000000 in
theorem next_big {w : World} {g : Nat} {most : Int} {s : ByteArray} (h : RD w g most s 0) (h0 : 0 < s.size) (hk : chk (byA s 0 / 16) (byA s 0 % 16) = 0) (he : (varR (s.extract 1 s.size) 0).2.2 = 0) (hz : most < ((1 + (varU (varR (s.extract 1 s.size) 0).1).length + (varR (s.extract 1 s.size) 0).1 : Nat) : Int)) : Calls Tryz.prog 43 #[.pointer (some ⟨g, 0, none⟩)] w (NextP w g most ((0, 0, ⟨#[]⟩, 4), (⟨#[]⟩, 4))) := by
  have HG := Lib.hid h.lt
  have HR0 := Lib.hid (h.below ((Below.refl w.heap.size w).alloc (Nat.le_refl _) (.cells #[.int .i64 0, .int .i64 0, .string ⟨#[]⟩] 128)))
  have HX0 := Lib.hid (heap_alloc_new w (.cells #[.int .i64 0, .int .i64 0, .string ⟨#[]⟩] 128))
  have HC0 := Lib.hid (show Chg (fun i => i = g) w (w.alloc (.cells #[.int .i64 0, .int .i64 0, .string ⟨#[]⟩] 128)) from (Chg.refl _ _).alloc _)
  obtain ⟨a0, a1, a2⟩ := HR0.out.cells
  have hne : s.toList.isEmpty = false := by
    rw [Lib.toList_data]
    cases h : s.data.toList with
    | nil => have := Lib.size_eq s; rw [h, List.length_nil] at this; omega
    | cons _ _ => rfl
  have hsx : ((s[0]'h0).toNat) = byA s 0 := by
    unfold byA
    rw [List.getD_eq_getElem?_getD, Lib.data_getElem? s 0 h0]
    rfl
  have hlt := byA_lt s 0
  have b15 := and15 (byA s 0) hlt
  have hdiv : (byA s 0 : Int) / 16 = ((byA s 0 / 16 : Nat) : Int) := by omega
  have HCK := Lib.hid (fun W => chk_calls (byA s 0 / 16) (byA s 0 % 16) (by omega) (by omega) W)
  clear h
  rw [hk] at HCK
  clear hk
  have HVR := Lib.hid (fun W g2 => fun (h : IN W g2 (s.extract 1 s.size) 0) => var_in h)
  have hn := varR_lt (s.extract 1 s.size) 0
  generalize varR (s.extract 1 s.size) 0 = V at HVR hn he hz ⊢
  obtain ⟨n, r, ev⟩ := V
  simp only at HVR hn he hz ⊢
  subst he
  generalize byA s 0 / 16 = k at HCK hdiv
  generalize byA s 0 % 16 = f at HCK b15
  have HSZ := Lib.hid (fun W => fsize_calls (w := W) n hn)
  generalize 1 + (varU n).length + n = sz at HSZ hz
  have hq : decide (most < (sz : Int)) = true := decide_eq_true hz
  clear hz
  go_enter Tryz.func43, Tryz.ntmps43
  go_upto_region 16 with (first
    | (go_at_call 62; refine (HCK.out _).mono ?_; rintro e w1 ⟨rfl, hb⟩; have HR1 := Lib.hid (HR0.out.below hb); have HX1 := Lib.hid (hb.block _ (blk_lt HX0.out) |>.trans HX0.out); have HC1 := Lib.hid (HC0.out.below hb); obtain ⟨b0, b1, b2⟩ := HR1.out.cells; clear hb)
    | (go_at_call 64; refine (over_in (s.extract 1 s.size)).mono ?_; rintro e w2 ⟨g2, rfl, hi, hg2, hb⟩; have HR2 := Lib.hid (HR1.out.below hb); have HX2 := Lib.hid (hb.block _ (blk_lt HX1.out) |>.trans HX1.out); have HC2 := Lib.hid (HC1.out.below hb); obtain ⟨c0, c1, c2⟩ := HR2.out.cells; have HI2 := Lib.hid hi; have HN1 := Lib.hid (show g ≠ g2 by have := HR1.out.lt; omega); have HN2 := Lib.hid (show w.heap.size ≠ g2 by have := blk_lt HX1.out; omega); have HN3 := Lib.hid (show w.heap.size ≤ g2 by have := HC1.out.size; omega); clear hi hb hg2)
    | (go_at_call 65; refine (HVR.out _ _ HI2.out).mono ?_; rintro e w3 ⟨rfl, hi, hc⟩; have HI3 := Lib.hid hi; have HR3 := Lib.hid (HR2.out.to hc HN1.out); have HX3 := Lib.hid (hc.blk HX2.out HN2.out); have HC3 := Lib.hid (HC2.out.then_ hc (fun i hi => .inr (hi ▸ HN3.out))); obtain ⟨d0, d1, d2⟩ := HR3.out.cells; clear hi hc)
    | (go_at_call 66; refine (err_in HI3.out).mono ?_; rintro e w4 ⟨rfl, hi, hc⟩; have HI4 := Lib.hid hi; have HR4 := Lib.hid (HR3.out.to hc HN1.out); have HX4 := Lib.hid (hc.blk HX3.out HN2.out); have HC4 := Lib.hid (HC3.out.then_ hc (fun i hi => .inr (hi ▸ HN3.out))); obtain ⟨e0, e1, e2⟩ := HR4.out.cells; clear hi hc; obtain ⟨r0, r1, r2⟩ := frcell HX4.out; have f0 := blk_frozen HX4.out 0; have f1 := blk_frozen HX4.out 1; have f2 := blk_frozen HX4.out 2))
  have HRd := Lib.hid HR4.out.dr
  have HXd := Lib.hid (blk_drew HX4.out)
  have HCd := Lib.hid HC4.out.drew
  have HId := Lib.hid HI4.out.drew
  clear HR4 HX4 HC4 HI4
  go_region_held3 (fun w' => w'.cell? ⟨g, 0, none⟩ = some (.int .i64 most)) (first | exact e0 | exact p0 | go_keep) (first
    | (go_at_call 67; (with_reducible refine (HSZ.out _).mono ?_); rintro e w5 ⟨rfl, hb⟩; have HR5 := Lib.hid (HRd.out.below hb); have HX5 := Lib.hid (hb.block _ (blk_lt HXd.out) |>.trans HXd.out); have HC5 := Lib.hid (HCd.out.below hb); have HI5 := Lib.hid (HId.out.below hb); obtain ⟨p0, p1, p2⟩ := HR5.out.cells; obtain ⟨r0, r1, r2⟩ := frcell HX5.out; have f0 := blk_frozen HX5.out 0; have f1 := blk_frozen HX5.out 1; have f2 := blk_frozen HX5.out 2; clear hb))
  clear r0 r1 r2 f0 f1 f2
  go_wp2_with (first
    | (go_at_call 63; refine (fail_ag HR5.out 4).mono ?_; rintro e w6 ⟨rfl, hr, hc⟩; have HR6 := Lib.hid hr; have HX6 := Lib.hid (hc.blk HX5.out (by have := HG.out; omega)); have HC6 := Lib.hid (HC5.out.trans hc); obtain ⟨r0, r1, r2⟩ := frcell HX6.out; have f0 := blk_frozen HX6.out 0; have f1 := blk_frozen HX6.out 1; have f2 := blk_frozen HX6.out 2; clear hr hc))
  refine bodyPost_ret (v := .tuple #[fr 0 0 ⟨#[]⟩, .int .i64 4]) (by unfold fr; simp [results, Tryz.results43, go_sem, r0, r1, r2]) rfl ⟨rfl, ?_, ?_⟩
  · have hg := HG.out
    repeat (first | exact HR6.out | refine RD.set ?_ _ _ (by show g ≠ w.heap.size; omega) | refine RD.dr ?_ | refine RD.drN ?_ _)
  · repeat (first | exact HC6.out | refine chg_set ?_ _ _ _ (Nat.le_refl _) | refine Chg.drew ?_ | refine Chg.drewN ?_ _)
set_option maxHeartbeats 4000000 in
set_option maxRecDepth 1000000 in
theorem next_short {w : World} {g : Nat} {most : Int} {s : ByteArray} (h : RD w g most s 0) (h0 : 0 < s.size) (hk : chk (byA s 0 / 16) (byA s 0 % 16) = 0) (he : (varR (s.extract 1 s.size) 0).2.2 = 0) (hz : ¬ most < ((1 + (varU (varR (s.extract 1 s.size) 0).1).length + (varR (s.extract 1 s.size) 0).1 : Nat) : Int)) (hs : (varR (s.extract 1 s.size) 0).2.1.size < (varR (s.extract 1 s.size) 0).1) : Calls Tryz.prog 43 #[.pointer (some ⟨g, 0, none⟩)] w (NextP w g most ((0, 0, ⟨#[]⟩, 1), (s, 0))) := by
  have HG := Lib.hid h.lt
  have HR0 := Lib.hid (h.below ((Below.refl w.heap.size w).alloc (Nat.le_refl _) (.cells #[.int .i64 0, .int .i64 0, .string ⟨#[]⟩] 128)))
  have HX0 := Lib.hid (heap_alloc_new w (.cells #[.int .i64 0, .int .i64 0, .string ⟨#[]⟩] 128))
  have HC0 := Lib.hid (show Chg (fun i => i = g) w (w.alloc (.cells #[.int .i64 0, .int .i64 0, .string ⟨#[]⟩] 128)) from (Chg.refl _ _).alloc _)
  obtain ⟨a0, a1, a2⟩ := HR0.out.cells
  have hne : s.toList.isEmpty = false := by
    rw [Lib.toList_data]
    cases h : s.data.toList with
    | nil => have := Lib.size_eq s; rw [h, List.length_nil] at this; omega
    | cons _ _ => rfl
  have hsx : ((s[0]'h0).toNat) = byA s 0 := by
    unfold byA
    rw [List.getD_eq_getElem?_getD, Lib.data_getElem? s 0 h0]
    rfl
  have hlt := byA_lt s 0
  have b15 := and15 (byA s 0) hlt
  have hdiv : (byA s 0 : Int) / 16 = ((byA s 0 / 16 : Nat) : Int) := by omega
  have HCK := Lib.hid (fun W => chk_calls (byA s 0 / 16) (byA s 0 % 16) (by omega) (by omega) W)
  clear h
  rw [hk] at HCK
  clear hk
  have HVR := Lib.hid (fun W g2 => fun (h : IN W g2 (s.extract 1 s.size) 0) => var_in h)
  have hn := varR_lt (s.extract 1 s.size) 0
  generalize varR (s.extract 1 s.size) 0 = V at HVR hn he hz hs ⊢
  obtain ⟨n, r, ev⟩ := V
  simp only at HVR hn he hz hs ⊢
  subst he
  generalize byA s 0 / 16 = k at HCK hdiv
  generalize byA s 0 % 16 = f at HCK b15
  have HSZ := Lib.hid (fun W => fsize_calls (w := W) n hn)
  generalize 1 + (varU n).length + n = sz at HSZ hz
  have hq : decide (most < (sz : Int)) = false := decide_eq_false hz
  have hs2 : decide (r.size < n) = true := decide_eq_true hs
  clear hz hs
  go_enter Tryz.func43, Tryz.ntmps43
  go_upto_region 16 with (first
    | (go_at_call 62; refine (HCK.out _).mono ?_; rintro e w1 ⟨rfl, hb⟩; have HR1 := Lib.hid (HR0.out.below hb); have HX1 := Lib.hid (hb.block _ (blk_lt HX0.out) |>.trans HX0.out); have HC1 := Lib.hid (HC0.out.below hb); obtain ⟨b0, b1, b2⟩ := HR1.out.cells; clear hb)
    | (go_at_call 64; refine (over_in (s.extract 1 s.size)).mono ?_; rintro e w2 ⟨g2, rfl, hi, hg2, hb⟩; have HR2 := Lib.hid (HR1.out.below hb); have HX2 := Lib.hid (hb.block _ (blk_lt HX1.out) |>.trans HX1.out); have HC2 := Lib.hid (HC1.out.below hb); obtain ⟨c0, c1, c2⟩ := HR2.out.cells; have HI2 := Lib.hid hi; have HN1 := Lib.hid (show g ≠ g2 by have := HR1.out.lt; omega); have HN2 := Lib.hid (show w.heap.size ≠ g2 by have := blk_lt HX1.out; omega); have HN3 := Lib.hid (show w.heap.size ≤ g2 by have := HC1.out.size; omega); clear hi hb hg2)
    | (go_at_call 65; refine (HVR.out _ _ HI2.out).mono ?_; rintro e w3 ⟨rfl, hi, hc⟩; have HI3 := Lib.hid hi; have HR3 := Lib.hid (HR2.out.to hc HN1.out); have HX3 := Lib.hid (hc.blk HX2.out HN2.out); have HC3 := Lib.hid (HC2.out.then_ hc (fun i hi => .inr (hi ▸ HN3.out))); obtain ⟨d0, d1, d2⟩ := HR3.out.cells; clear hi hc)
    | (go_at_call 66; refine (err_in HI3.out).mono ?_; rintro e w4 ⟨rfl, hi, hc⟩; have HI4 := Lib.hid hi; have HR4 := Lib.hid (HR3.out.to hc HN1.out); have HX4 := Lib.hid (hc.blk HX3.out HN2.out); have HC4 := Lib.hid (HC3.out.then_ hc (fun i hi => .inr (hi ▸ HN3.out))); obtain ⟨e0, e1, e2⟩ := HR4.out.cells; clear hi hc; obtain ⟨r0, r1, r2⟩ := frcell HX4.out; have f0 := blk_frozen HX4.out 0; have f1 := blk_frozen HX4.out 1; have f2 := blk_frozen HX4.out 2))
  have HRd := Lib.hid HR4.out.dr
  have HXd := Lib.hid (blk_drew HX4.out)
  have HCd := Lib.hid HC4.out.drew
  have HId := Lib.hid HI4.out.drew
  clear HR4 HX4 HC4 HI4
  go_region_held3 (fun w' => w'.cell? ⟨g, 0, none⟩ = some (.int .i64 most)) (first | exact e0 | exact p0 | go_keep) (first
    | (go_at_call 67; (with_reducible refine (HSZ.out _).mono ?_); rintro e w5 ⟨rfl, hb⟩; have HR5 := Lib.hid (HRd.out.below hb); have HX5 := Lib.hid (hb.block _ (blk_lt HXd.out) |>.trans HXd.out); have HC5 := Lib.hid (HCd.out.below hb); have HI5 := Lib.hid (HId.out.below hb); obtain ⟨p0, p1, p2⟩ := HR5.out.cells; obtain ⟨r0, r1, r2⟩ := frcell HX5.out; have f0 := blk_frozen HX5.out 0; have f1 := blk_frozen HX5.out 1; have f2 := blk_frozen HX5.out 2; clear hb))
  clear r0 r1 r2 f0 f1 f2
  go_wp2_with (first
    | (go_at_call 68; refine (left_in HI5.out).mono ?_; rintro e w6 ⟨rfl, hi, hc⟩; have HI6 := Lib.hid hi; have HR6 := Lib.hid (HR5.out.to hc HN1.out); have HX6 := Lib.hid (hc.blk HX5.out HN2.out); have HC6 := Lib.hid (HC5.out.then_ hc (fun i hi => .inr (hi ▸ HN3.out))); obtain ⟨l0, l1, l2⟩ := HR6.out.cells; clear hi hc; obtain ⟨r0, r1, r2⟩ := frcell HX6.out; have f0 := blk_frozen HX6.out 0; have f1 := blk_frozen HX6.out 1; have f2 := blk_frozen HX6.out 2))
  refine bodyPost_ret (v := .tuple #[fr 0 0 ⟨#[]⟩, .int .i64 1]) (by unfold fr; simp [results, Tryz.results43, go_sem, r0, r1, r2]) rfl ⟨rfl, ?_, ?_⟩
  · have hg := HG.out
    repeat (first | exact HR6.out | refine RD.set ?_ _ _ (by show g ≠ w.heap.size; omega) | refine RD.dr ?_ | refine RD.drN ?_ _)
  · repeat (first | exact HC6.out | refine chg_set ?_ _ _ _ (Nat.le_refl _) | refine Chg.drew ?_ | refine Chg.drewN ?_ _)
theorem rawR_take (s : ByteArray) (n : Nat) (h : ¬ s.size < n) : rawR s 0 n = (s.extract 0 n, s.extract n s.size, 0) := by
  unfold rawR
  rw [if_neg (by decide), if_neg (by omega), Int.toNat_natCast]
theorem rawR_rest (s : ByteArray) : rawR s 0 s.size = (s, ⟨#[]⟩, 0) := by
  rw [rawR_take s s.size (by omega)]
  have e1 : s.extract 0 s.size = s := by rw [Lib.extract_eq, Lib.size_eq, List.drop_zero, Nat.sub_zero, List.take_length]
  have e2 : s.extract s.size s.size = ⟨#[]⟩ := by rw [Lib.extract_eq, Nat.sub_self, List.take_zero]
  rw [e1, e2]
set_option maxHeartbeats 4000000 in
set_option maxRecDepth 1000000 in
theorem next_ok {w : World} {g : Nat} {most : Int} {s : ByteArray} (h : RD w g most s 0) (h0 : 0 < s.size) (hk : chk (byA s 0 / 16) (byA s 0 % 16) = 0) (he : (varR (s.extract 1 s.size) 0).2.2 = 0) (hz : ¬ most < ((1 + (varU (varR (s.extract 1 s.size) 0).1).length + (varR (s.extract 1 s.size) 0).1 : Nat) : Int)) (hs : ¬ (varR (s.extract 1 s.size) 0).2.1.size < (varR (s.extract 1 s.size) 0).1) : Calls Tryz.prog 43 #[.pointer (some ⟨g, 0, none⟩)] w (NextP w g most ((byA s 0 / 16, byA s 0 % 16, (varR (s.extract 1 s.size) 0).2.1.extract 0 (varR (s.extract 1 s.size) 0).1, 0), ((varR (s.extract 1 s.size) 0).2.1.extract (varR (s.extract 1 s.size) 0).1 (varR (s.extract 1 s.size) 0).2.1.size, 0))) := by
  have HG := Lib.hid h.lt
  have HR0 := Lib.hid (h.below ((Below.refl w.heap.size w).alloc (Nat.le_refl _) (.cells #[.int .i64 0, .int .i64 0, .string ⟨#[]⟩] 128)))
  have HX0 := Lib.hid (heap_alloc_new w (.cells #[.int .i64 0, .int .i64 0, .string ⟨#[]⟩] 128))
  have HC0 := Lib.hid (show Chg (fun i => i = g) w (w.alloc (.cells #[.int .i64 0, .int .i64 0, .string ⟨#[]⟩] 128)) from (Chg.refl _ _).alloc _)
  obtain ⟨a0, a1, a2⟩ := HR0.out.cells
  have hne : s.toList.isEmpty = false := by
    rw [Lib.toList_data]
    cases h : s.data.toList with
    | nil => have := Lib.size_eq s; rw [h, List.length_nil] at this; omega
    | cons _ _ => rfl
  have hsx : ((s[0]'h0).toNat) = byA s 0 := by
    unfold byA
    rw [List.getD_eq_getElem?_getD, Lib.data_getElem? s 0 h0]
    rfl
  have hlt := byA_lt s 0
  have b15 := and15 (byA s 0) hlt
  have hdiv : (byA s 0 : Int) / 16 = ((byA s 0 / 16 : Nat) : Int) := by omega
  have HCK := Lib.hid (fun W => chk_calls (byA s 0 / 16) (byA s 0 % 16) (by omega) (by omega) W)
  clear h
  rw [hk] at HCK
  clear hk
  have HVR := Lib.hid (fun W g2 => fun (h : IN W g2 (s.extract 1 s.size) 0) => var_in h)
  have hn := varR_lt (s.extract 1 s.size) 0
  generalize varR (s.extract 1 s.size) 0 = V at HVR hn he hz hs ⊢
  obtain ⟨n, r, ev⟩ := V
  simp only at HVR hn he hz hs ⊢
  subst he
  generalize byA s 0 / 16 = k at HCK hdiv ⊢
  generalize byA s 0 % 16 = f at HCK b15 ⊢
  have HSZ := Lib.hid (fun W => fsize_calls (w := W) n hn)
  generalize 1 + (varU n).length + n = sz at HSZ hz
  have hq : decide (most < (sz : Int)) = false := decide_eq_false hz
  have hs2 : decide (r.size < n) = false := decide_eq_false hs
  have HRAW := Lib.hid (fun W g2 => fun (h : IN W g2 r 0) => raw_in h (n : Int))
  rw [rawR_take r n hs] at HRAW
  generalize r.extract 0 n = B at HRAW ⊢
  generalize r.extract n r.size = T at HRAW ⊢
  have HREST := Lib.hid (fun W g2 => fun (h : IN W g2 T 0) => rest_in h)
  rw [rawR_rest T] at HREST
  simp only at HRAW HREST ⊢
  clear hz hs
  go_enter Tryz.func43, Tryz.ntmps43
  go_upto_region 16 with (first
    | (go_at_call 62; refine (HCK.out _).mono ?_; rintro e w1 ⟨rfl, hb⟩; have HR1 := Lib.hid (HR0.out.below hb); have HX1 := Lib.hid (hb.block _ (blk_lt HX0.out) |>.trans HX0.out); have HC1 := Lib.hid (HC0.out.below hb); obtain ⟨b0, b1, b2⟩ := HR1.out.cells; clear hb)
    | (go_at_call 64; refine (over_in (s.extract 1 s.size)).mono ?_; rintro e w2 ⟨g2, rfl, hi, hg2, hb⟩; have HR2 := Lib.hid (HR1.out.below hb); have HX2 := Lib.hid (hb.block _ (blk_lt HX1.out) |>.trans HX1.out); have HC2 := Lib.hid (HC1.out.below hb); obtain ⟨c0, c1, c2⟩ := HR2.out.cells; have HI2 := Lib.hid hi; have HN1 := Lib.hid (show g ≠ g2 by have := HR1.out.lt; omega); have HN2 := Lib.hid (show w.heap.size ≠ g2 by have := blk_lt HX1.out; omega); have HN3 := Lib.hid (show w.heap.size ≤ g2 by have := HC1.out.size; omega); clear hi hb hg2)
    | (go_at_call 65; refine (HVR.out _ _ HI2.out).mono ?_; rintro e w3 ⟨rfl, hi, hc⟩; have HI3 := Lib.hid hi; have HR3 := Lib.hid (HR2.out.to hc HN1.out); have HX3 := Lib.hid (hc.blk HX2.out HN2.out); have HC3 := Lib.hid (HC2.out.then_ hc (fun i hi => .inr (hi ▸ HN3.out))); obtain ⟨d0, d1, d2⟩ := HR3.out.cells; clear hi hc)
    | (go_at_call 66; refine (err_in HI3.out).mono ?_; rintro e w4 ⟨rfl, hi, hc⟩; have HI4 := Lib.hid hi; have HR4 := Lib.hid (HR3.out.to hc HN1.out); have HX4 := Lib.hid (hc.blk HX3.out HN2.out); have HC4 := Lib.hid (HC3.out.then_ hc (fun i hi => .inr (hi ▸ HN3.out))); obtain ⟨e0, e1, e2⟩ := HR4.out.cells; clear hi hc; obtain ⟨r0, r1, r2⟩ := frcell HX4.out; have f0 := blk_frozen HX4.out 0; have f1 := blk_frozen HX4.out 1; have f2 := blk_frozen HX4.out 2))
  have HRd := Lib.hid HR4.out.dr
  have HXd := Lib.hid (blk_drew HX4.out)
  have HCd := Lib.hid HC4.out.drew
  have HId := Lib.hid HI4.out.drew
  clear HR4 HX4 HC4 HI4
  go_region_held3 (fun w' => w'.cell? ⟨g, 0, none⟩ = some (.int .i64 most)) (first | exact e0 | exact p0 | go_keep) (first
    | (go_at_call 67; (with_reducible refine (HSZ.out _).mono ?_); rintro e w5 ⟨rfl, hb⟩; have HR5 := Lib.hid (HRd.out.below hb); have HX5 := Lib.hid (hb.block _ (blk_lt HXd.out) |>.trans HXd.out); have HC5 := Lib.hid (HCd.out.below hb); have HI5 := Lib.hid (HId.out.below hb); obtain ⟨p0, p1, p2⟩ := HR5.out.cells; obtain ⟨r0, r1, r2⟩ := frcell HX5.out; have f0 := blk_frozen HX5.out 0; have f1 := blk_frozen HX5.out 1; have f2 := blk_frozen HX5.out 2; clear hb))
  clear r0 r1 r2 f0 f1 f2
  go_wp2_with (first
    | (go_at_call 68; refine (left_in HI5.out).mono ?_; rintro e w6 ⟨rfl, hi, hc⟩; have HI6 := Lib.hid hi; have HR6 := Lib.hid (HR5.out.to hc HN1.out); have HX6 := Lib.hid (hc.blk HX5.out HN2.out); have HC6 := Lib.hid (HC5.out.then_ hc (fun i hi => .inr (hi ▸ HN3.out))); obtain ⟨l0, l1, l2⟩ := HR6.out.cells; clear hi hc)
    | (go_at_call 69; refine (HRAW.out _ _ HI6.out).mono ?_; rintro e w7 ⟨rfl, hi, hc⟩; have HI7 := Lib.hid hi; have HR7 := Lib.hid (HR6.out.to hc HN1.out); have HX7 := Lib.hid (hc.blk HX6.out HN2.out); have HC7 := Lib.hid (HC6.out.then_ hc (fun i hi => .inr (hi ▸ HN3.out))); obtain ⟨m0, m1, m2⟩ := HR7.out.cells; clear hi hc; have HI8 := Lib.hid (fun t cs => HI7.out.below ((Below.refl w7.heap.size w7).alloc (Nat.le_refl _) (.cells cs t))); have HR8 := Lib.hid (fun t cs => HR7.out.below ((Below.refl w7.heap.size w7).alloc (Nat.le_refl _) (.cells cs t))); have HX8 := Lib.hid (fun t cs => blk_alloc HX7.out (.cells cs t)); have HC8 := Lib.hid (fun t cs => HC7.out.alloc (.cells cs t)); have HN4 := Lib.hid (show w7.heap.size ≠ g2 by have := HI7.out.lt; omega); have HN5 := Lib.hid (show w7.heap.size ≠ g ∧ w7.heap.size ≠ w.heap.size by have h1 := HR7.out.lt; have h2 := blk_lt HX7.out; omega))
    | (go_at_call 70; refine (HREST.out _ _ (HI8.out _ _)).mono ?_; rintro e w8 ⟨rfl, hi, hc⟩; have HR9 := Lib.hid ((HR8.out _ _).to hc HN1.out); have HX9 := Lib.hid (hc.blk (HX8.out _ _) HN2.out); have HC9 := Lib.hid ((HC8.out _ _).then_ hc (fun i hi => .inr (hi ▸ HN3.out))); have HBX := Lib.hid (hc.blk (heap_alloc_new w7 _) HN4.out); obtain ⟨n0, n1, n2⟩ := HR9.out.cells; obtain ⟨o0, o1, o2⟩ := frcell HBX.out; have fg1 := blk_frozen HR9.out 1; have HBS := Lib.hid ((Chg.setCell (p := ⟨g, 1, none⟩) (Chg.refl (fun i => i = g) w8) (.inl rfl) (.string T)).blk HBX.out HN5.out.1); have HXS := Lib.hid ((Chg.setCell (p := ⟨g, 1, none⟩) (Chg.refl (fun i => i = g) w8) (.inl rfl) (.string T)).blk HX9.out (by have := HG.out; omega)); obtain ⟨q0, q1, q2⟩ := frcell HBS.out; obtain ⟨r0, r1, r2⟩ := frcell HXS.out; have f0 := blk_frozen HXS.out 0; have f1 := blk_frozen HXS.out 1; have f2 := blk_frozen HXS.out 2; clear hi hc))
  refine bodyPost_ret (v := .tuple #[fr k f B, .int .i64 0]) (by unfold fr; simp [results, Tryz.results43, go_sem, r0, r1, r2]) rfl ⟨rfl, ?_, ?_⟩
  · have hg := HG.out
    have hr0 : RD (w8.setCell ⟨g, 1, none⟩ (.string T)) g most T 0 := blk_put HR9.out 1 _ rfl
    exact ((hr0.set _ _ (by show g ≠ w.heap.size; omega)).set _ _ (by show g ≠ w.heap.size; omega)).set _ _ (by show g ≠ w.heap.size; omega)
  · exact chg_set (chg_set (chg_set (HC9.out.setCell (.inl rfl) _) _ _ _ (Nat.le_refl _)) _ _ _ (Nat.le_refl _)) _ _ _ (Nat.le_refl _)
theorem next_calls {w : World} {g : Nat} {most : Int} {s : ByteArray} (h : RD w g most s 0) (h0 : 0 < s.size) : Calls Tryz.prog 43 #[.pointer (some ⟨g, 0, none⟩)] w (NextP w g most (nextF most s)) := by
  unfold nextF
  by_cases hk : chk (byA s 0 / 16) (byA s 0 % 16) = 0
  · rw [if_neg (by rw [hk]; decide)]
    simp only
    by_cases he : (varR (s.extract 1 s.size) 0).2.2 = 1
    · rw [if_pos he]
      exact next_end h h0 hk he
    · rw [if_neg he]
      by_cases he0 : (varR (s.extract 1 s.size) 0).2.2 = 0
      · rw [if_neg (by rw [he0]; decide)]
        by_cases hz : most < ((1 + (varU (varR (s.extract 1 s.size) 0).1).length + (varR (s.extract 1 s.size) 0).1 : Nat) : Int)
        · rw [if_pos hz]
          exact next_big h h0 hk he0 hz
        · rw [if_neg hz]
          by_cases hs : (varR (s.extract 1 s.size) 0).2.1.size < (varR (s.extract 1 s.size) 0).1
          · rw [if_pos hs]
            exact next_short h h0 hk he0 hz hs
          · rw [if_neg hs]
            exact next_ok h h0 hk he0 hz hs
      · rw [if_pos he0]
        exact next_form h h0 hk he he0
  · have h2 : chk (byA s 0 / 16) (byA s 0 % 16) = 2 := (chk_2 _ _).resolve_left hk
    rw [if_pos hk]
    exact next_bad h h0 h2
end Go.Proofs.YtbfgpkogginmjaaGreatDoor
end
