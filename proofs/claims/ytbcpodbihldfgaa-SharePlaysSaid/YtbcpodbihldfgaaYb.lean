/- SharePlays: any calls do what they should: the walk. -/
import Derived.Test.YtbcpodbihldfgaaYa
import Derived.Deep.RegionHeld3
import Derived.Outline
import Derived.Deep.DeepCutAuto
import Derived.Deep.RegionLaw
import Derived.Deep.CutBlock
namespace Go.Proofs.Ytbcpodbihldfgaa
open Go.RowKit Go.Maps Go.Proofs.YtbcpodbihldfgaaW.PrintWords Go.Proofs.Ytbcpodbihldfgaa.PSharePlays
set_option linter.unusedVariables false

theorem box_facts {w : World} {bx : Nat} {a b : Int} {s : ByteArray} {v : Value} (h : w.heap[bx]? = some (.cells #[.int .i64 a, .int .i64 b, .string s, v] 49 (0, 0))) : w.cell? ⟨bx, 0, none⟩ = some (.int .i64 a) ∧ w.cell? ⟨bx, 1, none⟩ = some (.int .i64 b) ∧ w.cell? ⟨bx, 3, none⟩ = some v :=
  ⟨(blk_cell h 0).trans rfl, (blk_cell h 1).trans rfl, (blk_cell h 3).trans rfl⟩
theorem px_init {w0 w1 : World} {g : Nat} (hp : PK w1 w0.heap.size g (fun k => w0.heap.size ≤ k) [] 0 (fun _ => 0)) (hb : Below w0.heap.size w0 w1) :
    PX w0 (w1.alloc (.cells #[.slice none 0 0, .slice none 0 0] 47)) g w1.heap.size 0 (fun k => w0.heap.size ≤ k ∧ k < w1.heap.size) [] (GL []) [] [] :=
  ⟨((hp.mono (fun k hk hl => ⟨hk, hl⟩)).below (below_alloc (Below.refl _ _) _)).congr (fun _ => rfl), fun hk => by have := hk.2; omega, hb.size,
    ⟨none, 0, none, 0, heap_alloc_new w1 _, Nat.le_refl _, Nat.le_refl _, fun W _ => ⟨Kd.C_nil _ W, Kd.C_nil _ W⟩⟩, hb.alloc hb.size _⟩

theorem act_at {w : World} {A : Option Addr} {n : Nat} {xs : List SAct} (h : Kd.C kA w A n xs) (i : Nat) (hi : i < n) : ∃ (ad : Addr) (a : SAct) (B : Option Addr) (c : Nat), A = some ad ∧ xs[i]? = some a ∧ w.cell? (ad.add (i * 4)) = some (.int .i64 a.kind) ∧ w.cell? ⟨(ad.add (i * 4)).block, (ad.add (i * 4)).off + 1, none⟩ = some (.int .i64 a.num) ∧ w.cell? ⟨(ad.add (i * 4)).block, (ad.add (i * 4)).off + 2, none⟩ = some (.string a.grp) ∧
    w.cell? ⟨(ad.add (i * 4)).block, (ad.add (i * 4)).off + 3, none⟩ = some (.slice B a.l.length c) ∧ Kd.C k33 w B a.l.length a.l ∧ a.l.length ≤ c := by
  obtain ⟨hl, _, hC⟩ := h
  obtain ⟨ad, rfl, hc⟩ := hC (by omega)
  obtain ⟨cs, _, ⟨B, c, rfl, h1, h2⟩, h3⟩ := hc i _ (List.getElem?_eq_getElem (by omega))
  exact ⟨ad, _, B, c, rfl, List.getElem?_eq_getElem (by omega), h3 0 _ rfl, by rw [← add_field _ _ 1 (by omega)]; exact h3 1 _ rfl, by rw [← add_field _ _ 2 (by omega)]; exact h3 2 _ rfl, by rw [← add_field _ _ 3 (by omega)]; exact h3 3 _ rfl, h1, h2⟩

/-- What the last test of a round calls. -/
structure Tail (w W : World) (g xb : Nat) (grp : ByteArray) (wait : List Int) (L : List S64) (Aw : Option Addr) (cw : Nat) (Al : Option Addr) (cl : Nat) : Prop where
  x0 : W.cell? ⟨xb, 0, none⟩ = some (.slice Aw wait.length cw)
  x1 : W.cell? ⟨xb, 1, none⟩ = some (.slice Al L.length cl)
  len : ∀ W', Below W.heap.size W W' → Calls Try.prog 14 #[.pointer (some ⟨g, 0, none⟩)] W' fun e w' => e = .returned (.int .i64 wait.length) ∧ W' = w'
  turn : ∀ W', Below W.heap.size W W' → Calls Try.prog 13 #[.pointer (some ⟨g, 0, none⟩), .string grp] W' fun e w' => e = .returned (.int .i64 (askedL L grp)) ∧ W' = w'
  ask : ∀ W', Below W.heap.size W W' → Calls Try.prog 19 #[.agg #[.slice Aw wait.length cw, .slice Al L.length cl], .string grp] W' fun e w' => e = .returned (.int .i64 (askedL L grp)) ∧ Below W.heap.size W w' ∧ (w'.cell? ⟨xb, 0, none⟩ = some (.slice Aw wait.length cw) ∧ w'.cell? ⟨xb, 1, none⟩ = some (.slice Al L.length cl))
theorem PX.tail {w W : World} {g xb n : Nat} {S : Nat → Prop} {wait : List Int} {L : List S64} (h : PX w W g xb n S wait (GL L) wait L) (grp : ByteArray) (hg : grp.size ≤ 10) (hL : L.length ≤ 1000) : ∃ Aw cw Al cl, Tail w W g xb grp wait L Aw cw Al cl := by
  obtain ⟨Aw, cw, Al, cl, hblk, _, _, _, hCl, _⟩ := h.cells
  have hm : grp.size ≤ maxLen := by unfold maxLen; omega
  have x0 : W.cell? ⟨xb, 0, none⟩ = some (.slice Aw wait.length cw) := (blk_cell hblk 0).trans rfl
  have x1 : W.cell? ⟨xb, 1, none⟩ = some (.slice Al L.length cl) := (blk_cell hblk 1).trans rfl
  refine ⟨Aw, cw, Al, cl, x0, x1, fun W' hb => len_calls (h.pk.below hb), fun W' hb => (turn_calls (h.pk.below hb) grp hm).mono ?_, fun W' hb => (asked_calls (V := undef) grp (Kd.C_below hCl hb) hL).mono ?_⟩
  · rintro e w' ⟨rfl, rfl⟩
    exact ⟨by rw [GL_at], rfl⟩
  · rintro e w' ⟨rfl, hb'⟩
    have hb2 := hb.trans (hb'.mono hb.size)
    exact ⟨rfl, hb2, (hb2.cell (World.block_lt_of_cell? W _ x0)).trans x0, (hb2.cell (World.block_lt_of_cell? W _ x1)).trans x1⟩

/-- Behind a call of the reference's: x is set. -/
theorem PX.after {w0 w w1 : World} {g xb n : Nat} {S : Nat → Prop} {wait waitx wait' : List Int} {G : List UInt8 → Int} {L L' : List S64} {Aw A A' : Option Addr} {c c' : Nat} (h : PX w0 w g xb n S wait G waitx L) (hb : Below w.heap.size w w1)
    (hk : ∀ W, Kept w W (fun k => S k ∨ k = xb) → Kd.C (Kd.int .i64) W Aw waitx.length waitx) (hc : wait'.length ≤ c) (hv : ∀ W, Kd.C (Kd.int .i64) W Aw waitx.length waitx → Kd.C (Kd.int .i64) W A wait'.length wait')
    (hS : ∀ k, S k → k < w.heap.size) (hR : Kd.R k64 64 w1 w.heap.size (fun _ => True) (.slice A' L'.length c') L') :
    PX w0 ((w1.setCell ⟨xb, 0, none⟩ (.slice A wait'.length c)).setCell ⟨xb, 1, none⟩ (.slice A' L'.length c')) g xb n (fun k => S k ∧ k < w.heap.size) wait G wait' L' := by
  have hx := h.lt
  refine (h.to hb).put hc (Kd.R_reads' hR).2.1 (fun W hw => ⟨hv W (hk W ?_), ?_⟩)
  · exact (Kept.of_below hb (fun k => S k ∨ k = xb)).then_ hw (fun k hk => .inl (hk.imp (fun h => h.1) id))
  · exact Kd.C_kept_own (Kd.R_bound hR) (fun k hk hn => by
      have h1 := hk.2.1
      rcases hn with hn | hn
      · have := hn.2; omega
      · omega) W hw
theorem PX.mono {w0 w : World} {g xb n : Nat} {S S1 : Nat → Prop} {wait waitx : List Int} {G : List UInt8 → Int} {L : List S64} (h : PX w0 w g xb n S wait G waitx L) (h1 : ∀ k, S k → S1 k) (h2 : ¬ S1 xb) (h3 : ∀ k, S1 k → S k ∨ w.heap.size ≤ k) : PX w0 w g xb n S1 wait G waitx L := by
  obtain ⟨A, c, A', c', e1, e2, e3, e4⟩ := h.rx.st
  exact ⟨h.pk.mono (fun k hk _ => h1 k hk), h2, h.ox, ⟨A, c, A', c', e1, e2, e3, fun W hw => e4 W ((Kept.refl w _).then_ hw (fun k hk => by
    rcases hk with hk | hk
    · exact (h3 k hk).imp .inl id
    · exact .inl (.inr hk)))⟩, h.below⟩

theorem push_box {wr w4 : World} {a b : Int} {s : ByteArray} {v : Value} {S : Nat → Prop} (h : Kept (wr.alloc (.cells #[.int .i64 a, .int .i64 b, .string s, v] 49)) w4 (fun k => S k ∧ k < wr.heap.size)) : w4.cell? ⟨wr.heap.size, 1, none⟩ = some (.int .i64 b) := by
  have e := heap_alloc_new wr (.cells #[.int .i64 a, .int .i64 b, .string s, v] 49)
  have e2 := (h.2 wr.heap.size (blk_lt e) (fun hk => by have := hk.2; omega)).trans e
  exact (blk_cell e2 1).trans rfl

theorem al_cell {w : World} {a : Addr} {v : Value} (h : w.cell? a = some v) (o : Obj) : (w.alloc o).cell? a = some v := ((below_alloc (Below.refl w.heap.size w) o).cell (World.block_lt_of_cell? w _ h)).trans h
theorem box_at2 (w : World) (o : Obj) (o2 : Obj) (h : True) : (((w.alloc o).alloc o2).drew).heap[w.heap.size + 1]? = some o2 := by
  have := heap_alloc_new (w.alloc o) o2
  show ((w.alloc o).alloc o2).heap[w.heap.size + 1]? = some o2
  rw [World.size_alloc] at this
  exact this
theorem box_at1 (w : World) (o : Obj) (o2 : Obj) : (((w.alloc o).alloc o2).drew).heap[w.heap.size]? = some o := (Below.heap_alloc _ _ _ (by simp)).trans (heap_alloc_new w o)
theorem S16 {w4 w5 : World} {xb d : Nat} {Bw Bl : Option Addr} {n dw m dl : Nat} {num : Int} (h : w4.heap[xb]? = some (.cells #[.slice Bw n dw, .slice Bl m dl] 47 (0, 0))) (hb : Below w4.heap.size w4 w5) (hy : Hid (w4.cell? ⟨d, 1, none⟩ = some (.int .i64 num))) :
    w5.cell? ⟨xb, 0, none⟩ = some (.slice Bw n dw) ∧ w5.cell? ⟨d, 1, none⟩ = some (.int .i64 num) :=
  ⟨(blk_cell (blk_below h hb) 0).trans rfl, (hb.cell (World.block_lt_of_cell? w4 _ hy.out)).trans hy.out⟩
/-- A new row of nothing. -/
theorem e_row {W0 : World} {base b : Nat} (hb : W0.heap.size = b) (hB : base ≤ b) : Kd.R (Kd.int .i64) 3 (W0.alloc (.cells #[] 3)) base (fun _ => True) (.slice (some ⟨b, 0, none⟩) 0 0) [] := by
  subst hb
  have h := World.ownsRow_lit (base := base) (e := 3) (size := 1) W0 #[] 0 hB (by decide) rfl
  exact ⟨fun _ _ => trivial, [], h, Reps.none _ _⟩
theorem box_read {w1 : World} {b : Nat} {x : Int} (h : w1.heap[b]? = some (.cells #[.int .i64 x] 3 (0, 0))) : Kd.C (Kd.int .i64) w1 (some ⟨b, 0, none⟩) 1 [x] := by
  refine ⟨rfl, by decide, fun _ => ⟨_, rfl, fun j p hj => ?_⟩⟩
  match j, hj with
  | 0, hj =>
    cases hj
    refine ⟨[.int .i64 x], rfl, rfl, fun q u hu => ?_⟩
    match q, hu with
    | 0, hu =>
      cases hu
      exact (blk_cell h 0).trans rfl

theorem PX.after0 {w0 w w1 : World} {g xb n : Nat} {S : Nat → Prop} {wait waitx wait' : List Int} {G : List UInt8 → Int} {L : List S64} {A : Option Addr} {c k : Nat} (h : PX w0 w g xb n S wait G waitx L) (hb : Below w.heap.size w w1) (hk : k = wait'.length)
    (hR : Kd.R (Kd.int .i64) 3 w1 w.heap.size (fun _ => True) (.slice A k c) wait') : PX w0 (w1.setCell ⟨xb, 0, none⟩ (.slice A k c)) g xb n (fun k => S k ∧ k < w.heap.size) wait G wait' L := by
  subst hk
  have hx := h.lt
  refine (h.to hb).put0 (Kd.R_reads' hR).2.1 (fun W hw => ?_)
  exact Kd.C_kept_own (Kd.R_bound hR) (fun k hk hn => by
      have h1 := hk.2.1
      rcases hn with hn | hn
      · have := hn.2; omega
      · omega) W hw
theorem box_c {wr : World} {a b : Int} {s : ByteArray} {v : Value} : Hid ((wr.alloc (.cells #[.int .i64 a, .int .i64 b, .string s, v] 49)).heap[wr.heap.size]? = some (.cells #[.int .i64 a, .int .i64 b, .string s, v] 49 (0, 0))) := Lib.hid (heap_alloc_new wr _)
theorem r_form {w : World} {b : Nat} {ok : Nat → Prop} {v : Value} {xs : List Int} (h : Kd.R (Kd.int .i64) 3 w b ok v xs) : ∃ A c k, v = .slice A k c ∧ Hid (k = xs.length) ∧ Hid (Kd.R (Kd.int .i64) 3 w b ok (.slice A k c) xs) := by
  obtain ⟨A, c, rfl, _⟩ := OwnRow.slice_ h.2
  exact ⟨A, c, _, rfl, Lib.hid rfl, Lib.hid h⟩

def PLRel (w wr : World) (g xb i : Nat) : Prop := ∃ S n wait L, PX w wr g xb n S wait (GL L) wait L ∧ wait.length ≤ 64 ∧ L.length ≤ i ∧ n ≤ i

theorem few_lens (M : List S33) : (fewT M).length = (fewL M).length ∧ (fewL M).length ≤ 8 := by
  refine ⟨by rw [fewT_conv, List.length_map], ?_⟩
  unfold fewL
  simp
  omega
theorem told_kept {w w7 : World} {S6 : Nat → Prop} {b0 : Nat} {A : Option Addr} {c : Nat} {l : List S57} (hR : Kd.R k57 57 w b0 (fun _ => True) (.slice A l.length c) l) (hS : ∀ k, S6 k → k < b0) (hk : Kept w w7 S6) : Kd.C k57 w7 A l.length l :=
  Kd.C_kept_own (Kd.R_bound hR) (S := S6) (fun k hk hn => by have h1 := hk.2.1; have h2 := hS k hn; omega) w7 hk
/-- What Choose of both do. -/
structure CC (w0 w6 : World) (g xb n : Nat) (grp : ByteArray) (wait : List Int) (L : List S64) (V1 V2 : Value) (str : ByteArray) (b : Bool) (w7 : World) (Bw : Option Addr) (dw : Nat) (Bl : Option Addr) (dl : Nat) : Prop where
  x0 : w7.cell? ⟨xb, 0, none⟩ = some (.slice Bw wait.length dw)
  x1 : w7.cell? ⟨xb, 1, none⟩ = some (.slice Bl L.length dl)
  ch : Calls Try.prog 16 #[.agg #[.slice Bw wait.length dw, .slice Bl L.length dl], .string grp, V2] w7 fun e w8 =>
    ∃ A k c A' k' c', e = .returned (.tuple #[.agg #[.slice A k c, .slice A' k' c'], .string str, .bool b]) ∧ Hid (w8.heap[xb]? = some (.cells #[.slice Bw wait.length dw, .slice Bl L.length dl] 47 (0, 0))) ∧
      Hid (∀ w9, Below w8.heap.size w8 w9 → ∃ S n' wait' L', PX w0 ((w9.setCell ⟨xb, 0, none⟩ (.slice A k c)).setCell ⟨xb, 1, none⟩ (.slice A' k' c')) g xb n' S wait' (GL L') wait' L' ∧ wait'.length ≤ wait.length ∧ L'.length ≤ L.length + 1 ∧ n' ≤ n + 1)

theorem PX.same {w0 w w1 : World} {g xb n : Nat} {S : Nat → Prop} {wait waitx : List Int} {G : List UInt8 → Int} {L : List S64} (h : PX w0 w g xb n S wait G waitx L) (hb : Below w.heap.size w w1) {A A' : Option Addr} {c c' : Nat} (h1 : waitx.length ≤ c) (h2 : L.length ≤ c')
    (hk : ∀ W, Kept w W (fun k => S k ∨ k = xb) → Kd.C (Kd.int .i64) W A waitx.length waitx ∧ Kd.C k64 W A' L.length L) :
    PX w0 ((w1.setCell ⟨xb, 0, none⟩ (.slice A waitx.length c)).setCell ⟨xb, 1, none⟩ (.slice A' L.length c')) g xb n (fun k => S k ∧ k < w.heap.size) wait G waitx L := by
  refine (h.to hb).put h1 h2 (fun W hw => hk W ?_)
  exact (Kept.of_below hb (fun k => S k ∨ k = xb)).then_ hw (fun k hk => .inl (hk.imp (fun h => h.1) id))
theorem PX.two {w0 w6 : World} {g xb n b0 : Nat} {S : Nat → Prop} {wait : List Int} {L : List S64} {M : List S33} {A1 A2 : Option Addr} {c1 c2 : Nat} (h : PX w0 w6 g xb n S wait (GL L) wait L) (hS : ∀ k, S k → k < b0) (hn : n < 1000000) (grp : ByteArray) (hg : grp.size ≤ maxLen) (hL : L.length ≤ 1000)
    (hR1 : Kd.R k33 33 w6 b0 (fun _ => True) (.slice A1 (fewL M).length c1) (fewL M)) (hR2 : Kd.R k57 57 w6 b0 (fun _ => True) (.slice A2 (fewT M).length c2) (fewT M)) :
    ∃ str b, Calls Try.prog 12 #[.pointer (some ⟨g, 0, none⟩), .string grp, .slice A1 (fewL M).length c1] w6 fun e w7 => e = .returned (.tuple #[.string str, .bool b]) ∧ ∃ Bw dw Bl dl, CC w0 w6 g xb n grp wait L undef (.slice A2 (fewT M).length c2) str b w7 Bw dw Bl dl := by
  have hfl := few_lens M
  have hc2 := (Kd.R_reads' hR2).2.1
  have hq : 0 ≤ askedL L grp ∧ askedL L grp ≤ 1000000 := by
    obtain ⟨v, bm, D, e1, e2, e3, e4, e5, e6, e7, e8, e9⟩ := h.pk.st
    have := e9 grp.data.toList
    rw [GL_at] at this
    omega
  by_cases h0 : (fewL M).length = 0
  · refine ⟨⟨#[]⟩, false, (h.choose0 grp hR1 hS (by omega) h0).mono ?_⟩
    rintro e w7 ⟨rfl, h7⟩
    obtain ⟨h7, hk⟩ := h7.out
    have hT := told_kept hR2 hS hk
    obtain ⟨Bw, dw, Bl, dl, hblk, hdw, hdl, hCw, hCl, hkeep⟩ := h7.cells
    refine ⟨rfl, Bw, dw, Bl, dl, (blk_cell hblk 0).trans rfl, (blk_cell hblk 1).trans rfl, (rchoose_none (n1 := wait.length) (n2 := L.length) grp hT hc2 (by omega)).mono ?_⟩
    rintro e w8 ⟨rfl, hb8⟩
    refine ⟨_, _, _, _, _, _, rfl, Lib.hid (blk_below hblk hb8), Lib.hid fun w9 hb9 => ⟨_, _, _, _, h7.same (hb8.trans (hb9.mono hb8.size)) hdw hdl hkeep, Nat.le_refl _, by omega, by omega⟩⟩
  · have hp := Nat.pos_of_ne_zero h0
    refine ⟨rPick (fewT M) (wait.headD (askedL L grp)), true, (h.choose1 hn grp hg hR1 hS (by omega) hp).mono ?_⟩
    rintro e w7 ⟨rfl, h7⟩
    obtain ⟨h7, hk⟩ := h7.out
    have hT := told_kept hR2 hS hk
    replace h7 := h7.to (Below.refl _ _)
    obtain ⟨Bw, dw, Bl, dl, hblk, hdw, hdl, hCw, hCl, hkeep⟩ := h7.cells
    have e1 := pick_alike M (wait.headD (askedL L grp)) hp
    rw [GL_at, e1]
    refine ⟨rfl, Bw, dw, Bl, dl, (blk_cell hblk 0).trans rfl, (blk_cell hblk 1).trans rfl, Calls.mono (R := RSome w7 Bw dw wait L grp (fewT M)) ?_ ?_⟩
    · rcases hw : wait with _ | ⟨x, r⟩
      · have := rchoose_nil (c1 := dw) grp hCw hdw hCl hdl hL hT hc2 (by omega) hq.1 hq.2 (by omega) hw
        rw [hw] at this
        exact this
      · have := rchoose_cons (c1 := dw) grp hCw hdw hCl hdl hL hT hc2 (by omega) hq.1 hq.2 (by omega) hw
        rw [hw] at this
        exact this
    · rintro e w8 ⟨V1, V2, rfl, hrc⟩
      obtain ⟨A, c, rfl, hc, hv⟩ := hrc.wv
      obtain ⟨A', c', rfl, hc'⟩ := OwnRow.slice_ hrc.row.2
      have hfg := forget_le L grp L.length
      rw [List.take_length] at hfg
      refine ⟨_, _, _, _, _, _, rfl, Lib.hid (blk_below hblk hrc.below), Lib.hid fun w9 hb9 => ⟨_, _, _, _, (h7.after (hrc.below.trans (hb9.mono hrc.below.size)) (fun W hW => (hkeep W hW).1) hc hv (fun k hk => hk.2) (Kd.R_below hrc.row hb9)).congr (GL_choose L grp), by simp, by rw [List.length_append]; simp; omega, Nat.le_refl _⟩⟩
end Go.Proofs.Ytbcpodbihldfgaa
