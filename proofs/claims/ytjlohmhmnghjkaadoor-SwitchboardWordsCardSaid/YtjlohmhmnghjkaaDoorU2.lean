/- octet.Out: Two, Raw, Text, Data, Var at 321. -/
import Derived.Test.YtjlohmhmnghjkaaDoorU1
namespace Go.Proofs.YtjlohmhmnghjkaaDoor
open Go.RowKit Go.Lib Go.Proofs.YtjlohmhmnghjkaaDoorW.PrintWords Go.Proofs.YtjlohmhmnghjkaaDoor.PTopicReads
set_option linter.unusedVariables false
set_option linter.unusedSimpArgs false

set_option maxHeartbeats 4000000 in
set_option maxRecDepth 1000000 in
theorem oraw_calls {w : World} {base b : Nat} {xs : List Int} (h : OW w base b xs) (hl : xs.length ≤ 1000000) (s : ByteArray) (hs : s.size ≤ 1000000) : Calls Tryd.prog 38 #[.pointer (some ⟨b, 0, none⟩), .string s] w (OPost w base b (xs ++ bytesOf s)) := by
  obtain ⟨A, c, h1, h2⟩ := h.st
  have c0 : w.cell? ⟨b, 0, none⟩ = some (.slice A xs.length c) := (blk_cell h1 0).trans rfl
  have H1 := Lib.hid h1
  have H2 := Lib.hid (Kd.own_of_R h2)
  have HB := Lib.hid h.ob
  have HLT := Lib.hid h.lt
  have HL := Lib.hid hl
  have HS := Lib.hid hs
  clear h h1 h2 hl hs
  go_enter Tryd.func38, Tryd.ntmps38
  go_wp2_with (first
    | ((with_reducible refine gate_builtin (b := .append) (xs := #[.tmp 9, .tmp 10]) rfl ?_); at_builtin; refine print_append_str (w0 := w) base rfl (.tmp 9) (.tmp 10) 24 9 5 rfl Tryd.underlying24 Tryd.underlying9 info5 _ xs s rfl rfl H2.out (Below.refl _ _) (by have := HB.out; have := HLT.out; omega) (by have := HL.out; have := HS.out; omega) ?_; intro v1 w2 ho hb hg; obtain ⟨A1, c1, rfl⟩ := slice_own ho; have HO := Lib.hid ho; have HBW := Lib.hid hb; have hblk := blk_grown H1.out hg (fun e => own_ne H2.out H1.out b e.symm rfl); have HBK := Lib.hid hblk; have d0 : w2.cell? ⟨b, 0, none⟩ = some (.slice A xs.length c) := (blk_cell hblk 0).trans rfl; have f0 := blk_frozen hblk 0; clear ho hb hg hblk))
  go_ret
  exact ⟨rfl, OW.put HB.out HBK.out HO.out (by simp), HBW.out.setCell HB.out _⟩
theorem otwo_calls {w : World} {base b : Nat} {xs : List Int} (h : OW w base b xs) (hl : xs.length ≤ 900000) (n : Nat) (hn : n ≤ 65535) (hb : base ≤ w.heap.size) : Calls Tryd.prog 37 #[.pointer (some ⟨b, 0, none⟩), .int .u32 n] w (OPost w base b (xs ++ [((n / 256 : Nat) : Int), ((n % 256 : Nat) : Int)])) := by
  have H := Lib.hid h
  have HL := Lib.hid hl
  have hd1 : (n : Int) / 256 = ((n / 256 : Nat) : Int) := by omega
  have hd2 : (n : Int) % 256 = ((n % 256 : Nat) : Int) := by omega
  have HD1 := Lib.hid hd1
  have HD2 := Lib.hid hd2
  clear h hl hd1 hd2
  go_enter Tryd.func37, Tryd.ntmps37
  go_wp2_with (first
    | (go_at_call 58; refine (obyte_calls H.out (by have := HL.out; omega) _).mono ?_; rintro e w1 ⟨rfl, ho, hb1⟩; have HO1 := Lib.hid ho; have HB1 := Lib.hid hb1; clear H ho hb1)
    | (go_at_call 58; refine (obyte_calls HO1.out (by have := HL.out; simp; omega) _).mono ?_; rintro e w2 ⟨rfl, ho, hb1⟩; have HO2 := Lib.hid ho; have HB2 := Lib.hid hb1; clear HO1 ho hb1))
  go_ret
  exact ⟨rfl, by have h := HO2.out; rw [HD1.out, HD2.out] at h; simpa using h, HB1.out.trans HB2.out⟩
set_option maxHeartbeats 4000000 in
set_option maxRecDepth 1000000 in
theorem otext_calls {w : World} {base b : Nat} {xs : List Int} (h : OW w base b xs) (s : ByteArray) (hs : strOfNums xs = s) : Calls Tryd.prog 14 #[.pointer (some ⟨b, 0, none⟩)] w fun e w' => e = .returned (.string s) ∧ Below w.heap.size w w' := by
  obtain ⟨A, c, h1, h2⟩ := h.st
  have c0 : w.cell? ⟨b, 0, none⟩ = some (.slice A xs.length c) := (blk_cell h1 0).trans rfl
  have hc := (Kd.R_reads' h2).2.2
  have kb := Kd.C_string (P := Tryd.prog) (src := 24) (dst := 9) (e := 5) (c := c) Tryd.underlying24 Tryd.underlying5 Tryd.underlying9 hc
  rw [hs] at kb
  clear h h1 h2 hc
  go_enter Tryd.func14, Tryd.ntmps14
  go_wp2
  go_ret
  exact ⟨rfl, Below.refl _ _⟩
end Go.Proofs.YtjlohmhmnghjkaaDoor
