/- Parts of a proof about aliases: HB. -/
import Derived.Lib.ConvBytes
import Derived.Lib.EndianBits
import Derived.ScopeJumps
import Derived.Test.YtbfgpkogginmjaaGreatDoorZ6
import Derived.Test.YtbfgpkogginmjaaGreatDoorZ8
section
namespace Go.Proofs.YtbfgpkogginmjaaGreatDoor
open Go.RowKit Go.Lib Go.Proofs.YtbfgpkogginmjaaGreatDoorW.PrintWords Go.Proofs.YtbfgpkogginmjaaGreatDoor.PSwitchboardGreat
set_option linter.unusedVariables false
set_option linter.unusedSimpArgs false
theorem info5b : (Tryz.prog.info? 5).map (fun i => (i.zero, i.size, i.bytes)) = some (some (.int .u8 0), 1, 1) := by kernel_rfl
def nu (l : List UInt8) : List Int := l.map fun x => (x.toNat : Int)
theorem nu_app (a b : List UInt8) : nu (a ++ b) = nu a ++ nu b := List.map_append
theorem nu_len (l : List UInt8) : (nu l).length = l.length := List.length_map ..
def toB (l : List UInt8) : ByteArray := ⟨l.toArray⟩
theorem toB_size (l : List UInt8) : (toB l).size = l.length := by rw [Lib.size_eq]; simp [toB]
theorem str_nu (l : List UInt8) : strOfNums (nu l) = toB l := by
  have h : (l.map fun b => (b.toNat : Int)).map (fun n => UInt8.ofNat n.toNat) = l := by
    rw [List.map_map]
    refine (List.map_congr_left fun x _ => ?_).trans (List.map_id _)
    show UInt8.ofNat (x.toNat : Int).toNat = id x
    rw [Int.toNat_natCast]
    exact UInt8.ofNat_toNat
  unfold strOfNums nu toB
  rw [h]
def OW (w : World) (b : Nat) (R : Nat → Prop) (l : List UInt8) : Prop :=
  ∃ A c, w.heap[b]? = some (.cells #[.slice A l.length c] 59 (0, 0)) ∧ (Kd.int .u8).R 5 w 0 (fun k => R k ∧ k ≠ b) (.slice A l.length c) (nu l)
section
variable {w w1 : World} {b : Nat} {R T S : Nat → Prop} {l m : List UInt8}
theorem OW.lt (h : OW w b R l) : b < w.heap.size := by obtain ⟨A, c, h1, _⟩ := h; exact blk_lt h1
theorem OW.to (h : OW w b R l) (hc : Chg S w w1) (hb : ¬ S b) (hR : ∀ k, R k → ¬ S k) : OW w1 b R l := by
  obtain ⟨A, c, h1, h2⟩ := h
  exact ⟨A, c, hc.blk h1 hb, Kd.R_step h2 (fun k hk hlt => hc.block k hlt (hR k hk.1))⟩
theorem OW.below (h : OW w b R l) (hb : Below w.heap.size w w1) : OW w1 b R l := h.to (S := fun _ => False) (Chg.of_below hb) id (fun _ _ => id)
theorem OW.mono (h : OW w b R l) (hR : ∀ k, R k → T k) : OW w b T l := by
  obtain ⟨A, c, h1, h2⟩ := h
  exact ⟨A, c, h1, Kd.R_mono h2 (fun k hk => ⟨hR k hk.1, hk.2⟩)⟩
theorem OW.lim (h : OW w b R l) : OW w b (fun k => R k ∧ k < w.heap.size) l := by
  obtain ⟨A, c, h1, h2⟩ := h
  exact ⟨A, c, h1, Kd.R_mono (Kd.R_bound h2) (fun k hk => ⟨⟨hk.1.1, hk.2.2.1⟩, hk.1.2⟩)⟩
theorem own_neb {n : Nat} {v : Value} {zs : List Value} {cs : Array Value} (h : w.ownsRow 0 5 1 v n zs) (hb : w.heap[b]? = some (.cells cs 59 (0, 0))) : ∀ k, v.ownBlock = some k → k ≠ b := by
  rintro k hk rfl
  obtain ⟨cells, hc⟩ := own_typed h k hk
  rw [hb] at hc
  injection hc with hc
  injection hc with _ h26 _
  exact absurd h26 (by decide)
theorem OW.put {A : Option Addr} {c n : Nat} {u : Value} (h1 : w.heap[b]? = some (.cells #[u] 59 (0, 0))) (h2 : w.ownsRow 0 5 1 (.slice A l.length c) l.length (nums .u8 (nu l))) (hR : ∀ k, (Value.slice A l.length c).ownBlock = some k → R k) (hn : n = l.length) : OW (w.setCell ⟨b, 0, none⟩ (.slice A n c)) b R l := by
  subst hn
  have h3 : w.ownsRow 0 5 1 (.slice A l.length c) (nu l).length (nums .u8 (nu l)) := by rw [nu_len]; exact h2
  have hr : (Kd.int .u8).R 5 w 0 (fun k => R k ∧ k ≠ b) (.slice A l.length c) (nu l) := Kd.R_of_own (enc := Value.int .u8) (h1 := fun _ => rfl) h3 (fun k hk => ⟨hR k hk, own_neb h2 h1 k hk⟩)
  exact ⟨A, c, blk_put h1 0 _ rfl, Kd.R_far hr (fun k hk => hk.2) _⟩
theorem slice_ownb {v : Value} (h : w.ownsRow 0 5 1 v l.length (nums .u8 (nu l))) : ∃ A c, v = .slice A l.length c := by
  have h3 : w.ownsRow 0 5 1 v (nu l).length (nums .u8 (nu l)) := by rw [nu_len]; exact h
  have := Kd.R_slice (show (Kd.int .u8).R 5 w 0 (fun _ => True) v (nu l) from Kd.R_of_own (enc := Value.int .u8) (h1 := fun _ => rfl) h3 (fun _ _ => trivial))
  rw [nu_len] at this
  exact this
theorem Chg.of_grown {row : Option Nat} (h : w.grownBy w1 row) (hr : ∀ k, row = some k → S k) : Chg S w w1 :=
  ⟨h.os, h.tape, h.output, h.size, fun k hk hn => h.block k hk (fun e => hn (hr k e.symm))⟩
theorem OW.own (h : OW w b R l) : ∃ A c, w.heap[b]? = some (.cells #[.slice A l.length c] 59 (0, 0)) ∧ w.ownsRow 0 5 1 (.slice A l.length c) (nu l).length (nums .u8 (nu l)) ∧ (∀ k, (Value.slice A l.length c).ownBlock = some k → R k) := by
  obtain ⟨A, c, h1, h2⟩ := h
  exact ⟨A, c, h1, Kd.own_of_R h2, fun k hk => (h2.1 k hk).1⟩
end
theorem own_zero {w : World} {base n : Nat} {v : Value} {zs : List Value} (h : w.ownsRow base 5 1 v n zs) : w.ownsRow 0 5 1 v n zs := by
  obtain ⟨q, hq⟩ := h
  refine ⟨q, ?_⟩
  rcases hq with hq | ⟨g, cap, cur, e1, _, e3⟩
  · exact .inl hq
  · exact .inr ⟨g, cap, cur, e1, Nat.zero_le _, e3⟩
def T5 (w : World) (k : Nat) : Prop := ∃ cs, w.heap[k]? = some (.cells cs 5 (0, 0))
def Ch5 (b : Nat) (R : Nat → Prop) (w w' : World) : Prop := Chg (fun k => k = b ∨ (R k ∧ T5 w k)) w w'
section
variable {b : Nat} {R T : Nat → Prop} {w w1 w2 : World}
theorem Ch5.size (h : Ch5 b R w w1) : w.heap.size ≤ w1.heap.size := Chg.size h
theorem Ch5.trans (h : Ch5 b R w w1) (k : Ch5 b R w1 w2) : Ch5 b R w w2 := by
  refine Chg.then_ h k (fun i hi => ?_)
  rcases hi with hi | ⟨h1, cs, h2⟩
  · exact .inl (.inl hi)
  · by_cases hw : i < w.heap.size
    · by_cases hs : i = b ∨ (R i ∧ T5 w i)
      · exact .inl hs
      · exact .inl (.inr ⟨h1, cs, (Chg.block h i hw hs) ▸ h2⟩)
    · exact .inr (by omega)
theorem Ch5.mono (h : Ch5 b R w w1) (hR : ∀ k, R k → T k) : Ch5 b T w w1 := Chg.mono h (fun k hk => hk.elim .inl (fun h => .inr ⟨hR k h.1, h.2⟩))
theorem Ch5.of_below (h : Below w.heap.size w w1) : Ch5 b R w w1 := Chg.of_below h
theorem Ch5.below_ (h : Ch5 b R w w1) (k : Below w1.heap.size w1 w2) : Ch5 b R w w2 := Chg.below h k
theorem Ch5.to_below {B : Nat} (h : Ch5 b R w w1) (hB : B ≤ w.heap.size) (hb : B ≤ b) (hR : ∀ k, R k → B ≤ k) : Below B w w1 := Chg.to_below h hB (fun k hk => hk.elim (fun e => e ▸ hb) (fun e => hR k e.1))
theorem Ch5.blk (h : Ch5 b R w w1) {g : Nat} {cs : Array Value} {t : TypeId} {fr : Nat × Nat} (hb : w.heap[g]? = some (.cells cs t fr)) (hg : g ≠ b) (ht : t ≠ 5) : w1.heap[g]? = some (.cells cs t fr) := by
  refine Chg.blk h hb (fun hk => ?_)
  rcases hk with hk | ⟨_, cs2, hk⟩
  · exact hg hk
  · rw [hb] at hk
    injection hk with hk
    injection hk with _ hk _
    exact ht hk
end
def OPost (w : World) (b : Nat) (R : Nat → Prop) (l : List UInt8) (e : Ending) (w' : World) : Prop := e = .returned (.pointer (some ⟨b, 0, none⟩)) ∧ OW w' b R l ∧ Ch5 b R w w'
set_option maxHeartbeats 4000000 in
set_option maxRecDepth 1000000 in
theorem byte_calls {w : World} {b : Nat} {R : Nat → Prop} {l : List UInt8} (h : OW w b R l) (hR : ∀ k, w.heap.size ≤ k → R k) (hl : l.length ≤ 1000000) (y : Nat) (hy : y < 256) : Calls Tryz.prog 32 #[.pointer (some ⟨b, 0, none⟩), .int .u8 y] w (OPost w b R (l ++ [UInt8.ofNat y])) := by
  obtain ⟨A, c, h1, h2, h3⟩ := h.own
  have c0 : w.cell? ⟨b, 0, none⟩ = some (.slice A l.length c) := (blk_cell h1 0).trans rfl
  have H1 := Lib.hid h1
  have H2 := Lib.hid h2
  have H3 := Lib.hid h3
  have HRR := Lib.hid hR
  have HLT := Lib.hid h.lt
  have HL := Lib.hid hl
  have hz : (nu l).length ≤ 1000000 := by rw [nu_len]; exact hl
  have HZ := Lib.hid hz
  have e : nu (l ++ [UInt8.ofNat y]) = nu l ++ [(y : Int)] := by
    rw [nu_app]
    show _ ++ [((UInt8.ofNat y).toNat : Int)] = _
    rw [UInt8.toNat_ofNat', Nat.mod_eq_of_lt hy]
  have HE := Lib.hid e
  have HNL := Lib.hid (show (nu l ++ [(y : Int)]).length = (l ++ [UInt8.ofNat y]).length by rw [← e, nu_len])
  clear h h1 h2 h3 hl hz e hR hy
  go_enter Tryz.func32, Tryz.ntmps32
  go_wp2_with (first
    | ((with_reducible refine gate_builtin (b := .append) (xs := #[.tmp 9, .tmp 11]) rfl ?_); at_builtin; refine print_append_num (w0 := w) 0 rfl (.tmp 9) (.tmp 11) 35 5 .u8 1 rfl Tryz.underlying35 info5b (by decide) _ (nu l) (y : Int) rfl rfl H2.out (Below.refl _ _) (Nat.zero_le _) (by have := HZ.out; omega) ?_; intro v1 w2 ho hb hg hat; rw [HNL.out, ← HE.out] at ho; obtain ⟨A1, c1, rfl⟩ := slice_ownb ho; have HO := Lib.hid ho; have HG := Lib.hid hg; have HAT := Lib.hid hat; have hblk := blk_grown H1.out hg (fun e => own_neb H2.out H1.out b e.symm rfl); have HBK := Lib.hid hblk; have d0 : w2.cell? ⟨b, 0, none⟩ = some (.slice A l.length c) := (blk_cell hblk 0).trans rfl; have f0 := blk_frozen hblk 0; clear ho hb hg hblk hat))
  go_ret
  refine ⟨rfl, OW.put HBK.out HO.out (fun k hk => ?_) (by simp), Chg.setCell (Chg.of_grown HG.out (fun k hk => .inr ⟨H3.out k hk, own_typed H2.out k hk⟩)) (.inl (.inl rfl)) _⟩
  rcases HAT.out with h | ⟨b2, h, h2⟩
  · exact H3.out k (h ▸ hk)
  · rw [h] at hk
    obtain rfl := Option.some.inj hk
    exact HRR.out _ h2
set_option maxHeartbeats 4000000 in
set_option maxRecDepth 1000000 in
theorem raw_calls {w : World} {base b : Nat} {l : List UInt8} (h : OW w b (fun k => base ≤ k) l) (hb : base ≤ w.heap.size) (hl : l.length ≤ 1000000) (s : ByteArray) (hs : s.size ≤ 1000000) : Calls Tryz.prog 59 #[.pointer (some ⟨b, 0, none⟩), .string s] w (OPost w b (fun k => base ≤ k) (l ++ s.data.toList)) := by
  obtain ⟨A, c, h1, h2, h3⟩ := h.own
  have c0 : w.cell? ⟨b, 0, none⟩ = some (.slice A l.length c) := (blk_cell h1 0).trans rfl
  have H1 := Lib.hid h1
  have H2 := Lib.hid h2
  have H2b := Lib.hid (show w.ownsRow base 5 1 (.slice A l.length c) (nu l).length (nums .u8 (nu l)) by
    obtain ⟨q, hq⟩ := h2
    refine ⟨q, ?_⟩
    rcases hq with hq | ⟨g, cap, cur, e1, _, e3⟩
    · exact .inl hq
    · exact .inr ⟨g, cap, cur, e1, h3 g (by rw [e1]; rfl), e3⟩)
  have H3 := Lib.hid h3
  have HB := Lib.hid hb
  have HLT := Lib.hid h.lt
  have HS := Lib.hid hs
  have hz : (nu l).length ≤ 1000000 := by rw [nu_len]; exact hl
  have HZ := Lib.hid hz
  have e : nu (l ++ s.data.toList) = nu l ++ bytesOf s := nu_app _ _
  have HE := Lib.hid e
  have HNL := Lib.hid (show (nu l ++ bytesOf s).length = (l ++ s.data.toList).length by rw [← e, nu_len])
  have HSZ := Lib.hid (show l.length + s.size = (l ++ s.data.toList).length by rw [List.length_append, Lib.size_eq])
  clear h h1 h2 h3 hl hz e hb hs
  go_enter Tryz.func59, Tryz.ntmps59
  go_wp2_with (first
    | ((with_reducible refine gate_builtin (b := .append) (xs := #[.tmp 9, .tmp 10]) rfl ?_); at_builtin; refine print_append_str (w0 := w) base rfl (.tmp 9) (.tmp 10) 35 9 5 rfl Tryz.underlying35 Tryz.underlying9 info5b _ (nu l) s rfl rfl H2b.out (Below.refl _ _) HB.out (by have := HZ.out; have := HS.out; omega) ?_; intro v1 w2 ho0 hb hg; rw [HNL.out, ← HE.out] at ho0; have ho : w2.ownsRow 0 5 1 v1 (l ++ s.data.toList).length (nums .u8 (nu (l ++ s.data.toList))) := own_zero ho0; obtain ⟨A1, c1, rfl⟩ := slice_ownb ho; have HO := Lib.hid ho; have HO0 := Lib.hid ho0; have HG := Lib.hid hg; have hblk := blk_grown H1.out hg (fun e => own_neb H2.out H1.out b e.symm rfl); have HBK := Lib.hid hblk; have d0 : w2.cell? ⟨b, 0, none⟩ = some (.slice A l.length c) := (blk_cell hblk 0).trans rfl; have f0 := blk_frozen hblk 0; clear ho ho0 hb hg hblk))
  go_ret
  exact ⟨rfl, OW.put HBK.out HO.out (fun k hk => own_base HO0.out k hk) (by first | rfl | simp | exact HSZ.out), Chg.setCell (Chg.of_grown HG.out (fun k hk => .inr ⟨H3.out k hk, own_typed H2.out k hk⟩)) (.inl (.inl rfl)) _⟩
def varU (n : Nat) : List UInt8 := if h : n < 128 then [UInt8.ofNat n] else UInt8.ofNat (n % 128 + 128) :: varU (n / 128)
theorem varU_lt {n : Nat} (h : n < 128) : varU n = [UInt8.ofNat n] := by
  rw [varU, dif_pos h]
theorem varU_ge {n : Nat} (h : ¬ n < 128) : varU n = UInt8.ofNat (n % 128 + 128) :: varU (n / 128) := by
  rw [varU, dif_neg h]
theorem varU_len (n : Nat) (h : n < 268435456) : (varU n).length ≤ 4 := by
  by_cases h1 : n < 128
  · rw [varU_lt h1]; simp
  · rw [varU_ge h1]
    by_cases h2 : n / 128 < 128
    · rw [varU_lt h2]; simp
    · rw [varU_ge h2]
      by_cases h3 : n / 128 / 128 < 128
      · rw [varU_lt h3]; simp
      · rw [varU_ge h3, varU_lt (by omega)]; simp
theorem varU_pos (n : Nat) : 0 < (varU n).length := by
  by_cases h1 : n < 128
  · rw [varU_lt h1]; simp
  · rw [varU_ge h1]; simp
def be2 (n : Nat) : List UInt8 := [UInt8.ofNat (n / 256), UInt8.ofNat (n % 256)]
theorem absorb {w w1 : World} {S : Nat} {R T : Nat → Prop} (hR : ∀ k, w.heap.size ≤ k → R k) (hc : Ch5 S T w w1) : ∀ k, w1.heap.size ≤ k → R k := fun k hk => hR k (Nat.le_trans hc.size hk)
set_option maxHeartbeats 1000000 in
set_option maxRecDepth 1000000 in
theorem two_calls {w : World} {b : Nat} {R : Nat → Prop} {l : List UInt8} (h : OW w b R l) (hR : ∀ k, w.heap.size ≤ k → R k) (hl : l.length ≤ 900000) (n : Nat) (hn : n ≤ 4294967295) : Calls Tryz.prog 384 #[.pointer (some ⟨b, 0, none⟩), .int .u32 n] w (OPost w b R (l ++ be2 (n % 65536))) := by
  have H := Lib.hid h
  have HR := Lib.hid hR
  have HL := Lib.hid hl
  have hd1 : (n : Int) / 256 % 256 = ((n % 65536 / 256 : Nat) : Int) := by omega
  have hd2 : (n : Int) % 256 = ((n % 65536 % 256 : Nat) : Int) := by omega
  have hlt1 : n % 65536 / 256 < 256 := by omega
  have hlt2 : n % 65536 % 256 < 256 := by omega
  have HD := Lib.hid (show be2 (n % 65536) = [UInt8.ofNat (n % 65536 / 256), UInt8.ofNat (n % 65536 % 256)] from rfl)
  generalize n % 65536 / 256 = x at hd1 hlt1 HD
  generalize n % 65536 % 256 = y at hd2 hlt2 HD
  clear h hl hR
  go_enter Tryz.func384, Tryz.ntmps384
  go_wp2_with (first
    | (go_at_call 32; refine (byte_calls H.out HR.out (by have := HL.out; omega) x hlt1).mono ?_; rintro e w1 ⟨rfl, ho, hb1⟩; have HO1 := Lib.hid ho; have HB1 := Lib.hid hb1; clear H ho hb1)
    | (go_at_call 32; refine (byte_calls HO1.out (absorb HR.out HB1.out) (by have := HL.out; simp; omega) y hlt2).mono ?_; rintro e w2 ⟨rfl, ho, hb1⟩; have HO2 := Lib.hid ho; have HB2 := Lib.hid hb1; clear HO1 ho hb1))
  go_ret
  exact ⟨rfl, by have h := HO2.out; rw [HD.out]; simpa using h, HB1.out.trans HB2.out⟩
def be4 (n : Nat) : List UInt8 := be2 (n / 65536 % 65536) ++ be2 (n % 65536)
set_option maxHeartbeats 1000000 in
set_option maxRecDepth 1000000 in
theorem four_calls {w : World} {b : Nat} {R : Nat → Prop} {l : List UInt8} (h : OW w b R l) (hR : ∀ k, w.heap.size ≤ k → R k) (hl : l.length ≤ 800000) (n : Nat) (hn : n ≤ 4294967295) : Calls Tryz.prog 387 #[.pointer (some ⟨b, 0, none⟩), .int .u32 n] w (OPost w b R (l ++ be4 n)) := by
  have H := Lib.hid h
  have HR := Lib.hid hR
  have HL := Lib.hid hl
  have hd1 : (n : Int) / 65536 = ((n / 65536 : Nat) : Int) := by omega
  have hle : n / 65536 ≤ 4294967295 := by omega
  have HD := Lib.hid (show be4 n = be2 (n / 65536 % 65536) ++ be2 (n % 65536) from rfl)
  generalize n / 65536 = x at hd1 hle HD
  clear h hl hR
  go_enter Tryz.func387, Tryz.ntmps387
  go_wp2_with (first
    | (go_at_call 384; refine (two_calls H.out HR.out (by have := HL.out; omega) x hle).mono ?_; rintro e w1 ⟨rfl, ho, hb1⟩; have HO1 := Lib.hid ho; have HB1 := Lib.hid hb1; clear H ho hb1)
    | (go_at_call 384; refine (two_calls HO1.out (absorb HR.out HB1.out) (by have := HL.out; simp [be2]; omega) n hn).mono ?_; rintro e w2 ⟨rfl, ho, hb1⟩; have HO2 := Lib.hid ho; have HB2 := Lib.hid hb1; clear HO1 ho hb1))
  go_ret
  exact ⟨rfl, by have h := HO2.out; rw [HD.out, ← List.append_assoc]; exact h, HB1.out.trans HB2.out⟩
set_option maxHeartbeats 4000000 in
set_option maxRecDepth 1000000 in
theorem text_calls {w : World} {b : Nat} {R : Nat → Prop} {l : List UInt8} (h : OW w b R l) : Calls Tryz.prog 16 #[.pointer (some ⟨b, 0, none⟩)] w fun e w' => e = .returned (.string (toB l)) ∧ Below w.heap.size w w' := by
  obtain ⟨A, c, h1, h2⟩ := h
  have c0 : w.cell? ⟨b, 0, none⟩ = some (.slice A l.length c) := (blk_cell h1 0).trans rfl
  have hc := (Kd.R_reads' h2).2.2
  have kb := Kd.C_string (P := Tryz.prog) (src := 35) (dst := 9) (e := 5) (c := c) Tryz.underlying35 Tryz.underlying5 Tryz.underlying9 hc
  rw [str_nu, nu_len] at kb
  clear h1 h2 hc
  go_enter Tryz.func16, Tryz.ntmps16
  go_wp2
  go_ret
  exact ⟨rfl, Below.refl _ _⟩
set_option maxHeartbeats 1000000 in
set_option maxRecDepth 1000000 in
theorem len_calls {w : World} {b : Nat} {R : Nat → Prop} {l : List UInt8} (h : OW w b R l) : Calls Tryz.prog 139 #[.pointer (some ⟨b, 0, none⟩)] w fun e w' => e = .returned (.int .i64 l.length) ∧ Below w.heap.size w w' := by
  obtain ⟨A, c, h1, h2⟩ := h
  have c0 : w.cell? ⟨b, 0, none⟩ = some (.slice A l.length c) := (blk_cell h1 0).trans rfl
  clear h1 h2
  go_enter Tryz.func139, Tryz.ntmps139
  go_wp2
  go_ret
  exact ⟨rfl, Below.refl _ _⟩
theorem OW.new (w : World) (R : Nat → Prop) : OW (w.alloc (.cells #[.slice none 0 0] 59)) w.heap.size R [] :=
  ⟨none, 0, heap_alloc_new w _, Kd.R_nil _ _ _ _ _⟩
theorem and127 (m : Nat) (h : m < 4294967296) : Go.bits .and .u32 (m : Int) 127 = ((m % 128 : Nat) : Int) := by
  have := (bits_nat .u32 32 (by decide) wraps_u32 m 127 (by omega) (by decide)).1
  rw [show ((127 : Int)) = ((127 : Nat) : Int) from rfl, this, Nat.and_two_pow_sub_one_eq_mod m 7]
theorem or128 (m : Nat) (h : m < 128) : Go.bits .or .u8 (m : Int) 128 = ((m + 128 : Nat) : Int) := by
  have h : ∀ n : Fin 128, Go.bits .or .u8 ((n.1 : Nat) : Int) 128 = ((n.1 + 128 : Nat) : Int) := by decide +kernel
  exact h ⟨m, by assumption⟩
def varM (a : Act) (_ : World) : Nat := match (a.tmps[1]? : Option Value) with
  | some (Value.int _ m) => m.toNat
  | _ => 0
set_option maxHeartbeats 4000000 in
set_option maxRecDepth 1000000 in
theorem ovar_calls {w : World} {b : Nat} {R : Nat → Prop} {l : List UInt8} (h : OW w b R l) (hR : ∀ k, w.heap.size ≤ k → R k) (hl : l.length ≤ 900000) (n : Nat) (hn : n ≤ 268435455) : Calls Tryz.prog 15 #[.pointer (some ⟨b, 0, none⟩), .int .u32 n] w (OPost w b R (l ++ varU n)) := by
  have H := Lib.hid h
  have HL := Lib.hid hl
  have HRR := Lib.hid hR
  have HN := Lib.hid hn
  have hm : min (n : Int) 268435455 = (n : Int) := by omega
  clear h hl hR
  go_enter Tryz.func15, Tryz.ntmps15
  go_wp2
  refine wp_scope_jumps 0 (fun a' w' => ∃ (m : Nat) (l' : List UInt8), Hid (OW w' b R l' ∧ Ch5 b R w w' ∧ l' ++ varU m = l ++ varU n ∧ m ≤ 268435455) ∧ ∃ (u5 u6 u7 u8 u9 u10 u11 u12 u13 u14 u15 u16 u17 u18 u19 u20 u21 : Value), a' = { tmps := #[.pointer (some ⟨b, 0, none⟩), .int .u32 m, undef, undef, .pointer none, u5, u6, u7, u8, u9, u10, u11, u12, u13, u14, u15, u16, u17, u18, u19, u20, u21], defers := [] }) varM rfl ?_ ?_
  · have HW := Lib.hid (Nat.le_refl n)
    have hq1 := and127 n (by omega)
    have hq3 : (n : Int) / 128 = ((n / 128 : Nat) : Int) := by omega
    have hr : n % 128 < 128 := Nat.mod_lt _ (by decide)
    have hqq : n = 128 * (n / 128) + n % 128 := (Nat.div_add_mod n 128).symm
    have hv : varU n = if n / 128 = 0 then [UInt8.ofNat (n % 128)] else UInt8.ofNat (n % 128 + 128) :: varU (n / 128) := by
      by_cases h : n < 128
      · rw [if_pos (by omega), varU_lt h, Nat.mod_eq_of_lt h]
      · rw [if_neg (by omega), varU_ge h]
    generalize n / 128 = q at hq3 hqq hv
    generalize n % 128 = r at hq1 hr hqq hv
    have hq2 : (r : Int) % 256 = (r : Int) := by omega
    have hq4 := or128 r hr
    have hlt : r < 256 := by omega
    have hlt2 : r + 128 < 256 := by omega
    generalize r + 128 = z at hq4 hlt2 hv
    by_cases h1 : q = 0
    · have hd : decide (0 < q) = false := decide_eq_false (by omega)
      rw [if_pos h1] at hv
      have HV := Lib.hid hv
      clear hv h1 hqq hn hr hlt2
      go_wp2
      go_step3
      go_wp2_with (first
        | (go_at_call 32; refine (byte_calls H.out HRR.out (by have := HL.out; omega) (r) hlt).mono ?_; rintro e w1 ⟨rfl, ho, hb1⟩; have HO1 := Lib.hid ho; have HB1 := Lib.hid hb1; clear ho hb1))
      simp only [Exit.jump]
      go_ret
      exact ⟨rfl, by rw [HV.out]; exact HO1.out, HB1.out⟩
    · have hd : decide (0 < q) = true := decide_eq_true (by omega)
      rw [if_neg h1] at hv
      have HV := Lib.hid hv
      have HQ := Lib.hid (show q ≤ 268435455 by omega)
      clear hv h1 hqq hn hr hlt
      go_wp2
      go_step3
      go_wp2_with (first
        | (go_at_call 32; refine (byte_calls H.out HRR.out (by have := HL.out; omega) (z) hlt2).mono ?_; rintro e w1 ⟨rfl, ho, hb1⟩; have HO1 := Lib.hid ho; have HB1 := Lib.hid hb1; clear ho hb1))
      go_step3
      exact ⟨rfl, q, l ++ [UInt8.ofNat z], Lib.hid ⟨HO1.out, HB1.out, by rw [HV.out, List.append_assoc]; rfl, HQ.out⟩, _, _, _, _, _, _, _, _, _, _, _, _, _, _, _, _, _, rfl⟩
  · rintro a' w' ⟨m, l', HJ, u5, u6, u7, u8, u9, u10, u11, u12, u13, u14, u15, u16, u17, u18, u19, u20, u21, rfl⟩
    have hmn : m ≤ 268435455 := HJ.out.2.2.2
    have HL2 := Lib.hid (show l'.length ≤ 900100 by
      have h1 := congrArg List.length HJ.out.2.2.1
      rw [List.length_append, List.length_append] at h1
      have h2 := varU_len n (by have := HN.out; omega)
      have h3 := HL.out
      omega)
    have hq1 := and127 m (by omega)
    have hq3 : (m : Int) / 128 = ((m / 128 : Nat) : Int) := by omega
    have hr : m % 128 < 128 := Nat.mod_lt _ (by decide)
    have hqq : m = 128 * (m / 128) + m % 128 := (Nat.div_add_mod m 128).symm
    have hv : varU m = if m / 128 = 0 then [UInt8.ofNat (m % 128)] else UInt8.ofNat (m % 128 + 128) :: varU (m / 128) := by
      by_cases h : m < 128
      · rw [if_pos (by omega), varU_lt h, Nat.mod_eq_of_lt h]
      · rw [if_neg (by omega), varU_ge h]
    generalize m / 128 = q at hq3 hqq hv
    generalize m % 128 = r at hq1 hr hqq hv
    have hq2 : (r : Int) % 256 = (r : Int) := by omega
    have hq4 := or128 r hr
    have hlt : r < 256 := by omega
    have hlt2 : r + 128 < 256 := by omega
    generalize r + 128 = z at hq4 hlt2 hv
    by_cases h1 : q = 0
    · have hd : decide (0 < q) = false := decide_eq_false (by omega)
      rw [if_pos h1] at hv
      have HV := Lib.hid hv
      clear hv h1 hqq hmn hn hr hlt2
      go_wp2_with (first
        | (go_at_call 32; refine (byte_calls HJ.out.1 (absorb HRR.out HJ.out.2.1) (by have := HL2.out; omega) (r) hlt).mono ?_; rintro e w1 ⟨rfl, ho, hb1⟩; have HO1 := Lib.hid ho; have HB1 := Lib.hid hb1; clear ho hb1))
      simp only [Exit.jump]
      go_ret
      exact ⟨rfl, by rw [← HJ.out.2.2.1, HV.out]; exact HO1.out, HJ.out.2.1.trans HB1.out⟩
    · have hd : decide (0 < q) = true := decide_eq_true (by omega)
      rw [if_neg h1] at hv
      have HV := Lib.hid hv
      have HM1 := Lib.hid (show q < m ∧ q ≤ 268435455 by omega)
      clear hv h1 hqq hmn hn hr hlt
      go_wp2_with (first
        | (go_at_call 32; refine (byte_calls HJ.out.1 (absorb HRR.out HJ.out.2.1) (by have := HL2.out; omega) (z) hlt2).mono ?_; rintro e w1 ⟨rfl, ho, hb1⟩; have HO1 := Lib.hid ho; have HB1 := Lib.hid hb1; clear ho hb1))
      go_step3
      exact ⟨rfl, ⟨q, l' ++ [UInt8.ofNat z], Lib.hid ⟨HO1.out, HJ.out.2.1.trans HB1.out, by rw [List.append_assoc, ← HJ.out.2.2.1, HV.out]; rfl, HM1.out.2⟩, _, _, _, _, _, _, _, _, _, _, _, _, _, _, _, _, _, rfl⟩, HM1.out.1⟩
set_option maxHeartbeats 1000000 in
set_option maxRecDepth 1000000 in
theorem data_calls {w : World} {base b : Nat} {l : List UInt8} (h : OW w b (fun k => base ≤ k) l) (hb : base ≤ w.heap.size) (hl : l.length ≤ 900000) (s : ByteArray) (hs : s.size ≤ 65535) : Calls Tryz.prog 383 #[.pointer (some ⟨b, 0, none⟩), .string s] w (OPost w b (fun k => base ≤ k) (l ++ (be2 s.size ++ s.data.toList))) := by
  have H := Lib.hid h
  have HB := Lib.hid hb
  have HL := Lib.hid hl
  have HS := Lib.hid hs
  have hm : min (s.size : Int) 65535 = (s.size : Int) := by omega
  have hw : (s.size : Int) % 4294967296 = (s.size : Int) := by omega
  have hx : s.extract 0 s.size = s := by
    rw [Lib.extract_eq, Lib.size_eq, List.drop_zero, Nat.sub_zero, List.take_length]
  have HM := Lib.hid (show s.size % 65536 = s.size by omega)
  clear h hl hb hs
  go_enter Tryz.func383, Tryz.ntmps383
  go_wp2_with (first
    | (go_at_call 384; refine (two_calls H.out (fun k hk => Nat.le_trans HB.out hk) (by have := HL.out; omega) s.size (by have := HS.out; omega)).mono ?_; rintro e w1 ⟨rfl, ho, hb1⟩; rw [HM.out] at ho; have HO1 := Lib.hid ho; have HB1 := Lib.hid hb1; clear H ho hb1)
    | (go_at_call 59; refine (raw_calls HO1.out (Nat.le_trans HB.out HB1.out.size) (by have := HL.out; simp [be2]; omega) s (by have := HS.out; omega)).mono ?_; rintro e w2 ⟨rfl, ho, hb1⟩; have HO2 := Lib.hid ho; have HB2 := Lib.hid hb1; clear HO1 ho hb1))
  go_ret
  exact ⟨rfl, by have h := HO2.out; rw [List.append_assoc] at h; exact h, HB1.out.trans HB2.out⟩
theorem bits3 : prop_bits.f 30 [3] = some 8 := by decide +kernel
theorem of_out (id : Int) (h : id < 1 ∨ 42 < id) : prop_of.f 30 id = some (0, 0, 0, 0, 0) := by
  have hn : ∀ m : Int, 1 ≤ m → m ≤ 42 → (id = m) = False := fun m h1 h2 => by
    have : id ≠ m := by omega
    simp [this]
  have hb : ∀ m : Int, 1 ≤ m → m ≤ 42 → ((id == m) = false) := fun m h1 h2 => by
    have : id ≠ m := by omega
    simp [this]
  unfold prop_of.f
  rw [bits3]
  simp only [Option.bind_some, hn 1 (by decide) (by decide), hn 2 (by decide) (by decide), hn 3 (by decide) (by decide), if_false, hb 8 (by decide) (by decide)]
  rw [show (30 : Nat) = 29 + 1 from rfl, prop_of.j0]
  simp only [Bool.false_eq_true, if_false, hn 9 (by decide) (by decide), hn 11 (by decide) (by decide), hn 17 (by decide) (by decide), hn 18 (by decide) (by decide), hn 19 (by decide) (by decide), hn 21 (by decide) (by decide), hn 22 (by decide) (by decide), hn 23 (by decide) (by decide), hb 25 (by decide) (by decide)]
  rw [show (29 : Nat) = 28 + 1 from rfl, prop_of.j1]
  simp only [Bool.false_eq_true, if_false, hn 24 (by decide) (by decide), hn 26 (by decide) (by decide), hn 28 (by decide) (by decide), hn 31 (by decide) (by decide), hn 33 (by decide) (by decide), hn 34 (by decide) (by decide), hn 35 (by decide) (by decide), hn 36 (by decide) (by decide), hn 37 (by decide) (by decide), hn 40 (by decide) (by decide), hn 41 (by decide) (by decide), hb 42 (by decide) (by decide)]
  rw [show (28 : Nat) = 27 + 1 from rfl, prop_of.j2]
  simp only [Bool.false_eq_true, if_false, hn 38 (by decide) (by decide), hn 39 (by decide) (by decide)]
def ruleOk (r : Option (Int × Int × Int × Int × Int)) : Bool := match r with
  | some (k, i, a, b, m) => decide (0 ≤ k) && decide (k ≤ 7) && decide (0 ≤ i) && decide (i < 1048576) && decide (0 ≤ a) && decide (a ≤ 4294967295) && decide (0 ≤ b) && decide (b ≤ 4294967295) && decide (0 ≤ m) && decide (m < 1048576) && (k != 4 || decide (b ≤ 268435455))
  | none => false
theorem of_in : ∀ n : Fin 43, ruleOk (prop_of.f 30 (n.1 : Nat)) = true := by decide +kernel
theorem of_ok (id : Int) : ruleOk (prop_of.f 30 id) = true := by
  by_cases h : id < 1 ∨ 42 < id
  · rw [of_out id h]; decide
  · have := of_in ⟨id.toNat, by omega⟩
    rw [show (((⟨id.toNat, by omega⟩ : Fin 43).1 : Nat) : Int) = id by show ((id.toNat : Nat) : Int) = id; omega] at this
    exact this
def ruleOf (id : Int) : Int × Int × Int × Int × Int := (prop_of.f 30 id).getD (0, 0, 0, 0, 0)
theorem of_f (id : Int) : prop_of.f 30 id = some (ruleOf id) := by
  have h := of_ok id
  unfold ruleOf
  cases hr : prop_of.f 30 id with
  | none => rw [hr] at h; cases h
  | some r => rfl
theorem rule_ok (id : Int) : ruleOk (some (ruleOf id)) = true := by rw [← of_f]; exact of_ok id
def kindOf (id : Int) : Nat := (ruleOf id).1.toNat
theorem kind_int (id : Int) : (ruleOf id).1 = (kindOf id : Nat) ∧ kindOf id ≤ 7 := by
  have h := rule_ok id
  unfold kindOf
  generalize ruleOf id = r at h ⊢
  obtain ⟨k, i, a, b, m⟩ := r
  simp only [ruleOk, Bool.and_eq_true, decide_eq_true_eq] at h
  simp only
  omega
theorem of_calls (id : Int) (w : World) : Calls Tryz.prog 33 #[.int .i64 id] w fun e w' => e = .returned (.agg #[.int .i64 (ruleOf id).1, .int .i64 (ruleOf id).2.1, .int .u32 (ruleOf id).2.2.1, .int .u32 (ruleOf id).2.2.2.1, .int .i64 (ruleOf id).2.2.2.2]) ∧ Below w.heap.size w w' :=
  prop_of.calls 30 id _ _ _ _ _ w (of_f id)
set_option maxHeartbeats 1000000 in
set_option maxRecDepth 100000 in
theorem kind_calls (id : Int) (w : World) : Calls Tryz.prog 17 #[.int .i64 id] w fun e w' => e = .returned (.int .i64 (kindOf id : Nat)) ∧ Below w.heap.size w w' := by
  have HO := Lib.hid (fun W => of_calls id W)
  rw [(kind_int id).1] at HO
  generalize kindOf id = k at HO ⊢
  generalize ruleOf id = r at HO
  obtain ⟨k0, i, a, b, m⟩ := r
  simp only at HO
  have hfld : ∀ W, (Instr.field 116 (.agg #[.int .i64 (k : Nat), .int .i64 i, .int .u32 a, .int .u32 b, .int .i64 m]) 0).run Tryz.prog W = .ok (.int .i64 (k : Nat)) W := fun W => by kernel_rfl
  go_enter Tryz.func17, Tryz.ntmps17
  go_wp2_with (first | (go_at_call 33; refine (HO.out _).mono ?_; rintro e w3 ⟨rfl, hb⟩; have HB2 := Lib.hid hb; clear hb))
  go_ret
  exact ⟨rfl, HB2.out⟩
theorem OW.ch5 {w w1 : World} {b b2 : Nat} {R R2 : Nat → Prop} {l : List UInt8} (h : OW w b2 R2 l) (hc : Ch5 b R w w1) (hne : b2 ≠ b) (hd : ∀ k, R2 k → k ≠ b ∧ ¬ R k) : OW w1 b2 R2 l := by
  refine h.to hc (fun hk => ?_) (fun k hk hs => hs.elim (hd k hk).1 (fun e => (hd k hk).2 e.1))
  rcases hk with hk | ⟨_, cs, hk⟩
  · exact hne hk
  · obtain ⟨A, c, h1, _⟩ := h
    rw [h1] at hk
    injection hk with hk
    injection hk with _ hk _
    exact absurd hk (by decide)
theorem OW.drew {w : World} {b : Nat} {R : Nat → Prop} {l : List UInt8} (h : OW w b R l) : OW w.drew b R l := h.to (S := fun _ => False) ⟨rfl, rfl, rfl, Nat.le_refl _, fun _ _ _ => rfl⟩ id (fun _ _ => id)
theorem Ch5.drew {w w1 : World} {b : Nat} {R : Nat → Prop} (h : Ch5 b R w w1) : Ch5 b R w w1.drew := Chg.drew h
theorem IN.drew {w : World} {g : Nat} {s : ByteArray} {er : Int} (h : IN w g s er) : IN w.drew g s er := h
structure PR where
  id : Nat
  n : Nat
  s : ByteArray
  t : ByteArray
def PR.m (p : PR) : S144 := ⟨(p.id : Int), (p.n : Int), p.s, p.t⟩
def PR.k (p : PR) : Nat := kindOf (p.id : Int)
structure PR.Ok (p : PR) : Prop where
  id : p.id ≤ 268435455
  n : p.n ≤ 4294967295
  v : p.k = 4 → p.n ≤ 268435455
  s : p.s.size ≤ 65535
  t : p.t.size ≤ 65535
def dat (s : ByteArray) : List UInt8 := be2 s.size ++ s.data.toList
theorem dat_len (s : ByteArray) : (dat s).length = 2 + s.size := by
  unfold dat be2
  rw [List.length_append, ← Lib.size_eq]
  rfl
def valB (k n : Nat) (s t : ByteArray) : List UInt8 :=
  if k = 1 then [UInt8.ofNat (n % 256)] else if k = 2 then be2 (n % 65536) else if k = 3 then be4 n else if k = 4 then varU n else if k = 5 ∨ k = 6 then dat s else if k = 7 then dat s ++ dat t else []
def propB (p : PR) : List UInt8 := varU p.id ++ valB p.k p.n p.s p.t
theorem varU_5 (n : Nat) (h : n ≤ 268435455) : (varU n).length ≤ 4 := varU_len n (by omega)
def PutPost (w : World) (b base : Nat) (l : List UInt8) (e : Ending) (w' : World) : Prop := e = .returned (.tuple #[]) ∧ OW w' b (fun k => base ≤ k) l ∧ Ch5 b (fun k => base ≤ k) w w'
theorem bxcell {w : World} {bx : Nat} {a b : Int} {s t : ByteArray} (h : w.heap[bx]? = some (.cells #[.int .i64 a, .int .u32 b, .string s, .string t] 38 (0, 0))) : w.cell? ⟨bx, 0, none⟩ = some (.int .i64 a) ∧ w.cell? ⟨bx, 1, none⟩ = some (.int .u32 b) ∧ w.cell? ⟨bx, 2, none⟩ = some (.string s) ∧ w.cell? ⟨bx, 3, none⟩ = some (.string t) :=
  ⟨(blk_cell h 0).trans rfl, (blk_cell h 1).trans rfl, (blk_cell h 2).trans rfl, (blk_cell h 3).trans rfl⟩
set_option maxHeartbeats 4000000 in
set_option maxRecDepth 1000000 in
theorem put_calls {w : World} {b base : Nat} {l : List UInt8} (h : OW w b (fun k => base ≤ k) l) (hb : base ≤ w.heap.size) (hl : l.length ≤ 600000) (p : PR) (hp : p.Ok) :
    Calls Tryz.prog 386 #[.pointer (some ⟨b, 0, none⟩), .agg #[.int .i64 (p.id : Nat), .int .u32 (p.n : Nat), .string p.s, .string p.t]] w (PutPost w b base (l ++ propB p)) := by
  have HLT := Lib.hid h.lt
  have HBB := Lib.hid hb
  have HL := Lib.hid hl
  have HO := Lib.hid (h.below ((Below.refl w.heap.size w).alloc (Nat.le_refl _) (.cells #[.int .i64 (p.id : Nat), .int .u32 (p.n : Nat), .string p.s, .string p.t] 38)))
  have HX := Lib.hid (heap_alloc_new w (.cells #[.int .i64 (p.id : Nat), .int .u32 (p.n : Nat), .string p.s, .string p.t] 38))
  have HK := Lib.hid (fun W => kind_calls (p.id : Int) W)
  have hk7 : kindOf (p.id : Int) ≤ 7 := (kind_int _).2
  have HPB := Lib.hid (show propB p = varU p.id ++ valB p.k p.n p.s p.t from rfl)
  obtain ⟨hid, hn, hv, hs, ht⟩ := hp
  obtain ⟨id, n, s, t⟩ := p
  simp only at HO HX HK HPB hid hn hs ht hk7 ⊢
  rw [show PR.k ⟨id, n, s, t⟩ = kindOf (id : Int) from rfl] at HPB hv
  simp only at hv
  have hW1 : base ≤ (w.alloc (.cells #[.int .i64 (id : Nat), .int .u32 (n : Nat), .string s, .string t] 38)).heap.size := by rw [World.size_alloc]; omega
  have HW1 := Lib.hid hW1
  have hw32 : (id : Int) % 4294967296 = (id : Int) := by omega
  have hVL := Lib.hid (varU_5 id hid)
  have HLTW := Lib.hid (show w.heap.size ≠ b by have := h.lt; omega)
  have hC0 := Lib.hid (show Ch5 b (fun k => base ≤ k) w (w.alloc (.cells #[.int .i64 (id : Nat), .int .u32 (n : Nat), .string s, .string t] 38)) from Ch5.of_below ((Below.refl _ _).alloc (Nat.le_refl _) _))
  generalize propB ⟨id, n, s, t⟩ = PB at HPB ⊢
  clear h hb hl hW1
  generalize kindOf (id : Int) = k at HK HPB hk7 hv
  have HHV := Lib.hid hv
  clear hv
  have hd1 : (n : Int) % 256 = ((n % 256 : Nat) : Int) := by omega
  have hlt1 : n % 256 < 256 := Nat.mod_lt _ (by decide)
  have hcase : k = 0 ∨ k = 1 ∨ k = 2 ∨ k = 3 ∨ k = 4 ∨ k = 5 ∨ k = 6 ∨ k = 7 := by omega
  clear hk7
  rcases hcase with rfl | rfl | rfl | rfl | rfl | rfl | rfl | rfl
  · have HVB := Lib.hid (show PB = varU id ++ [] from HPB.out)
    clear HPB
    clear hd1 hlt1
    go_enter Tryz.func386, Tryz.ntmps386
    go_wp2_with (first | (go_at_call 15; refine (ovar_calls HO.out (fun k hk => Nat.le_trans HW1.out hk) (by have := HL.out; omega) id hid).mono ?_; rintro e w1 ⟨rfl, ho, hc⟩; have HO1 := Lib.hid ho; have hx := Ch5.blk hc HX.out HLTW.out (by decide); have HX1 := Lib.hid hx; have HC := Lib.hid (hC0.out.trans hc); have HS1 := Lib.hid (Nat.le_trans HW1.out hc.size); obtain ⟨x0, x1, x2, x3⟩ := bxcell hx; clear ho hc hx) | (go_at_call 17; refine (HK.out _).mono ?_; rintro e w2 ⟨rfl, hb2⟩; have HO2 := Lib.hid (HO1.out.below hb2); have hx := hb2.block _ (blk_lt HX1.out) |>.trans HX1.out; have HX2 := Lib.hid hx; have HC2 := Lib.hid (HC.out.below_ hb2); have HS2 := Lib.hid (Nat.le_trans HS1.out hb2.size); obtain ⟨y0, y1, y2, y3⟩ := bxcell hx; clear hb2 hx))
    go_end0
    exact ⟨rfl, by rw [HVB.out, List.append_nil]; exact HO2.out, HC2.out⟩
  · have HVB := Lib.hid (show PB = varU id ++ [UInt8.ofNat (n % 256)] from HPB.out)
    clear HPB
    generalize n % 256 = n1 at hd1 hlt1 HVB
    go_enter Tryz.func386, Tryz.ntmps386
    go_wp2_with (first | (go_at_call 15; refine (ovar_calls HO.out (fun k hk => Nat.le_trans HW1.out hk) (by have := HL.out; omega) id hid).mono ?_; rintro e w1 ⟨rfl, ho, hc⟩; have HO1 := Lib.hid ho; have hx := Ch5.blk hc HX.out HLTW.out (by decide); have HX1 := Lib.hid hx; have HC := Lib.hid (hC0.out.trans hc); have HS1 := Lib.hid (Nat.le_trans HW1.out hc.size); obtain ⟨x0, x1, x2, x3⟩ := bxcell hx; clear ho hc hx) | (go_at_call 17; refine (HK.out _).mono ?_; rintro e w2 ⟨rfl, hb2⟩; have HO2 := Lib.hid (HO1.out.below hb2); have hx := hb2.block _ (blk_lt HX1.out) |>.trans HX1.out; have HX2 := Lib.hid hx; have HC2 := Lib.hid (HC.out.below_ hb2); have HS2 := Lib.hid (Nat.le_trans HS1.out hb2.size); obtain ⟨y0, y1, y2, y3⟩ := bxcell hx; clear hb2 hx) | (go_at_call 32; refine (byte_calls HO2.out (fun k hk => Nat.le_trans HS2.out hk) (by have h1 := HL.out; have h2 := hVL.out; rw [List.length_append]; omega) n1 hlt1).mono ?_; rintro e w3 ⟨rfl, ho, hc⟩; have HO3 := Lib.hid ho; have HC3 := Lib.hid (HC2.out.trans hc); have HS3 := Lib.hid (Nat.le_trans HS2.out hc.size); have hx := Ch5.blk hc HX2.out HLTW.out (by decide); obtain ⟨z0, z1, z2, z3⟩ := bxcell hx; clear ho hc hx))
    go_end0
    exact ⟨rfl, by rw [HVB.out, ← List.append_assoc]; exact HO3.out, HC3.out⟩
  · have HVB := Lib.hid (show PB = varU id ++ be2 (n % 65536) from HPB.out)
    clear HPB
    clear hd1 hlt1
    go_enter Tryz.func386, Tryz.ntmps386
    go_wp2_with (first | (go_at_call 15; refine (ovar_calls HO.out (fun k hk => Nat.le_trans HW1.out hk) (by have := HL.out; omega) id hid).mono ?_; rintro e w1 ⟨rfl, ho, hc⟩; have HO1 := Lib.hid ho; have hx := Ch5.blk hc HX.out HLTW.out (by decide); have HX1 := Lib.hid hx; have HC := Lib.hid (hC0.out.trans hc); have HS1 := Lib.hid (Nat.le_trans HW1.out hc.size); obtain ⟨x0, x1, x2, x3⟩ := bxcell hx; clear ho hc hx) | (go_at_call 17; refine (HK.out _).mono ?_; rintro e w2 ⟨rfl, hb2⟩; have HO2 := Lib.hid (HO1.out.below hb2); have hx := hb2.block _ (blk_lt HX1.out) |>.trans HX1.out; have HX2 := Lib.hid hx; have HC2 := Lib.hid (HC.out.below_ hb2); have HS2 := Lib.hid (Nat.le_trans HS1.out hb2.size); obtain ⟨y0, y1, y2, y3⟩ := bxcell hx; clear hb2 hx) | (go_at_call 384; refine (two_calls HO2.out (fun k hk => Nat.le_trans HS2.out hk) (by have h1 := HL.out; have h2 := hVL.out; rw [List.length_append]; omega) n hn).mono ?_; rintro e w3 ⟨rfl, ho, hc⟩; have HO3 := Lib.hid ho; have HC3 := Lib.hid (HC2.out.trans hc); have HS3 := Lib.hid (Nat.le_trans HS2.out hc.size); have hx := Ch5.blk hc HX2.out HLTW.out (by decide); obtain ⟨z0, z1, z2, z3⟩ := bxcell hx; clear ho hc hx))
    go_end0
    exact ⟨rfl, by rw [HVB.out, ← List.append_assoc]; exact HO3.out, HC3.out⟩
  · have HVB := Lib.hid (show PB = varU id ++ be4 n from HPB.out)
    clear HPB
    clear hd1 hlt1
    go_enter Tryz.func386, Tryz.ntmps386
    go_wp2_with (first | (go_at_call 15; refine (ovar_calls HO.out (fun k hk => Nat.le_trans HW1.out hk) (by have := HL.out; omega) id hid).mono ?_; rintro e w1 ⟨rfl, ho, hc⟩; have HO1 := Lib.hid ho; have hx := Ch5.blk hc HX.out HLTW.out (by decide); have HX1 := Lib.hid hx; have HC := Lib.hid (hC0.out.trans hc); have HS1 := Lib.hid (Nat.le_trans HW1.out hc.size); obtain ⟨x0, x1, x2, x3⟩ := bxcell hx; clear ho hc hx) | (go_at_call 17; refine (HK.out _).mono ?_; rintro e w2 ⟨rfl, hb2⟩; have HO2 := Lib.hid (HO1.out.below hb2); have hx := hb2.block _ (blk_lt HX1.out) |>.trans HX1.out; have HX2 := Lib.hid hx; have HC2 := Lib.hid (HC.out.below_ hb2); have HS2 := Lib.hid (Nat.le_trans HS1.out hb2.size); obtain ⟨y0, y1, y2, y3⟩ := bxcell hx; clear hb2 hx) | (go_at_call 387; refine (four_calls HO2.out (fun k hk => Nat.le_trans HS2.out hk) (by have h1 := HL.out; have h2 := hVL.out; rw [List.length_append]; omega) n hn).mono ?_; rintro e w3 ⟨rfl, ho, hc⟩; have HO3 := Lib.hid ho; have HC3 := Lib.hid (HC2.out.trans hc); have HS3 := Lib.hid (Nat.le_trans HS2.out hc.size); have hx := Ch5.blk hc HX2.out HLTW.out (by decide); obtain ⟨z0, z1, z2, z3⟩ := bxcell hx; clear ho hc hx))
    go_end0
    exact ⟨rfl, by rw [HVB.out, ← List.append_assoc]; exact HO3.out, HC3.out⟩
  · have HVB := Lib.hid (show PB = varU id ++ varU n from HPB.out)
    clear HPB
    clear hd1 hlt1
    have hn4 := HHV.out rfl
    go_enter Tryz.func386, Tryz.ntmps386
    go_wp2_with (first | (go_at_call 15; refine (ovar_calls HO2.out (fun k hk => Nat.le_trans HS2.out hk) (by have h1 := HL.out; have h2 := hVL.out; rw [List.length_append]; omega) n hn4).mono ?_; rintro e w3 ⟨rfl, ho, hc⟩; have HO3 := Lib.hid ho; have HC3 := Lib.hid (HC2.out.trans hc); have HS3 := Lib.hid (Nat.le_trans HS2.out hc.size); have hx := Ch5.blk hc HX2.out HLTW.out (by decide); obtain ⟨z0, z1, z2, z3⟩ := bxcell hx; clear ho hc hx) | (go_at_call 15; refine (ovar_calls HO.out (fun k hk => Nat.le_trans HW1.out hk) (by have := HL.out; omega) id hid).mono ?_; rintro e w1 ⟨rfl, ho, hc⟩; have HO1 := Lib.hid ho; have hx := Ch5.blk hc HX.out HLTW.out (by decide); have HX1 := Lib.hid hx; have HC := Lib.hid (hC0.out.trans hc); have HS1 := Lib.hid (Nat.le_trans HW1.out hc.size); obtain ⟨x0, x1, x2, x3⟩ := bxcell hx; clear ho hc hx) | (go_at_call 17; refine (HK.out _).mono ?_; rintro e w2 ⟨rfl, hb2⟩; have HO2 := Lib.hid (HO1.out.below hb2); have hx := hb2.block _ (blk_lt HX1.out) |>.trans HX1.out; have HX2 := Lib.hid hx; have HC2 := Lib.hid (HC.out.below_ hb2); have HS2 := Lib.hid (Nat.le_trans HS1.out hb2.size); obtain ⟨y0, y1, y2, y3⟩ := bxcell hx; clear hb2 hx))
    go_end0
    exact ⟨rfl, by rw [HVB.out, ← List.append_assoc]; exact HO3.out, HC3.out⟩
  · have HVB := Lib.hid (show PB = varU id ++ dat s from HPB.out)
    clear HPB
    clear hd1 hlt1
    go_enter Tryz.func386, Tryz.ntmps386
    go_wp2_with (first | (go_at_call 15; refine (ovar_calls HO.out (fun k hk => Nat.le_trans HW1.out hk) (by have := HL.out; omega) id hid).mono ?_; rintro e w1 ⟨rfl, ho, hc⟩; have HO1 := Lib.hid ho; have hx := Ch5.blk hc HX.out HLTW.out (by decide); have HX1 := Lib.hid hx; have HC := Lib.hid (hC0.out.trans hc); have HS1 := Lib.hid (Nat.le_trans HW1.out hc.size); obtain ⟨x0, x1, x2, x3⟩ := bxcell hx; clear ho hc hx) | (go_at_call 17; refine (HK.out _).mono ?_; rintro e w2 ⟨rfl, hb2⟩; have HO2 := Lib.hid (HO1.out.below hb2); have hx := hb2.block _ (blk_lt HX1.out) |>.trans HX1.out; have HX2 := Lib.hid hx; have HC2 := Lib.hid (HC.out.below_ hb2); have HS2 := Lib.hid (Nat.le_trans HS1.out hb2.size); obtain ⟨y0, y1, y2, y3⟩ := bxcell hx; clear hb2 hx) | (go_at_call 383; refine (data_calls HO2.out HS2.out (by have h1 := HL.out; have h2 := hVL.out; rw [List.length_append]; omega) s hs).mono ?_; rintro e w3 ⟨rfl, ho, hc⟩; have HO3 := Lib.hid ho; have HC3 := Lib.hid (HC2.out.trans hc); have HS3 := Lib.hid (Nat.le_trans HS2.out hc.size); have hx := Ch5.blk hc HX2.out HLTW.out (by decide); obtain ⟨z0, z1, z2, z3⟩ := bxcell hx; clear ho hc hx))
    go_end0
    exact ⟨rfl, by rw [HVB.out, ← List.append_assoc]; exact HO3.out, HC3.out⟩
  · have HVB := Lib.hid (show PB = varU id ++ dat s from HPB.out)
    clear HPB
    clear hd1 hlt1
    go_enter Tryz.func386, Tryz.ntmps386
    go_wp2_with (first | (go_at_call 15; refine (ovar_calls HO.out (fun k hk => Nat.le_trans HW1.out hk) (by have := HL.out; omega) id hid).mono ?_; rintro e w1 ⟨rfl, ho, hc⟩; have HO1 := Lib.hid ho; have hx := Ch5.blk hc HX.out HLTW.out (by decide); have HX1 := Lib.hid hx; have HC := Lib.hid (hC0.out.trans hc); have HS1 := Lib.hid (Nat.le_trans HW1.out hc.size); obtain ⟨x0, x1, x2, x3⟩ := bxcell hx; clear ho hc hx) | (go_at_call 17; refine (HK.out _).mono ?_; rintro e w2 ⟨rfl, hb2⟩; have HO2 := Lib.hid (HO1.out.below hb2); have hx := hb2.block _ (blk_lt HX1.out) |>.trans HX1.out; have HX2 := Lib.hid hx; have HC2 := Lib.hid (HC.out.below_ hb2); have HS2 := Lib.hid (Nat.le_trans HS1.out hb2.size); obtain ⟨y0, y1, y2, y3⟩ := bxcell hx; clear hb2 hx) | (go_at_call 383; refine (data_calls HO2.out HS2.out (by have h1 := HL.out; have h2 := hVL.out; rw [List.length_append]; omega) s hs).mono ?_; rintro e w3 ⟨rfl, ho, hc⟩; have HO3 := Lib.hid ho; have HC3 := Lib.hid (HC2.out.trans hc); have HS3 := Lib.hid (Nat.le_trans HS2.out hc.size); have hx := Ch5.blk hc HX2.out HLTW.out (by decide); obtain ⟨z0, z1, z2, z3⟩ := bxcell hx; clear ho hc hx))
    go_end0
    exact ⟨rfl, by rw [HVB.out, ← List.append_assoc]; exact HO3.out, HC3.out⟩
  · have HVB := Lib.hid (show PB = varU id ++ (dat s ++ dat t) from HPB.out)
    clear HPB
    clear hd1 hlt1
    go_enter Tryz.func386, Tryz.ntmps386
    go_upto_region 15 with (first | (go_at_call 15; refine (ovar_calls HO.out (fun k hk => Nat.le_trans HW1.out hk) (by have := HL.out; omega) id hid).mono ?_; rintro e w1 ⟨rfl, ho, hc⟩; have HO1 := Lib.hid ho; have hx := Ch5.blk hc HX.out HLTW.out (by decide); have HX1 := Lib.hid hx; have HC := Lib.hid (hC0.out.trans hc); have HS1 := Lib.hid (Nat.le_trans HW1.out hc.size); obtain ⟨x0, x1, x2, x3⟩ := bxcell hx; clear ho hc hx) | (go_at_call 17; refine (HK.out _).mono ?_; rintro e w2 ⟨rfl, hb2⟩; have HO2 := Lib.hid (HO1.out.below hb2); have hx := hb2.block _ (blk_lt HX1.out) |>.trans HX1.out; have HX2 := Lib.hid hx; have HC2 := Lib.hid (HC.out.below_ hb2); have HS2 := Lib.hid (Nat.le_trans HS1.out hb2.size); obtain ⟨y0, y1, y2, y3⟩ := bxcell hx; clear hb2 hx))
    have HO2d := Lib.hid HO2.out.drew
    have HC2d := Lib.hid HC2.out.drew
    have HS2d := Lib.hid (show base ≤ w2.drew.heap.size from HS2.out)
    have HX2d := Lib.hid (show w2.drew.heap[w.heap.size]? = _ from HX2.out)
    clear HO2 HC2 HS2 HX2
    go_region_held3 (fun w' => w'.cell? ⟨w.heap.size, 2, none⟩ = some (.string s) ∧ w'.cell? ⟨w.heap.size, 3, none⟩ = some (.string t)) (first | exact ⟨y2, y3⟩ | exact ⟨z2, z3⟩ | exact ⟨v2, v3⟩ | go_keep) (first | (go_at_call 383; (with_reducible refine (data_calls HO3.out HS3.out (by have h1 := HL.out; have h2 := hVL.out; have h3 := dat_len s; unfold dat at h3; rw [List.length_append, List.length_append]; omega) t ht).mono ?_); rintro e w4 ⟨rfl, ho, hc⟩; have HO4 := Lib.hid ho; have HC4 := Lib.hid (HC3.out.trans hc); have hx := Ch5.blk hc HX3.out HLTW.out (by decide); obtain ⟨v0, v1, v2, v3⟩ := bxcell hx; clear ho hc hx) | (go_at_call 383; (with_reducible refine (data_calls HO2d.out HS2d.out (by have h1 := HL.out; have h2 := hVL.out; rw [List.length_append]; omega) s hs).mono ?_); rintro e w3 ⟨rfl, ho, hc⟩; have HO3 := Lib.hid ho; have HC3 := Lib.hid (HC2d.out.trans hc); have HS3 := Lib.hid (Nat.le_trans HS2d.out hc.size); have hx := Ch5.blk hc HX2d.out HLTW.out (by decide); have HX3 := Lib.hid hx; obtain ⟨z0, z1, z2, z3⟩ := bxcell hx; clear ho hc hx))
    go_wp2
    go_end0
    exact ⟨rfl, by rw [HVB.out]; have h := HO4.out; unfold dat; simpa only [List.append_assoc] using h, HC4.out⟩
def putsB (p : PR) : List UInt8 := if 0 < p.id ∧ 0 < p.k then propB p else []
def propsB (L : List PR) : List UInt8 := L.flatMap putsB
def putB (L : List PR) : List UInt8 := varU (propsB L).length ++ propsB L
theorem propsB_snoc (L : List PR) (k : Nat) (h : k < L.length) : propsB (L.take (k + 1)) = propsB (L.take k) ++ putsB L[k] := by
  unfold propsB
  rw [List.take_succ_eq_append_getElem h, List.flatMap_append]
  simp
theorem propsB_take (L : List PR) (k : Nat) : (propsB (L.take k)).length ≤ (propsB L).length := by
  have h : propsB L = propsB (L.take k) ++ propsB (L.drop k) := by
    unfold propsB
    rw [← List.flatMap_append, List.take_append_drop]
  rw [h, List.length_append]
  omega
theorem rd_map (L : List PR) (k : Nat) (h : k < L.length) : rd_T144 (L.map PR.m) (k : Int) = (L[k]).m := by
  unfold rd_T144
  rw [Int.toNat_natCast, List.getD_eq_getElem?_getD, List.getElem?_map, List.getElem?_eq_getElem h]
  rfl
def PL (w : World) (A : Option Addr) (L : List PR) : Prop := Kd.C k144 w A L.length (L.map PR.m)
theorem PL.to {w w1 : World} {A : Option Addr} {L : List PR} (h : PL w A L) (hb : Below w.heap.size w w1) : PL w1 A L := Kd.C_below h hb
set_option maxHeartbeats 4000000 in
set_option maxRecDepth 1000000 in
theorem Put_calls {w : World} {b base : Nat} {l : List UInt8} (h : OW w b (fun k => base ≤ k) l) (hb : base ≤ w.heap.size) (hl : l.length ≤ 400000) (A : Option Addr) (c : Nat) (L : List PR) (hc : L.length ≤ c) (hC : PL w A L) (hOk : ∀ p ∈ L, p.Ok) (hS : (propsB L).length ≤ 100000) (hLL : L.length ≤ 1000000) :
    Calls Tryz.prog 385 #[.pointer (some ⟨b, 0, none⟩), .slice A L.length c] w (PutPost w b base (l ++ putB L)) := by
  have HO := Lib.hid h.lim
  have HLT := Lib.hid h.lt
  have HBB := Lib.hid hb
  have HL := Lib.hid hl
  have HC := Lib.hid hC
  have HOK := Lib.hid hOk
  have HS := Lib.hid hS
  clear h hb hl hC hOk hS
  go_enter Tryz.func385, Tryz.ntmps385
  go_wp2_with fail
  go_loopg [9] L.length (fun gh v9 wx => ∃ k : Nat, Hid (k + gh = L.length) ∧ v9 = .int .i64 k ∧ Hid (OW wx w.heap.size (fun k => w.heap.size ≤ k) (propsB (L.take k))) ∧ Hid (Below w.heap.size w wx) ∧ Hid (w.heap.size < wx.heap.size))
  case atStart => exact ⟨0, Lib.hid (Nat.zero_add _), rfl, Lib.hid (OW.new w _), Lib.hid ((Below.refl _ _).alloc (Nat.le_refl _) _), Lib.hid (by rw [World.size_alloc]; omega)⟩
  case round =>
    obtain ⟨k, hk, rfl, HI, HB, HSZ⟩ := hrel
    cases gk with
    | zero =>
      have hkb := hk.out
      obtain rfl : k = L.length := by omega
      rw [List.take_length] at HI
      have HI2 := Lib.hid HI.out.lim
      have HOr := Lib.hid (HO.out.below HB.out)
      have HOr5 := Lib.hid (HOr.out.mono (T := fun k => (base ≤ k ∧ k < w.heap.size) ∨ wr.heap.size ≤ k) (fun k hk => .inl hk))
      clear hkb hk HO HOr
      have hm : ((propsB L).length : Int) % 4294967296 = ((propsB L).length : Int) := by have := HS.out; omega
      have HPB := Lib.hid (show putB L = varU (propsB L).length ++ propsB L from rfl)
      generalize propsB L = B at HI HI2 HS HPB hm
      have HV := Lib.hid (varU_5 B.length (by have := HS.out; omega))
      go_wp2_with (first
        | (go_at_call 139; refine (len_calls HI2.out).mono ?_; rintro e w2 ⟨rfl, hb2⟩; have HI3 := Lib.hid (HI2.out.below hb2); have HO3 := Lib.hid (HOr5.out.below hb2); have HB3 := Lib.hid hb2; clear hb2)
        | (go_at_call 15; refine (ovar_calls (HO3.out.mono (T := fun k => (base ≤ k ∧ k < w.heap.size) ∨ wr.heap.size ≤ k) (fun k hk => hk)) (fun k hk => .inr (Nat.le_trans HB3.out.size hk)) (by have := HL.out; omega) B.length (by have := HS.out; omega)).mono ?_; rintro e w3 ⟨rfl, ho, hc⟩; have HO4 := Lib.hid (ho.mono (T := fun k => base ≤ k) (fun k hk => hk.elim (fun h => h.1) (fun h => Nat.le_trans HBB.out (Nat.le_trans (Nat.le_of_lt HSZ.out) h)))); have HC4 := Lib.hid (hc.mono (T := fun k => base ≤ k) (fun k hk => hk.elim (fun h => h.1) (fun h => Nat.le_trans HBB.out (Nat.le_trans (Nat.le_of_lt HSZ.out) h)))); have HI4 := Lib.hid (HI3.out.ch5 hc (by have := HLT.out; omega) (fun k hk => ⟨by have := HLT.out; omega, by omega⟩)); clear ho hc)
        | (go_at_call 16; refine (text_calls HI4.out).mono ?_; rintro e w4 ⟨rfl, hb2⟩; have HO5 := Lib.hid (HO4.out.below hb2); have HB5 := Lib.hid hb2; clear hb2)
        | (go_at_call 59; refine (raw_calls HO5.out (Nat.le_trans HBB.out (Nat.le_trans (Nat.le_of_lt HSZ.out) (Nat.le_trans HB3.out.size (Nat.le_trans HC4.out.size HB5.out.size)))) (by have h1 := HL.out; have h2 := HV.out; rw [List.length_append]; omega) (toB B) (by rw [toB_size]; have := HS.out; omega)).mono ?_; rintro e w5 ⟨rfl, ho, hc⟩; have HO6 := Lib.hid ho; have HC6 := Lib.hid hc; clear ho hc))
      go_end0
      refine ⟨rfl, ?_, ?_⟩
      · have h := HO6.out
        rw [HPB.out, ← List.append_assoc]
        simpa [toB] using h
      · exact ((((Ch5.of_below HB.out).below_ HB3.out).trans HC4.out).below_ HB5.out).trans HC6.out
    | succ g1 =>
      have hkb := hk.out
      have hlt : k < L.length := by omega
      obtain ⟨ad, rfl, e0, e1, e2, e3⟩ := at_T144 (HC.out.to HB.out) (k : Int) (by omega) (by omega)
      rw [rd_map L k hlt] at e0 e1 e2 e3
      rw [Int.toNat_natCast] at e0 e1 e2 e3
      have HSN := Lib.hid (propsB_snoc L k hlt)
      have HPO := Lib.hid (HOK.out L[k] (List.getElem_mem hlt))
      have HTK := Lib.hid (Nat.le_trans (propsB_take L k) HS.out)
      have HK := Lib.hid (fun W => kind_calls ((L[k].id : Nat) : Int) W)
      have HIn := Lib.hid (fun (t : TypeId) (cs : Array Value) => HI.out.below ((Below.refl wr.heap.size wr).alloc (Nat.le_refl _) (.cells cs t)))
      have HBn := Lib.hid (fun (t : TypeId) (cs : Array Value) => HB.out.alloc (Nat.le_of_lt HSZ.out) (.cells cs t))
      generalize L[k] = p at HPO HK HSN e0 e1 e2 e3
      obtain ⟨id, n, s, t⟩ := p
      simp only [PR.m] at e0 e1 e2 e3 HK
      by_cases hid : 0 < id
      · have h1 : decide ((0 : Int) < (id : Int)) = true := decide_eq_true (by omega)
        by_cases hkd : 0 < kindOf ((id : Nat) : Int)
        · have h2 : decide ((0 : Int) < (kindOf ((id : Nat) : Int) : Nat)) = true := decide_eq_true (by omega)
          have HSP := Lib.hid (show putsB ⟨id, n, s, t⟩ = propB ⟨id, n, s, t⟩ from if_pos ⟨hid, hkd⟩)
          rw [HSP.out] at HSN
          have HCL := Lib.hid (fun W (l2 : List UInt8) (h : OW W w.heap.size (fun k => w.heap.size ≤ k) l2) (hb : w.heap.size ≤ W.heap.size) (hl : l2.length ≤ 600000) => put_calls h hb hl ⟨id, n, s, t⟩ HPO.out)
          simp only at HCL
          generalize kindOf ((id : Nat) : Int) = kk at HK h2 hkd
          clear HSP
          go_wp2_with (first
            | (go_at_call 17; refine (HK.out _).mono ?_; rintro e w2 ⟨rfl, hb2⟩; have HI2 := Lib.hid ((HIn.out 38 _).below hb2); have HB2 := Lib.hid ((HBn.out 38 _).trans (hb2.mono (HBn.out 38 _).size)); have HZ2 := Lib.hid (Nat.lt_of_lt_of_le (Nat.lt_of_lt_of_le HSZ.out (by rw [World.size_alloc]; omega)) hb2.size); have hx := hb2.block _ (blk_lt (heap_alloc_new wr _)) |>.trans (heap_alloc_new wr _); obtain ⟨y0, y1, y2, y3⟩ := bxcell hx; clear hb2 hx)
            | (go_at_call 386; refine (HCL.out _ _ HI2.out HB2.out.size (by have := HTK.out; omega)).mono ?_; rintro e w3 ⟨rfl, ho, hc⟩; have HI3 := Lib.hid ho; have HB3 := Lib.hid (HB2.out.trans (hc.to_below HB2.out.size (Nat.le_refl _) (fun _ h => h))); have HZ3 := Lib.hid (Nat.lt_of_lt_of_le HZ2.out hc.size); clear ho hc))
          go_roundg g1
          case measure => omega
          case rel => exact ⟨k + 1, Lib.hid (by have := hk.out; omega), by go_num, Lib.hid (by rw [HSN.out]; exact HI3.out), HB3, HZ3⟩
        · have h2 : decide ((0 : Int) < (kindOf ((id : Nat) : Int) : Nat)) = false := decide_eq_false (by omega)
          have HSP := Lib.hid (show putsB ⟨id, n, s, t⟩ = [] from if_neg (fun h => hkd h.2))
          rw [HSP.out, List.append_nil] at HSN
          generalize kindOf ((id : Nat) : Int) = kk at HK h2 hkd
          clear HSP
          go_wp2_with (first
            | (go_at_call 17; refine (HK.out _).mono ?_; rintro e w2 ⟨rfl, hb2⟩; have HI2 := Lib.hid ((HIn.out 38 _).below hb2); have HB2 := Lib.hid ((HBn.out 38 _).trans (hb2.mono (HBn.out 38 _).size)); have HZ2 := Lib.hid (Nat.lt_of_lt_of_le (Nat.lt_of_lt_of_le HSZ.out (by rw [World.size_alloc]; omega)) hb2.size); have hx := hb2.block _ (blk_lt (heap_alloc_new wr _)) |>.trans (heap_alloc_new wr _); obtain ⟨y0, y1, y2, y3⟩ := bxcell hx; clear hb2 hx))
          go_roundg g1
          case measure => omega
          case rel => exact ⟨k + 1, Lib.hid (by have := hk.out; omega), by go_num, Lib.hid (by rw [HSN.out]; exact HI2.out), HB2, HZ2⟩
      · have h1 : decide ((0 : Int) < (id : Int)) = false := decide_eq_false (by omega)
        have HSP := Lib.hid (show putsB ⟨id, n, s, t⟩ = [] from if_neg (fun h => hid h.1))
        rw [HSP.out, List.append_nil] at HSN
        clear HSP
        go_wp2
        go_roundg g1
        case measure => omega
        case rel => exact ⟨k + 1, Lib.hid (by have := hk.out; omega), by go_num, Lib.hid (by rw [HSN.out]; exact HIn.out 38 _), Lib.hid (HBn.out 38 _), Lib.hid (Nat.lt_of_lt_of_le HSZ.out (by rw [World.size_alloc]; omega))⟩
end Go.Proofs.YtbfgpkogginmjaaGreatDoor
end
