/- Parts of a proof about aliases: HA. -/
import Derived.Lib.Hide
import Derived.Below
import Derived.Deep.LoopGhost
import Derived.Outline
import Derived.Lib.IndexBytes
import Derived.Lib.SplitLaws
import Derived.Lib.CutLaws
import Derived.WalkMore
import Derived.Deep.QuietTactic
import Derived.BigQuiet
import Derived.Lib.ConvBytes
import Derived.Lib.EndianBits
import Derived.ScopeJumps
import Derived.Test.YtbfgpkogginmjaaGreatDoorZ3
section
namespace Go.Proofs.YtbfgpkogginmjaaGreatDoor
open Go.RowKit Go.Lib Go.Proofs.YtbfgpkogginmjaaGreatDoorW.PrintWords Go.Proofs.YtbfgpkogginmjaaGreatDoor.PSwitchboardGreat
set_option linter.unusedVariables false
set_option linter.unusedSimpArgs false
structure Chg (S : Nat → Prop) (w w' : World) : Prop where
  os : w'.os = w.os
  tape : w'.tape = w.tape
  output : w'.output = w.output
  size : w.heap.size ≤ w'.heap.size
  block : ∀ k, k < w.heap.size → ¬ S k → w'.heap[k]? = w.heap[k]?
section
variable {S T : Nat → Prop} {a b c : World}
theorem Chg.refl (S : Nat → Prop) (w : World) : Chg S w w := ⟨rfl, rfl, rfl, Nat.le_refl _, fun _ _ _ => rfl⟩
theorem Chg.then_ (h : Chg S a b) (k : Chg T b c) (hT : ∀ i, T i → S i ∨ a.heap.size ≤ i) : Chg S a c :=
  ⟨k.os.trans h.os, k.tape.trans h.tape, k.output.trans h.output, Nat.le_trans h.size k.size, fun i hi hn => (k.block i (Nat.lt_of_lt_of_le hi h.size) (fun ht => (hT i ht).elim hn (fun h => by omega))).trans (h.block i hi hn)⟩
theorem Chg.trans (h : Chg S a b) (k : Chg S b c) : Chg S a c := h.then_ k (fun _ h => .inl h)
theorem Chg.mono (h : Chg S a b) (hs : ∀ k, S k → T k) : Chg T a b := ⟨h.os, h.tape, h.output, h.size, fun i hi hn => h.block i hi (fun hk => hn (hs i hk))⟩
theorem Chg.of_below (h : Below a.heap.size a b) : Chg S a b := ⟨h.os, h.tape, h.output, h.size, fun i hi _ => h.block i hi⟩
theorem Chg.to_below {B : Nat} (h : Chg S a b) (hB : B ≤ a.heap.size) (hS : ∀ k, S k → B ≤ k) : Below B a b :=
  ⟨h.os, h.tape, h.output, h.size, fun i hi => h.block i (Nat.lt_of_lt_of_le hi hB) (fun hs => by have := hS i hs; omega)⟩
theorem Chg.below (h : Chg S a b) (k : Below b.heap.size b c) : Chg S a c := h.then_ (Chg.of_below (S := fun _ => False) k) (fun _ h => h.elim)
theorem Chg.alloc (h : Chg S a b) (o : Obj) : Chg S a (b.alloc o) := h.below ((Below.refl _ _).alloc (Nat.le_refl _) o)
theorem Chg.setCell (h : Chg S a b) {p : Addr} (hp : S p.block ∨ a.heap.size ≤ p.block) (u : Value) : Chg S a (b.setCell p u) :=
  h.then_ (T := fun k => k = p.block) ⟨rfl, rfl, rfl, by simp [World.setCell], fun i _ hn => Below.heap_setCell b p u i hn⟩ (fun k hk => by rw [hk]; exact hp)
theorem Chg.blk (h : Chg S a b) {g : Nat} {o : Obj} (hb : a.heap[g]? = some o) (hg : ¬ S g) : b.heap[g]? = some o := (h.block g (blk_lt hb) hg).trans hb
theorem Chg.cell (h : Chg S a b) {p : Addr} {v : Value} (hc : a.cell? p = some v) (hg : ¬ S p.block) : b.cell? p = some v := by
  have := h.block p.block (World.block_lt_of_cell? a p hc) hg
  simpa [World.cell?, this] using hc
theorem Chg.drewN (h : Chg S a b) (m : Nat) : Chg S a (b.drewN m) := ⟨h.os, h.tape, h.output, h.size, h.block⟩
theorem Chg.drew (h : Chg S a b) : Chg S a b.drew := ⟨h.os, h.tape, h.output, h.size, h.block⟩
theorem Chg.of_keep {w w0 w' : World} {g : Nat} (h : Below w0.heap.size w0 w) (h' : Below w0.heap.size w0 w') (k : KeepBut w w' g none) : Chg (fun i => i = g) w w' :=
  ⟨h'.os.trans h.os.symm, h'.tape.trans h.tape.symm, h'.output.trans h.output.symm, k.1, fun i hi hn => k.2 i hi hn (by simp)⟩
end
def IN (w : World) (g : Nat) (s : ByteArray) (er : Int) : Prop := w.heap[g]? = some (.cells #[.string s, .int .i64 er] 219 (0, 0))
theorem IN.lt {w : World} {g : Nat} {s : ByteArray} {er : Int} (h : IN w g s er) : g < w.heap.size := blk_lt h
theorem IN.to {w w' : World} {g : Nat} {s : ByteArray} {er : Int} {S : Nat → Prop} (h : IN w g s er) (hc : Chg S w w') (hg : ¬ S g) : IN w' g s er := hc.blk h hg
theorem IN.below {w w' : World} {g : Nat} {s : ByteArray} {er : Int} (h : IN w g s er) (hc : Below w.heap.size w w') : IN w' g s er := (Chg.of_below (S := fun _ => False) hc).blk h id
def upto (w : World) (g : Nat) : World := { w with heap := w.heap.extract 0 g }
theorem upto_size {w : World} {g : Nat} (h : g ≤ w.heap.size) : (upto w g).heap.size = g := by
  unfold upto
  simp
  omega
theorem upto_below {w : World} {g : Nat} (h : g ≤ w.heap.size) : Below (upto w g).heap.size (upto w g) w := by
  refine ⟨rfl, rfl, rfl, by rw [upto_size h]; exact h, fun k hk => ?_⟩
  rw [upto_size h] at hk
  unfold upto
  simp [Array.getElem?_extract, hk]
  omega
def IPost (w : World) (g : Nat) (v : Value) (s : ByteArray) (er : Int) (e : Ending) (w' : World) : Prop := e = .returned v ∧ IN w' g s er ∧ Chg (fun i => i = g) w w'
theorem IN.lift {f : Nat} {args : Array Value} {w : World} {g : Nat} {s s' : ByteArray} {er er' : Int} {v : Value} (h : IN w g s er)
    (hc : ∀ w0 : World, IsS111 w0 w g s er → Below w0.heap.size w0 w → Calls Tryz.prog f args w fun e w' => e = .returned v ∧ IsS111 w0 w' g s' er' ∧ Below w0.heap.size w0 w' ∧ KeepBut w w' g none) :
    Calls Tryz.prog f args w (IPost w g v s' er') := by
  have hl := Nat.le_of_lt h.lt
  refine (hc (upto w g) ⟨h, by rw [upto_size hl]; exact Nat.le_refl _⟩ (upto_below hl)).mono ?_
  rintro e w' ⟨he, hi, hb, hk⟩
  exact ⟨he, hi.1, Chg.of_keep (upto_below hl) hb hk⟩
def rawR (s : ByteArray) (er : Int) (n : Int) : ByteArray × ByteArray × Int :=
  if er ≠ 0 then (⟨#[]⟩, s, er) else if (s.size : Int) < n then (⟨#[]⟩, s, 1) else (s.extract 0 n.toNat, s.extract n.toNat s.size, 0)
theorem raw_f (s : ByteArray) (er n : Int) : octet_In_Raw.f s er n = some (rawR s er n) := by
  unfold octet_In_Raw.f octet_In_Fail.f rawR
  have hm : mx n 0 = if n < 0 then 0 else n := by unfold mx; (repeat' split) <;> omega
  rw [hm]
  by_cases h0 : n < 0
  · rw [if_pos h0, if_neg (by omega)]
    by_cases he : er = 0
    · have e0 : n.toNat = 0 := by omega
      rw [if_pos he, if_pos (by omega), if_pos (by omega), if_neg (by simpa using he), if_neg (by omega), he, e0]
      rfl
    · rw [if_neg he, if_pos he]
  · rw [if_neg h0]
    by_cases h1 : n > (s.size : Int)
    · rw [if_pos h1]
      by_cases he : er = 0
      · rw [if_pos he]
        simp only [Option.bind_some]
        rw [if_neg (by decide), if_neg (by simpa using he), if_pos (by omega)]
      · rw [if_neg he]
        simp only [Option.bind_some]
        rw [if_neg he, if_pos he]
    · rw [if_neg h1]
      by_cases he : er = 0
      · rw [if_pos he, if_pos (by omega), if_pos (by omega), if_neg (by simpa using he), if_neg (by omega), he]
      · rw [if_neg he, if_pos he]
theorem raw_in {w : World} {g : Nat} {s : ByteArray} {er : Int} (h : IN w g s er) (n : Int) : Calls Tryz.prog 69 #[.pointer (some ⟨g, 0, none⟩), .int .i64 n] w (IPost w g (.string (rawR s er n).1) (rawR s er n).2.1 (rawR s er n).2.2) :=
  h.lift (fun w0 hi hb => octet_In_Raw.calls g s er n _ _ _ w0 w hi hb (raw_f s er n))
theorem fail_in {w : World} {g : Nat} {s : ByteArray} {er : Int} (h : IN w g s er) (n : Int) : Calls Tryz.prog 93 #[.pointer (some ⟨g, 0, none⟩), .int .i64 n] w (IPost w g (.tuple #[]) s (if er = 0 then n else er)) :=
  h.lift (fun w0 hi hb => octet_In_Fail.calls g s er n _ _ w0 w hi hb (by unfold octet_In_Fail.f; split <;> rfl))
theorem err_in {w : World} {g : Nat} {s : ByteArray} {er : Int} (h : IN w g s er) : Calls Tryz.prog 66 #[.pointer (some ⟨g, 0, none⟩)] w (IPost w g (.int .i64 er) s er) :=
  h.lift (fun w0 hi hb => octet_In_Err.calls g s er _ _ _ w0 w hi hb rfl)
theorem left_in {w : World} {g : Nat} {s : ByteArray} {er : Int} (h : IN w g s er) : Calls Tryz.prog 68 #[.pointer (some ⟨g, 0, none⟩)] w (IPost w g (.int .i64 s.size) s er) :=
  h.lift (fun w0 hi hb => octet_In_Left.calls g s er _ _ _ w0 w hi hb rfl)
theorem rest_in {w : World} {g : Nat} {s : ByteArray} {er : Int} (h : IN w g s er) : Calls Tryz.prog 70 #[.pointer (some ⟨g, 0, none⟩)] w (IPost w g (.string (rawR s er s.size).1) (rawR s er s.size).2.1 (rawR s er s.size).2.2) :=
  h.lift (fun w0 hi hb => octet_In_Rest.calls g s er _ _ _ w0 w hi hb (by unfold octet_In_Rest.f; rw [raw_f]; rfl))
def byteR (s : ByteArray) (er : Int) : Int × ByteArray × Int :=
  if er ≠ 0 then (0, s, er) else if s.size = 0 then (0, s, 1) else (bt s 0, s.extract 1 s.size, 0)
theorem raw_1 (s : ByteArray) (er : Int) : rawR s er 1 = if er ≠ 0 then (⟨#[]⟩, s, er) else if s.size = 0 then (⟨#[]⟩, s, 1) else (s.extract 0 1, s.extract 1 s.size, 0) := by
  unfold rawR
  by_cases h0 : s.size = 0
  · have h1 : (s.size : Int) < 1 := by omega
    simp only [h0, h1, if_true]
    simp
  · have h1 : ¬ (s.size : Int) < 1 := by omega
    simp only [h0, h1, if_false]
    rfl
theorem byte_f (s : ByteArray) (er : Int) : octet_In_Byte.f s er = some (byteR s er) := by
  unfold octet_In_Byte.f
  rw [raw_f, raw_1]
  simp only [Option.bind_some]
  unfold byteR
  have e1 : (⟨#[]⟩ : ByteArray).toList = [] := by rw [Lib.toList_data]
  by_cases he : er = 0
  · by_cases h0 : s.size = 0
    · simp only [he, h0, ne_eq, not_true_eq_false, if_true, if_false, e1]
    · have hz : (s.extract 0 1).size = 1 := by rw [ByteArray.size_extract]; omega
      have hne : ¬ (s.extract 0 1).toList = [] := by
        intro h
        rw [Lib.toList_data] at h
        rw [Lib.size_eq, h] at hz
        cases hz
      have hb : bt (s.extract 0 1) 0 = bt s 0 := by
        unfold bt
        rw [dif_pos (show (0 : Int).toNat < (s.extract 0 1).size by rw [hz]; decide), dif_pos (show (0 : Int).toNat < s.size by show 0 < s.size; omega)]
        congr 2
        have h1 := Lib.data_getElem? (s.extract 0 1) 0 (by omega)
        have h2 := Lib.data_getElem? s 0 (by omega)
        have h3 : (s.extract 0 1).data.toList = s.data.toList.take 1 := by rw [Lib.extract_eq]; simp
        rw [h3] at h1
        rw [List.getElem?_take, if_pos (by decide), h2] at h1
        exact (Option.some.inj h1).symm
      simp only [he, h0, ne_eq, not_true_eq_false, if_true, if_false, hne, hz, hb]
      rfl
  · simp only [he, ne_eq, not_false_eq_true, if_true, e1]
theorem byte_in {w : World} {g : Nat} {s : ByteArray} {er : Int} (h : IN w g s er) : Calls Tryz.prog 92 #[.pointer (some ⟨g, 0, none⟩)] w (IPost w g (.int .u8 (byteR s er).1) (byteR s er).2.1 (byteR s er).2.2) :=
  h.lift (fun w0 hi hb => octet_In_Byte.calls g s er _ _ _ w0 w hi hb (byte_f s er))
def endR (s : ByteArray) (er : Int) : Int := if er = 1 ∨ (er = 0 ∧ s.size ≠ 0) then 2 else er
theorem end_in {w : World} {g : Nat} {s : ByteArray} {er : Int} (h : IN w g s er) : Calls Tryz.prog 130 #[.pointer (some ⟨g, 0, none⟩)] w (IPost w g (.int .i64 (endR s er)) s er) :=
  h.lift (fun w0 hi hb => octet_In_End.calls g s er _ _ _ w0 w hi hb (by
    unfold octet_In_End.f endR
    by_cases h1 : er = 1
    · rw [if_pos h1, if_pos (.inl h1)]
    · rw [if_neg h1]
      by_cases h0 : er = 0
      · rw [if_pos h0]
        have hz : s.toList = [] ↔ s.size = 0 := by rw [Lib.toList_data, Lib.size_eq]; exact List.length_eq_zero_iff.symm
        by_cases h2 : s.size = 0
        · rw [if_pos (hz.2 h2), if_neg (by rintro (h | h); exact h1 h; exact h.2 h2)]
        · rw [if_neg (fun h => h2 (hz.1 h)), if_pos (.inr ⟨h0, h2⟩)]
      · rw [if_neg h0, if_neg (by rintro (h | h); exact h1 h; exact h0 h.1)]))
theorem over_in {w : World} (s : ByteArray) : Calls Tryz.prog 64 #[.string s] w fun e w' => ∃ g, e = .returned (.pointer (some ⟨g, 0, none⟩)) ∧ IN w' g s 0 ∧ w.heap.size ≤ g ∧ Below w.heap.size w w' := by
  refine (octet_Over.calls s _ _ w w (Below.refl _ _) rfl).mono ?_
  rintro e w' ⟨g, he, hi, _, hb⟩
  exact ⟨g, he, hi.1, hi.2, hb⟩
def byA (s : ByteArray) (k : Nat) : Nat := (s.data.toList.getD k 0).toNat
theorem byA_lt (s : ByteArray) (k : Nat) : byA s k < 256 := (s.data.toList.getD k 0).toNat_lt
def numB (s : ByteArray) : Nat → Nat
  | 0 => 0
  | k + 1 => numB s k * 256 + byA s k
theorem numB_lt (s : ByteArray) : ∀ k, numB s k < 256 ^ k
  | 0 => by rw [Nat.pow_zero]; exact Nat.zero_lt_one
  | k + 1 => by
    have h1 := numB_lt s k
    have h2 := byA_lt s k
    unfold numB
    rw [Nat.pow_succ]
    omega
theorem numB_lt3 (s : ByteArray) (k : Nat) (h : k < 4) : numB s k < 16777216 := by
  have := numB_lt s k
  have e : (256 : Nat) ^ k ≤ 256 ^ 3 := Nat.pow_le_pow_right (by decide) (by omega)
  have e3 : (256 : Nat) ^ 3 = 16777216 := by decide
  omega
theorem or_byte (a c : Nat) (ha : a < 16777216) (hc : c < 256) : Go.bits .or .u32 ((a : Int) * 256) (c : Int) = ((a * 256 + c : Nat) : Int) := by
  rw [show (a : Int) * 256 = ((a * 256 : Nat) : Int) from (Int.natCast_mul a 256).symm, u32_or_nat _ _ (by omega) (by omega)]
  congr 1
  have := Nat.two_pow_add_eq_or_of_lt (i := 8) hc a
  rw [show a * 256 = 2 ^ 8 * a by omega]
  exact this.symm
def numR (s : ByteArray) (er : Int) (n : Nat) : Nat := if er ≠ 0 ∨ s.size < n then 0 else numB s n
theorem numB_ext {s t : ByteArray} : ∀ {k : Nat}, (∀ j, j < k → byA s j = byA t j) → numB s k = numB t k
  | 0, _ => rfl
  | k + 1, h => by
    unfold numB
    rw [numB_ext (k := k) (fun j hj => h j (by omega)), h k (by omega)]
theorem numB_raw (s : ByteArray) (er : Int) (n : Nat) : numB (rawR s er n).1 (rawR s er n).1.size = numR s er n := by
  unfold rawR numR
  by_cases he : er = 0
  · by_cases hn : s.size < n
    · have h1 : (s.size : Int) < (n : Int) := by omega
      simp only [he, hn, h1, ne_eq, not_true_eq_false, if_false, if_true, or_true]
      rfl
    · have h1 : ¬ (s.size : Int) < (n : Int) := by omega
      simp only [he, hn, h1, ne_eq, not_true_eq_false, if_false, or_self, Int.toNat_natCast]
      have hz : (s.extract 0 n).size = n := by rw [ByteArray.size_extract]; omega
      rw [hz]
      refine numB_ext fun j hj => ?_
      unfold byA
      rw [Lib.extract_eq]
      simp only [List.drop_zero, List.toList_toArray, Nat.sub_zero, List.getD_eq_getElem?_getD]
      rw [List.getElem?_take, if_pos hj]
  · simp only [he, ne_eq, not_false_eq_true, if_true, true_or]
    rfl
theorem raw_size (s : ByteArray) (er : Int) (n : Nat) : (rawR s er n).1.size ≤ n := by
  unfold rawR
  split
  · exact Nat.zero_le _
  · split
    · exact Nat.zero_le _
    · rw [ByteArray.size_extract, Int.toNat_natCast]; omega
set_option maxHeartbeats 1000000 in
set_option maxRecDepth 1000000 in
theorem number_in {w : World} {g : Nat} {s : ByteArray} {er : Int} (h : IN w g s er) (n : Nat) (hn : n ≤ 4) : Calls Tryz.prog 178 #[.pointer (some ⟨g, 0, none⟩), .int .i64 n] w (IPost w g (.int .u32 (numR s er n)) (rawR s er n).2.1 (rawR s er n).2.2) := by
  have HR := Lib.hid (raw_in h n)
  have HS := Lib.hid (Nat.le_trans (raw_size s er n) hn)
  have HN := Lib.hid (numB_raw s er n)
  generalize rawR s er n = x at HR HS HN ⊢
  obtain ⟨b, s', er'⟩ := x
  simp only at HR HS HN ⊢
  generalize numR s er n = m at HN ⊢
  have HG := Lib.hid h.lt
  clear h
  have kb := fun W => print_bytes (P := Tryz.prog) 9 35 5 Tryz.underlying9 Tryz.underlying35 Tryz.underlying5 b W
  clear hn
  go_enter Tryz.func178, Tryz.ntmps178
  go_upto_region 3 with (first
    | (go_at_call 69; refine HR.out.mono ?_; rintro e w1 ⟨rfl, hi, hc⟩; have HI := Lib.hid hi; have HC := Lib.hid hc; clear hi hc))
  have hc0 := Lib.hid (fun j hj => Lib.bytesWorld_cell w1 5 b j hj)
  have hbw := bytes_below (Below.refl w1.heap.size w1) (Nat.le_refl _) 5 b
  have HI2 := Lib.hid (HI.out.below hbw)
  have HC2 := Lib.hid (HC.out.below hbw)
  clear hbw HI HC kb HR
  generalize Lib.bytesWorld w1 5 b = W2 at hc0 HI2 HC2 ⊢
  generalize grownCap w1 b.size 0 5 = cap
  generalize w1.heap.size = b0 at hc0 ⊢
  go_loopg [5, 13] b.size (fun gh v5 v13 wx => ∃ k : Nat, Hid (k + gh = b.size) ∧ v5 = .int .u32 (numB b k : Nat) ∧ v13 = .int .i64 k ∧ wx = W2)
  case atStart => exact ⟨0, Lib.hid (Nat.zero_add _), rfl, rfl, rfl⟩
  case round =>
    obtain ⟨k, hk, rfl, rfl, rfl⟩ := hrel
    cases gk with
    | zero =>
      have hkb := hk.out
      have hlt : ¬ (k : Int) < (b.size : Int) := by omega
      obtain rfl : k = b.size := by omega
      have HN2 := Lib.hid HN.out
      clear hkb hk
      go_wp2
      go_ret
      exact ⟨by rw [← HN2.out]; rfl, HI2.out, HC2.out⟩
    | succ g1 =>
      have hkb := hk.out
      have hlt : (k : Int) < (b.size : Int) := by omega
      have hlt2 : k < b.size := by omega
      have hcell := hc0.out k hlt2
      have hs4 := HS.out
      have hV : numB b k < 16777216 := numB_lt3 b k (by omega)
      have hY : byA b k < 256 := byA_lt b k
      have HST := Lib.hid (show numB b (k + 1) = numB b k * 256 + byA b k from rfl)
      rw [show (b.data.toList.getD k 0).toNat = byA b k from rfl] at hcell
      generalize byA b k = y at hcell hY HST
      generalize numB b k = V at hV HST ⊢
      have hor := or_byte V y hV hY
      have hm1 : ((V : Int) * 256) % 4294967296 = (V : Int) * 256 := by omega
      have hm2 : (y : Int) % 4294967296 = (y : Int) := by omega
      clear hkb
      go_wp2
      go_roundg g1
      case measure => omega
      case rel => exact ⟨k + 1, Lib.hid (by have := hk.out; omega), by rw [HST.out]; push_cast; rfl, by go_num, rfl⟩
set_option maxHeartbeats 1000000 in
set_option maxRecDepth 1000000 in
theorem two_in {w : World} {g : Nat} {s : ByteArray} {er : Int} (h : IN w g s er) : Calls Tryz.prog 127 #[.pointer (some ⟨g, 0, none⟩)] w (IPost w g (.int .u32 (numR s er 2)) (rawR s er 2).2.1 (rawR s er 2).2.2) := by
  have HN := Lib.hid (number_in h 2 (by decide))
  rw [show ((2 : Nat) : Int) = 2 from rfl] at HN
  generalize rawR s er 2 = x at HN ⊢
  generalize numR s er 2 = m at HN ⊢
  clear h
  go_enter Tryz.func127, Tryz.ntmps127
  go_wp2_with (first | (go_at_call 178; refine HN.out.mono ?_; rintro e w1 ⟨rfl, h1, h2⟩; have H1 := Lib.hid h1; have H2 := Lib.hid h2; clear h1 h2))
  go_ret
  exact ⟨rfl, H1.out, H2.out⟩
set_option maxHeartbeats 1000000 in
set_option maxRecDepth 1000000 in
theorem four_in {w : World} {g : Nat} {s : ByteArray} {er : Int} (h : IN w g s er) : Calls Tryz.prog 229 #[.pointer (some ⟨g, 0, none⟩)] w (IPost w g (.int .u32 (numR s er 4)) (rawR s er 4).2.1 (rawR s er 4).2.2) := by
  have HN := Lib.hid (number_in h 4 (by decide))
  rw [show ((4 : Nat) : Int) = 4 from rfl] at HN
  generalize rawR s er 4 = x at HN ⊢
  generalize numR s er 4 = m at HN ⊢
  clear h
  go_enter Tryz.func229, Tryz.ntmps229
  go_wp2_with (first | (go_at_call 178; refine HN.out.mono ?_; rintro e w1 ⟨rfl, h1, h2⟩; have H1 := Lib.hid h1; have H2 := Lib.hid h2; clear h1 h2))
  go_ret
  exact ⟨rfl, H1.out, H2.out⟩
def dataR (s : ByteArray) (er : Int) : ByteArray × ByteArray × Int := rawR (rawR s er 2).2.1 (rawR s er 2).2.2 (numR s er 2 : Nat)
theorem numR_lt (s : ByteArray) (er : Int) (n : Nat) : numR s er n < 256 ^ n := by
  unfold numR
  split
  · exact Nat.pow_pos (by decide)
  · exact numB_lt s n
theorem numR_lt2 (s : ByteArray) (er : Int) : numR s er 2 < 65536 := numR_lt s er 2
set_option maxHeartbeats 1000000 in
set_option maxRecDepth 1000000 in
theorem data_in {w : World} {g : Nat} {s : ByteArray} {er : Int} (h : IN w g s er) : Calls Tryz.prog 176 #[.pointer (some ⟨g, 0, none⟩)] w (IPost w g (.string (dataR s er).1) (dataR s er).2.1 (dataR s er).2.2) := by
  have HT := Lib.hid (two_in h)
  have hm := numR_lt2 s er
  have HD : Hid (∀ W, IN W g (rawR s er 2).2.1 (rawR s er 2).2.2 → Calls Tryz.prog 69 #[.pointer (some ⟨g, 0, none⟩), .int .i64 (numR s er 2 : Nat)] W (IPost W g (.string (dataR s er).1) (dataR s er).2.1 (dataR s er).2.2)) := Lib.hid (fun W hW => raw_in hW _)
  generalize dataR s er = d at HD ⊢
  generalize rawR s er 2 = x at HT HD ⊢
  generalize numR s er 2 = m at HT HD hm ⊢
  clear h
  go_enter Tryz.func176, Tryz.ntmps176
  go_wp2_with (first
    | (go_at_call 127; refine HT.out.mono ?_; rintro e w1 ⟨rfl, h1, h2⟩; have H1 := Lib.hid h1; have H2 := Lib.hid h2; clear h1 h2)
    | (go_at_call 69; refine (HD.out _ H1.out).mono ?_; rintro e w1 ⟨rfl, h1, h2⟩; have H3 := Lib.hid h1; have H4 := Lib.hid h2; clear h1 h2))
  go_ret
  exact ⟨rfl, H3.out, H2.out.trans H4.out⟩
def byteN (s : ByteArray) (er : Int) : Nat × ByteArray × Int := ((byteR s er).1.toNat, (byteR s er).2)
theorem byteN_lt (s : ByteArray) (er : Int) : (byteN s er).1 < 256 := by
  unfold byteN byteR
  have := bt_range s 0
  split
  · simp
  · split
    · simp
    · simp only; omega
theorem byteN_in {w : World} {g : Nat} {s : ByteArray} {er : Int} (h : IN w g s er) : Calls Tryz.prog 92 #[.pointer (some ⟨g, 0, none⟩)] w (IPost w g (.int .u8 ((byteN s er).1 : Nat)) (byteN s er).2.1 (byteN s er).2.2) := by
  have h2 := byte_in h
  have e : (((byteN s er).1 : Nat) : Int) = (byteR s er).1 := by
    unfold byteN byteR
    have := bt_range s 0
    split
    · simp
    · split
      · simp
      · simp only; omega
  rw [e]
  exact h2
def varG : Nat → Nat → ByteArray → Int → Nat × ByteArray × Int
  | 0, _, s, er => (0, s, er)
  | j + 1, v, s, er =>
    if (byteN s er).2.2 ≠ 0 then (0, (byteN s er).2)
    else if 128 ≤ (byteN s er).1 ∧ 0 < j then varG j (v + (byteN s er).1 % 128 * 128 ^ (3 - j)) (byteN s er).2.1 (byteN s er).2.2
    else if 128 ≤ (byteN s er).1 ∨ ((byteN s er).1 = 0 ∧ j < 3) then (0, (byteN s er).2.1, 2)
    else (v + (byteN s er).1 % 128 * 128 ^ (3 - j), (byteN s er).2)
def varR (s : ByteArray) (er : Int) : Nat × ByteArray × Int := varG 4 0 s er
theorem u8and127 (c : Nat) (h : c < 256) : Go.bits .and .u8 (c : Int) 127 = ((c % 128 : Nat) : Int) := by
  have h : ∀ n : Fin 256, Go.bits .and .u8 ((n.1 : Nat) : Int) 127 = ((n.1 % 128 : Nat) : Int) := by decide +kernel
  exact h ⟨c, by assumption⟩
def varK (a : Act) (_ : World) : Nat := match (a.tmps[4]? : Option Value) with
  | some (Value.int _ m) => (28 - m).toNat
  | _ => 0
theorem cell_in1 {w : World} {g : Nat} {s : ByteArray} {er : Int} (h : IN w g s er) : w.cell? ⟨g, 1, none⟩ = some (.int .i64 er) := (blk_cell h 1).trans rfl
theorem or_shift (V q k : Nat) (hk : k < 4) (hv : V < 128 ^ k) (hq : q < 128) : Go.bits .or .u32 (V : Int) ((q : Int) * ((128 ^ k : Nat) : Int)) = ((V + q * 128 ^ k : Nat) : Int) := by
  have h3 : (128 : Nat) ^ k ≤ 2097152 := by
    have : (128 : Nat) ^ k ≤ 128 ^ 3 := Nat.pow_le_pow_right (by decide) (by omega)
    have h3 : (128 : Nat) ^ 3 = 2097152 := by decide
    omega
  have hm : q * 128 ^ k < 4294967296 := by
    have : q * 128 ^ k ≤ 127 * 128 ^ k := Nat.mul_le_mul_right _ (by omega)
    omega
  rw [show (q : Int) * ((128 ^ k : Nat) : Int) = ((q * 128 ^ k : Nat) : Int) from (Int.natCast_mul q (128 ^ k)).symm, u32_or_nat _ _ (by omega) hm]
  congr 1
  have e : (128 : Nat) ^ k = 2 ^ (7 * k) := by rw [Nat.pow_mul]
  rw [e] at hv ⊢
  have := Nat.two_pow_add_eq_or_of_lt (i := 7 * k) hv q
  rw [Nat.or_comm, Nat.mul_comm q, ← this]
  omega
theorem or_shift0 (q : Nat) (hq : q < 128) : Go.bits .or .u32 0 (q : Int) = (q : Int) := by
  have h := or_shift 0 q 0 (by decide) (by decide) hq
  simpa using h
set_option maxHeartbeats 4000000 in
set_option maxRecDepth 1000000 in
theorem var_in {w : World} {g : Nat} {s : ByteArray} {er : Int} (h : IN w g s er) : Calls Tryz.prog 65 #[.pointer (some ⟨g, 0, none⟩)] w (IPost w g (.int .u32 ((varR s er).1 : Nat)) (varR s er).2.1 (varR s er).2.2) := by
  have H0 := Lib.hid h
  have HR := Lib.hid (show varG 4 0 s er = varR s er from rfl)
  have HC0 := Lib.hid (Chg.refl (fun i => i = g) w)
  generalize varR s er = R at HR ⊢
  clear h
  go_enter Tryz.func65, Tryz.ntmps65
  go_wp2
  refine wp_scope_jumps 0 (fun a' w' => ∃ (k v : Nat) (s' : ByteArray), Hid (IN w' g s' 0 ∧ Chg (fun i => i = g) w w' ∧ varG (4 - k) v s' 0 = R ∧ v < 128 ^ k) ∧ (k = 1 ∨ k = 2 ∨ k = 3) ∧ ∃ (u5 u6 u7 u8 u9 u10 u11 u12 u13 u14 u15 u16 u17 u18 u19 u20 u21 u22 u23 u24 u25 u26 u27 u28 u29 u30 u31 u32 u33 u34 u35 u36 u37 u38 u39 u40 u41 u42 u43 : Value), a' = { tmps := #[.pointer (some ⟨g, 0, none⟩), undef, .int .u32 0, .int .u32 (v : Nat), .int .i64 (7 * k : Nat), u5, u6, u7, u8, u9, u10, u11, u12, u13, u14, u15, u16, u17, u18, u19, u20, u21, u22, u23, u24, u25, u26, u27, u28, u29, u30, u31, u32, u33, u34, u35, u36, u37, u38, u39, u40, u41, u42, u43], defers := [] }) varK rfl ?_ ?_
  · have hB := byteN_lt s er
    have HB := Lib.hid (byteN_in H0.out)
    have HR1 := Lib.hid (by have h := (show (if (byteN s er).2.2 ≠ 0 then (0, (byteN s er).2) else if 128 ≤ (byteN s er).1 ∧ 0 < 3 then varG 3 (0 + (byteN s er).1 % 128 * 1) (byteN s er).2.1 (byteN s er).2.2 else if 128 ≤ (byteN s er).1 ∨ ((byteN s er).1 = 0 ∧ 3 < 3) then (0, (byteN s er).2.1, 2) else (0 + (byteN s er).1 % 128 * 1, (byteN s er).2)) = R from HR.out); rw [Nat.mul_one, Nat.zero_add] at h; exact h)
    clear HR
    generalize byteN s er = B at hB HB HR1
    obtain ⟨c, s1, e1⟩ := B
    simp only at hB HB HR1
    have hq1 := u8and127 c hB
    have hr : c % 128 < 128 := Nat.mod_lt _ (by decide)
    have hqc : c < 128 → c % 128 = c := fun h => Nat.mod_eq_of_lt h
    have HQC := Lib.hid hqc
    clear hqc
    generalize c % 128 = q at hq1 hr HR1 HQC
    have hq2 : (q : Int) % 4294967296 = (q : Int) := by omega
    have hor := or_shift0 q hr
    have hz := HR1.out
    by_cases he : e1 = 0
    · obtain rfl := he
      have hcell := fun W => fun (h : IN W g s1 0) => (cell_in1 h)
      have hcell := Lib.hid hcell
      by_cases hc : 128 ≤ c
      · have hc1 : decide ((127 : Int) < (c : Int)) = true := decide_eq_true (by omega)
        rw [if_neg (by decide), if_pos ⟨hc, by decide⟩] at hz
        have HZ := Lib.hid hz
        clear hz hc HR1 HQC
        have HV := Lib.hid (show q < 128 ^ 1 from (by have hv2 : True := trivial; omega : q < 128))
        go_wp2
        go_step3
        go_wp2_with (first | (go_at_call 92; refine HB.out.mono ?_; rintro e w1 ⟨rfl, h1, h2⟩; have H1 := Lib.hid h1; have H2 := Lib.hid h2; have hcl := hcell.out _ h1; clear h1 h2) | (go_at_call 93; refine (fail_in H1.out 2).mono ?_; rintro e w2 ⟨rfl, h1, h2⟩; have H3 := Lib.hid h1; have H4 := Lib.hid h2; clear h1 h2))
        go_step3
        exact ⟨rfl, 1, q, s1, Lib.hid ⟨H1.out, HC0.out.trans H2.out, HZ.out, HV.out⟩, by decide, _, _, _, _, _, _, _, _, _, _, _, _, _, _, _, _, _, _, _, _, _, _, _, _, _, _, _, _, _, _, _, _, _, _, _, _, _, _, _, rfl⟩
      · have hc1 : decide ((127 : Int) < (c : Int)) = false := decide_eq_false (by omega)
        have hcq := HQC.out (by omega)
        rw [if_neg (by decide), if_neg (fun h => hc h.1), if_neg (fun h => h.elim hc (fun h => by have := h.2; omega))] at hz
        have HZ := Lib.hid hz
        clear hz hc HR1 HQC hcq
        go_wp2
        go_step3
        go_wp2_with (first | (go_at_call 92; refine HB.out.mono ?_; rintro e w1 ⟨rfl, h1, h2⟩; have H1 := Lib.hid h1; have H2 := Lib.hid h2; have hcl := hcell.out _ h1; clear h1 h2) | (go_at_call 93; refine (fail_in H1.out 2).mono ?_; rintro e w2 ⟨rfl, h1, h2⟩; have H3 := Lib.hid h1; have H4 := Lib.hid h2; clear h1 h2))
        all_goals simp only [Exit.jump]
        all_goals go_ret
        all_goals exact ⟨by rw [← HZ.out]; rfl, by rw [← HZ.out]; exact H1.out, HC0.out.trans H2.out⟩
    · have hcell := Lib.hid (fun W => fun (h : IN W g s1 e1) => (cell_in1 h))
      have he2 : (e1 != 0) = true := by simpa [bne_iff_ne] using he
      rw [if_pos he] at hz
      have HZ := Lib.hid hz
      clear hz he HR1 HQC
      go_wp2
      go_step3
      go_wp2_with (first | (go_at_call 92; refine HB.out.mono ?_; rintro e w1 ⟨rfl, h1, h2⟩; have H1 := Lib.hid h1; have H2 := Lib.hid h2; have hcl := hcell.out _ h1; clear h1 h2) | (go_at_call 93; refine (fail_in H1.out 2).mono ?_; rintro e w2 ⟨rfl, h1, h2⟩; have H3 := Lib.hid h1; have H4 := Lib.hid h2; clear h1 h2))
      all_goals simp only [Exit.jump]
      all_goals go_ret
      all_goals exact ⟨by rw [← HZ.out]; rfl, by rw [← HZ.out]; exact H1.out, HC0.out.trans H2.out⟩
  · rintro a' w' ⟨k, v, s', HJ, hk, u5, u6, u7, u8, u9, u10, u11, u12, u13, u14, u15, u16, u17, u18, u19, u20, u21, u22, u23, u24, u25, u26, u27, u28, u29, u30, u31, u32, u33, u34, u35, u36, u37, u38, u39, u40, u41, u42, u43, rfl⟩
    have H0 := Lib.hid HJ.out.1
    have HC0 := Lib.hid HJ.out.2.1
    have HR := Lib.hid HJ.out.2.2.1
    have hv := HJ.out.2.2.2
    clear HJ
    rcases hk with rfl | rfl | rfl
    · have hB := byteN_lt s' 0
      have HB := Lib.hid (byteN_in H0.out)
      have HR1 := Lib.hid (show (if (byteN s' 0).2.2 ≠ 0 then (0, (byteN s' 0).2) else if 128 ≤ (byteN s' 0).1 ∧ 0 < 2 then varG 2 (v + (byteN s' 0).1 % 128 * 128) (byteN s' 0).2.1 (byteN s' 0).2.2 else if 128 ≤ (byteN s' 0).1 ∨ ((byteN s' 0).1 = 0 ∧ 2 < 3) then (0, (byteN s' 0).2.1, 2) else (v + (byteN s' 0).1 % 128 * 128, (byteN s' 0).2)) = R from HR.out)
      clear HR
      generalize byteN s' 0 = B at hB HB HR1
      obtain ⟨c, s1, e1⟩ := B
      simp only at hB HB HR1
      have hq1 := u8and127 c hB
      have hr : c % 128 < 128 := Nat.mod_lt _ (by decide)
      have hqc : c < 128 → c % 128 = c := fun h => Nat.mod_eq_of_lt h
      have HQC := Lib.hid hqc
      clear hqc
      generalize c % 128 = q at hq1 hr HR1 HQC
      have hq2 : (q : Int) % 4294967296 = (q : Int) := by omega
      have hor := (show Go.bits .or .u32 (v : Int) ((q : Int) * 128) = ((v + q * 128 : Nat) : Int) from or_shift v q 1 (by decide) hv hr)
      have hq3 : ((q : Int) * 128) % 4294967296 = (q : Int) * 128 := by omega
      have hz := HR1.out
      by_cases he : e1 = 0
      · obtain rfl := he
        have hcell := fun W => fun (h : IN W g s1 0) => (cell_in1 h)
        have hcell := Lib.hid hcell
        by_cases hc : 128 ≤ c
        · have hc1 : decide ((127 : Int) < (c : Int)) = true := decide_eq_true (by omega)
          rw [if_neg (by decide), if_pos ⟨hc, by decide⟩] at hz
          have HZ := Lib.hid hz
          clear hz hc HR1 HQC
          have HV := Lib.hid (show v + q * 128 < 128 ^ 2 from (by have hv2 : v < 128 := hv; omega : v + q * 128 < 16384))
          go_wp2_with (first | (go_at_call 92; refine HB.out.mono ?_; rintro e w1 ⟨rfl, h1, h2⟩; have H1 := Lib.hid h1; have H2 := Lib.hid h2; have hcl := hcell.out _ h1; clear h1 h2) | (go_at_call 93; refine (fail_in H1.out 2).mono ?_; rintro e w2 ⟨rfl, h1, h2⟩; have H3 := Lib.hid h1; have H4 := Lib.hid h2; clear h1 h2))
          go_step3
          exact ⟨rfl, ⟨2, v + q * 128, s1, Lib.hid ⟨H1.out, HC0.out.trans H2.out, HZ.out, HV.out⟩, by decide, _, _, _, _, _, _, _, _, _, _, _, _, _, _, _, _, _, _, _, _, _, _, _, _, _, _, _, _, _, _, _, _, _, _, _, _, _, _, _, rfl⟩, (show (14 : Nat) < 21 by decide)⟩
        · have hc1 : decide ((127 : Int) < (c : Int)) = false := decide_eq_false (by omega)
          have hcq := HQC.out (by omega)
          by_cases hc0 : c = 0
          · have hc2 : ((c : Int) == 0) = true := beq_iff_eq.2 (by omega)
            rw [if_neg (by decide), if_neg (fun h => hc h.1), if_pos (.inr ⟨hc0, by decide⟩)] at hz
            have HZ := Lib.hid hz
            clear hz hc HR1 HQC hcq hc0
            go_wp2_with (first | (go_at_call 92; refine HB.out.mono ?_; rintro e w1 ⟨rfl, h1, h2⟩; have H1 := Lib.hid h1; have H2 := Lib.hid h2; have hcl := hcell.out _ h1; clear h1 h2) | (go_at_call 93; refine (fail_in H1.out 2).mono ?_; rintro e w2 ⟨rfl, h1, h2⟩; have H3 := Lib.hid h1; have H4 := Lib.hid h2; clear h1 h2))
            simp only [Exit.jump]
            go_ret
            exact ⟨by rw [← HZ.out]; rfl, by rw [← HZ.out]; exact H3.out, HC0.out.trans (H2.out.trans H4.out)⟩
          · have hc2 : ((c : Int) == 0) = false := beq_eq_false_iff_ne.2 (by omega)
            rw [if_neg (by decide), if_neg (fun h => hc h.1), if_neg (fun h => h.elim hc (fun h => hc0 h.1))] at hz
            have HZ := Lib.hid hz
            clear hz hc HR1 HQC hcq hc0
            go_wp2_with (first | (go_at_call 92; refine HB.out.mono ?_; rintro e w1 ⟨rfl, h1, h2⟩; have H1 := Lib.hid h1; have H2 := Lib.hid h2; have hcl := hcell.out _ h1; clear h1 h2) | (go_at_call 93; refine (fail_in H1.out 2).mono ?_; rintro e w2 ⟨rfl, h1, h2⟩; have H3 := Lib.hid h1; have H4 := Lib.hid h2; clear h1 h2))
            simp only [Exit.jump]
            go_ret
            exact ⟨by rw [← HZ.out]; rfl, by rw [← HZ.out]; exact H1.out, HC0.out.trans H2.out⟩
      · have hcell := Lib.hid (fun W => fun (h : IN W g s1 e1) => (cell_in1 h))
        have he2 : (e1 != 0) = true := by simpa [bne_iff_ne] using he
        rw [if_pos he] at hz
        have HZ := Lib.hid hz
        clear hz he HR1 HQC
        go_wp2_with (first | (go_at_call 92; refine HB.out.mono ?_; rintro e w1 ⟨rfl, h1, h2⟩; have H1 := Lib.hid h1; have H2 := Lib.hid h2; have hcl := hcell.out _ h1; clear h1 h2) | (go_at_call 93; refine (fail_in H1.out 2).mono ?_; rintro e w2 ⟨rfl, h1, h2⟩; have H3 := Lib.hid h1; have H4 := Lib.hid h2; clear h1 h2))
        all_goals simp only [Exit.jump]
        all_goals go_ret
        all_goals exact ⟨by rw [← HZ.out]; rfl, by rw [← HZ.out]; exact H1.out, HC0.out.trans H2.out⟩
    · have hB := byteN_lt s' 0
      have HB := Lib.hid (byteN_in H0.out)
      have HR1 := Lib.hid (show (if (byteN s' 0).2.2 ≠ 0 then (0, (byteN s' 0).2) else if 128 ≤ (byteN s' 0).1 ∧ 0 < 1 then varG 1 (v + (byteN s' 0).1 % 128 * 16384) (byteN s' 0).2.1 (byteN s' 0).2.2 else if 128 ≤ (byteN s' 0).1 ∨ ((byteN s' 0).1 = 0 ∧ 1 < 3) then (0, (byteN s' 0).2.1, 2) else (v + (byteN s' 0).1 % 128 * 16384, (byteN s' 0).2)) = R from HR.out)
      clear HR
      generalize byteN s' 0 = B at hB HB HR1
      obtain ⟨c, s1, e1⟩ := B
      simp only at hB HB HR1
      have hq1 := u8and127 c hB
      have hr : c % 128 < 128 := Nat.mod_lt _ (by decide)
      have hqc : c < 128 → c % 128 = c := fun h => Nat.mod_eq_of_lt h
      have HQC := Lib.hid hqc
      clear hqc
      generalize c % 128 = q at hq1 hr HR1 HQC
      have hq2 : (q : Int) % 4294967296 = (q : Int) := by omega
      have hor := (show Go.bits .or .u32 (v : Int) ((q : Int) * 16384) = ((v + q * 16384 : Nat) : Int) from or_shift v q 2 (by decide) hv hr)
      have hq3 : ((q : Int) * 16384) % 4294967296 = (q : Int) * 16384 := by omega
      have hz := HR1.out
      by_cases he : e1 = 0
      · obtain rfl := he
        have hcell := fun W => fun (h : IN W g s1 0) => (cell_in1 h)
        have hcell := Lib.hid hcell
        by_cases hc : 128 ≤ c
        · have hc1 : decide ((127 : Int) < (c : Int)) = true := decide_eq_true (by omega)
          rw [if_neg (by decide), if_pos ⟨hc, by decide⟩] at hz
          have HZ := Lib.hid hz
          clear hz hc HR1 HQC
          have HV := Lib.hid (show v + q * 16384 < 128 ^ 3 from (by have hv2 : v < 16384 := hv; omega : v + q * 16384 < 2097152))
          go_wp2_with (first | (go_at_call 92; refine HB.out.mono ?_; rintro e w1 ⟨rfl, h1, h2⟩; have H1 := Lib.hid h1; have H2 := Lib.hid h2; have hcl := hcell.out _ h1; clear h1 h2) | (go_at_call 93; refine (fail_in H1.out 2).mono ?_; rintro e w2 ⟨rfl, h1, h2⟩; have H3 := Lib.hid h1; have H4 := Lib.hid h2; clear h1 h2))
          go_step3
          exact ⟨rfl, ⟨3, v + q * 16384, s1, Lib.hid ⟨H1.out, HC0.out.trans H2.out, HZ.out, HV.out⟩, by decide, _, _, _, _, _, _, _, _, _, _, _, _, _, _, _, _, _, _, _, _, _, _, _, _, _, _, _, _, _, _, _, _, _, _, _, _, _, _, _, rfl⟩, (show (7 : Nat) < 14 by decide)⟩
        · have hc1 : decide ((127 : Int) < (c : Int)) = false := decide_eq_false (by omega)
          have hcq := HQC.out (by omega)
          by_cases hc0 : c = 0
          · have hc2 : ((c : Int) == 0) = true := beq_iff_eq.2 (by omega)
            rw [if_neg (by decide), if_neg (fun h => hc h.1), if_pos (.inr ⟨hc0, by decide⟩)] at hz
            have HZ := Lib.hid hz
            clear hz hc HR1 HQC hcq hc0
            go_wp2_with (first | (go_at_call 92; refine HB.out.mono ?_; rintro e w1 ⟨rfl, h1, h2⟩; have H1 := Lib.hid h1; have H2 := Lib.hid h2; have hcl := hcell.out _ h1; clear h1 h2) | (go_at_call 93; refine (fail_in H1.out 2).mono ?_; rintro e w2 ⟨rfl, h1, h2⟩; have H3 := Lib.hid h1; have H4 := Lib.hid h2; clear h1 h2))
            simp only [Exit.jump]
            go_ret
            exact ⟨by rw [← HZ.out]; rfl, by rw [← HZ.out]; exact H3.out, HC0.out.trans (H2.out.trans H4.out)⟩
          · have hc2 : ((c : Int) == 0) = false := beq_eq_false_iff_ne.2 (by omega)
            rw [if_neg (by decide), if_neg (fun h => hc h.1), if_neg (fun h => h.elim hc (fun h => hc0 h.1))] at hz
            have HZ := Lib.hid hz
            clear hz hc HR1 HQC hcq hc0
            go_wp2_with (first | (go_at_call 92; refine HB.out.mono ?_; rintro e w1 ⟨rfl, h1, h2⟩; have H1 := Lib.hid h1; have H2 := Lib.hid h2; have hcl := hcell.out _ h1; clear h1 h2) | (go_at_call 93; refine (fail_in H1.out 2).mono ?_; rintro e w2 ⟨rfl, h1, h2⟩; have H3 := Lib.hid h1; have H4 := Lib.hid h2; clear h1 h2))
            simp only [Exit.jump]
            go_ret
            exact ⟨by rw [← HZ.out]; rfl, by rw [← HZ.out]; exact H1.out, HC0.out.trans H2.out⟩
      · have hcell := Lib.hid (fun W => fun (h : IN W g s1 e1) => (cell_in1 h))
        have he2 : (e1 != 0) = true := by simpa [bne_iff_ne] using he
        rw [if_pos he] at hz
        have HZ := Lib.hid hz
        clear hz he HR1 HQC
        go_wp2_with (first | (go_at_call 92; refine HB.out.mono ?_; rintro e w1 ⟨rfl, h1, h2⟩; have H1 := Lib.hid h1; have H2 := Lib.hid h2; have hcl := hcell.out _ h1; clear h1 h2) | (go_at_call 93; refine (fail_in H1.out 2).mono ?_; rintro e w2 ⟨rfl, h1, h2⟩; have H3 := Lib.hid h1; have H4 := Lib.hid h2; clear h1 h2))
        all_goals simp only [Exit.jump]
        all_goals go_ret
        all_goals exact ⟨by rw [← HZ.out]; rfl, by rw [← HZ.out]; exact H1.out, HC0.out.trans H2.out⟩
    · have hB := byteN_lt s' 0
      have HB := Lib.hid (byteN_in H0.out)
      have HR1 := Lib.hid (show (if (byteN s' 0).2.2 ≠ 0 then (0, (byteN s' 0).2) else if 128 ≤ (byteN s' 0).1 ∧ 0 < 0 then varG 0 (v + (byteN s' 0).1 % 128 * 2097152) (byteN s' 0).2.1 (byteN s' 0).2.2 else if 128 ≤ (byteN s' 0).1 ∨ ((byteN s' 0).1 = 0 ∧ 0 < 3) then (0, (byteN s' 0).2.1, 2) else (v + (byteN s' 0).1 % 128 * 2097152, (byteN s' 0).2)) = R from HR.out)
      clear HR
      generalize byteN s' 0 = B at hB HB HR1
      obtain ⟨c, s1, e1⟩ := B
      simp only at hB HB HR1
      have hq1 := u8and127 c hB
      have hr : c % 128 < 128 := Nat.mod_lt _ (by decide)
      have hqc : c < 128 → c % 128 = c := fun h => Nat.mod_eq_of_lt h
      have HQC := Lib.hid hqc
      clear hqc
      generalize c % 128 = q at hq1 hr HR1 HQC
      have hq2 : (q : Int) % 4294967296 = (q : Int) := by omega
      have hor := (show Go.bits .or .u32 (v : Int) ((q : Int) * 2097152) = ((v + q * 2097152 : Nat) : Int) from or_shift v q 3 (by decide) hv hr)
      have hq3 : ((q : Int) * 2097152) % 4294967296 = (q : Int) * 2097152 := by omega
      have hz := HR1.out
      by_cases he : e1 = 0
      · obtain rfl := he
        have hcell := fun W => fun (h : IN W g s1 0) => (cell_in1 h)
        have hcell := Lib.hid hcell
        by_cases hc : 128 ≤ c
        · have hc1 : decide ((127 : Int) < (c : Int)) = true := decide_eq_true (by omega)
          rw [if_neg (by decide), if_neg (by omega), if_pos (.inl hc)] at hz
          have HZ := Lib.hid hz
          clear hz hc HR1 HQC
          go_wp2_with (first | (go_at_call 92; refine HB.out.mono ?_; rintro e w1 ⟨rfl, h1, h2⟩; have H1 := Lib.hid h1; have H2 := Lib.hid h2; have hcl := hcell.out _ h1; clear h1 h2) | (go_at_call 93; refine (fail_in H1.out 2).mono ?_; rintro e w2 ⟨rfl, h1, h2⟩; have H3 := Lib.hid h1; have H4 := Lib.hid h2; clear h1 h2))
          simp only [Exit.jump]
          go_ret
          exact ⟨by rw [← HZ.out]; rfl, by rw [← HZ.out]; exact H3.out, HC0.out.trans (H2.out.trans H4.out)⟩
        · have hc1 : decide ((127 : Int) < (c : Int)) = false := decide_eq_false (by omega)
          have hcq := HQC.out (by omega)
          by_cases hc0 : c = 0
          · have hc2 : ((c : Int) == 0) = true := beq_iff_eq.2 (by omega)
            rw [if_neg (by decide), if_neg (fun h => hc h.1), if_pos (.inr ⟨hc0, by decide⟩)] at hz
            have HZ := Lib.hid hz
            clear hz hc HR1 HQC hcq hc0
            go_wp2_with (first | (go_at_call 92; refine HB.out.mono ?_; rintro e w1 ⟨rfl, h1, h2⟩; have H1 := Lib.hid h1; have H2 := Lib.hid h2; have hcl := hcell.out _ h1; clear h1 h2) | (go_at_call 93; refine (fail_in H1.out 2).mono ?_; rintro e w2 ⟨rfl, h1, h2⟩; have H3 := Lib.hid h1; have H4 := Lib.hid h2; clear h1 h2))
            simp only [Exit.jump]
            go_ret
            exact ⟨by rw [← HZ.out]; rfl, by rw [← HZ.out]; exact H3.out, HC0.out.trans (H2.out.trans H4.out)⟩
          · have hc2 : ((c : Int) == 0) = false := beq_eq_false_iff_ne.2 (by omega)
            rw [if_neg (by decide), if_neg (fun h => hc h.1), if_neg (fun h => h.elim hc (fun h => hc0 h.1))] at hz
            have HZ := Lib.hid hz
            clear hz hc HR1 HQC hcq hc0
            go_wp2_with (first | (go_at_call 92; refine HB.out.mono ?_; rintro e w1 ⟨rfl, h1, h2⟩; have H1 := Lib.hid h1; have H2 := Lib.hid h2; have hcl := hcell.out _ h1; clear h1 h2) | (go_at_call 93; refine (fail_in H1.out 2).mono ?_; rintro e w2 ⟨rfl, h1, h2⟩; have H3 := Lib.hid h1; have H4 := Lib.hid h2; clear h1 h2))
            simp only [Exit.jump]
            go_ret
            exact ⟨by rw [← HZ.out]; rfl, by rw [← HZ.out]; exact H1.out, HC0.out.trans H2.out⟩
      · have hcell := Lib.hid (fun W => fun (h : IN W g s1 e1) => (cell_in1 h))
        have he2 : (e1 != 0) = true := by simpa [bne_iff_ne] using he
        rw [if_pos he] at hz
        have HZ := Lib.hid hz
        clear hz he HR1 HQC
        go_wp2_with (first | (go_at_call 92; refine HB.out.mono ?_; rintro e w1 ⟨rfl, h1, h2⟩; have H1 := Lib.hid h1; have H2 := Lib.hid h2; have hcl := hcell.out _ h1; clear h1 h2) | (go_at_call 93; refine (fail_in H1.out 2).mono ?_; rintro e w2 ⟨rfl, h1, h2⟩; have H3 := Lib.hid h1; have H4 := Lib.hid h2; clear h1 h2))
        all_goals simp only [Exit.jump]
        all_goals go_ret
        all_goals exact ⟨by rw [← HZ.out]; rfl, by rw [← HZ.out]; exact H1.out, HC0.out.trans H2.out⟩
end Go.Proofs.YtbfgpkogginmjaaGreatDoor
end
