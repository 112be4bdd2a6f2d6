/- octet.In over a text that was written; word.Take. -/
import Derived.Test.YtjlohmhmnghjkaaDoorU3
import Derived.Test.YtjlohmhmnghjkaaDoorQW3
namespace Go.Proofs.YtjlohmhmnghjkaaDoor
open Go.RowKit Go.Lib Go.Proofs.YtjlohmhmnghjkaaDoorW.PrintWords Go.Proofs.YtjlohmhmnghjkaaDoor.PSwitchboardWords
set_option linter.unusedVariables false
set_option linter.unusedSimpArgs false

theorem raw_f (t : ByteArray) (n : Nat) (h : n ≤ t.size) : octet_In_Raw.f t 0 (n : Int) = some (t.extract 0 n, t.extract n t.size, 0) := by
  have hm : mx (n : Int) 0 = n := by unfold mx; omega
  unfold octet_In_Raw.f
  rw [hm, if_neg (by omega), if_pos rfl, if_pos (by omega), if_pos (by omega), Int.toNat_natCast]
theorem or_zero (x : UInt8) : Go.bits .or .u32 0 (x.toNat : Int) = (x.toNat : Int) := by
  have h : ∀ n : Fin 256, Go.bits .or .u32 0 ((n.1 : Nat) : Int) = ((n.1 : Nat) : Int) := by decide +kernel
  exact h ⟨x.toNat, x.toNat_lt⟩
/-- Two bytes that were read. -/
def NumPost (w0 : World) (g : Nat) (n : Nat) (r : ByteArray) (e : Ending) (w' : World) : Prop := e = .returned (.int .u32 n) ∧ IsS52 w0 w' g r 0 ∧ Below w0.heap.size w0 w'
set_option maxHeartbeats 1000000 in
set_option maxRecDepth 1000000 in
theorem number_calls {w0 w : World} {g : Nat} {t r : ByteArray} {x : UInt8} (hI : IsS52 w0 w g t 0) (hB : Below w0.heap.size w0 w) (hr : octet_In_Raw.f t 0 2 = some (⟨#[0, x]⟩, r, 0)) : Calls Tryd.prog 76 #[.pointer (some ⟨g, 0, none⟩), .int .i64 2] w (NumPost w0 g x.toNat r) := by
  have HI := Lib.hid hI
  have HB := Lib.hid hB
  have HR := Lib.hid hr
  have kb := fun W => print_bytes (P := Tryd.prog) 9 24 5 Tryd.underlying9 Tryd.underlying24 Tryd.underlying5 ⟨#[0, x]⟩ W
  clear hI hB hr
  go_enter Tryd.func76, Tryd.ntmps76
  go_upto_region 3 with (first
    | (go_at_call 60; refine (octet_In_Raw.calls g t 0 2 _ _ _ w0 _ HI.out HB.out HR.out).mono ?_; rintro e w1 ⟨rfl, hI1, hb1, _⟩; have HI1 := Lib.hid hI1; have HB1 := Lib.hid hb1; clear hI1 hb1))
  have hc0 := Lib.bytesWorld_cell w1 5 ⟨#[0, x]⟩ 0 (by show 0 < 2; decide)
  have hc1 := Lib.bytesWorld_cell w1 5 ⟨#[0, x]⟩ 1 (by show 1 < 2; decide)
  have hbw := bytes_below (Below.refl w1.heap.size w1) (Nat.le_refl _) 5 ⟨#[0, x]⟩
  have HI2 := Lib.hid (HI1.out.below hbw)
  have HB2 := Lib.hid (HB1.out.trans (hbw.mono HB1.out.size))
  clear hbw HI1 HB1 kb
  rw [show ((⟨#[0, x]⟩ : ByteArray).data.toList.getD 0 0).toNat = 0 from rfl] at hc0
  rw [show ((⟨#[0, x]⟩ : ByteArray).data.toList.getD 1 0).toNat = x.toNat from rfl] at hc1
  generalize Lib.bytesWorld w1 5 ⟨#[0, x]⟩ = W2 at hc0 hc1 HI2 HB2 ⊢
  generalize grownCap w1 (⟨#[0, x]⟩ : ByteArray).size 0 5 = cap
  generalize w1.heap.size = b0 at hc0 hc1 ⊢
  go_loopg [5, 13] 2 (fun gh v5 v13 wx => ((gh = 2 ∧ v5 = .int .u32 0 ∧ v13 = .int .i64 0) ∨ (gh = 1 ∧ v5 = .int .u32 0 ∧ v13 = .int .i64 1) ∨ (gh = 0 ∧ v5 = .int .u32 x.toNat ∧ v13 = .int .i64 2)) ∧ wx = W2)
  case atStart => exact ⟨.inl ⟨rfl, rfl, rfl⟩, rfl⟩
  case round =>
    obtain ⟨hrel, rfl⟩ := hrel
    have hor := or_zero x
    have hmod : (x.toNat : Int) % 4294967296 = (x.toNat : Int) := by have := x.toNat_lt; omega
    have hor0 : Go.bits .or .u32 0 0 = 0 := by decide
    rcases hrel with ⟨rfl, rfl, rfl⟩ | ⟨rfl, rfl, rfl⟩ | ⟨rfl, rfl, rfl⟩
    · go_wp2
      go_roundg 1
      case measure => omega
      case rel => exact ⟨.inr (.inl ⟨rfl, rfl, rfl⟩), rfl⟩
    · go_wp2
      go_roundg 0
      case measure => omega
      case rel => exact ⟨.inr (.inr ⟨rfl, rfl, rfl⟩), rfl⟩
    · go_wp2
      go_ret
      exact ⟨rfl, HI2.out, HB2.out⟩
set_option maxHeartbeats 1000000 in
set_option maxRecDepth 1000000 in
theorem two_calls {w0 w : World} {g : Nat} {t r : ByteArray} {x : UInt8} (hI : IsS52 w0 w g t 0) (hB : Below w0.heap.size w0 w) (hr : octet_In_Raw.f t 0 2 = some (⟨#[0, x]⟩, r, 0)) : Calls Tryd.prog 61 #[.pointer (some ⟨g, 0, none⟩)] w (NumPost w0 g x.toNat r) := by
  have HN := Lib.hid (number_calls hI hB hr)
  clear hI hB hr
  go_enter Tryd.func61, Tryd.ntmps61
  go_wp2_with (first | (go_at_call 76; refine HN.out.mono ?_; rintro e w1 ⟨rfl, h1, h2⟩; have H1 := Lib.hid h1; have H2 := Lib.hid h2; clear h1 h2))
  go_ret
  exact ⟨rfl, H1.out, H2.out⟩
set_option maxHeartbeats 1000000 in
set_option maxRecDepth 1000000 in
theorem data_calls {w0 w : World} {g : Nat} {t r : ByteArray} {x : UInt8} (hI : IsS52 w0 w g t 0) (hB : Below w0.heap.size w0 w) (hr : octet_In_Raw.f t 0 2 = some (⟨#[0, x]⟩, r, 0)) (hx : x.toNat = r.size) :
    Calls Tryd.prog 39 #[.pointer (some ⟨g, 0, none⟩)] w fun e w' => e = .returned (.string r) ∧ IsS52 w0 w' g ⟨#[]⟩ 0 ∧ Below w0.heap.size w0 w' := by
  have hN := two_calls hI hB hr
  rw [hx] at hN
  have HN := Lib.hid hN
  have hf := raw_f r r.size (Nat.le_refl _)
  have e2 : r.extract r.size r.size = ⟨#[]⟩ := by
    refine string_eq_of ?_
    rw [extract_from, Lib.size_eq, List.drop_length]
  rw [extract_whole r, e2] at hf
  have HF := Lib.hid hf
  have hsz : r.size < 256 := by rw [← hx]; exact x.toNat_lt
  clear hI hB hr hf e2 hx hN
  go_enter Tryd.func39, Tryd.ntmps39
  go_wp2_with (first
    | (go_at_call 61; refine HN.out.mono ?_; rintro e w1 ⟨rfl, h1, h2⟩; have H1 := Lib.hid h1; have H2 := Lib.hid h2; clear h1 h2)
    | (go_at_call 60; refine (octet_In_Raw.calls g r 0 r.size _ _ _ w0 _ H1.out H2.out HF.out).mono ?_; rintro e w2 ⟨rfl, h1, h2, _⟩; have H3 := Lib.hid h1; have H4 := Lib.hid h2; clear h1 h2))
  go_ret
  exact ⟨rfl, H3.out, H4.out⟩
def TakePost (w0 : World) (g : Nat) (r : ByteArray) (gb : Bool) (e : Ending) (w' : World) : Prop := ∃ er, e = .returned (.string (if gb then r else ⟨#[]⟩)) ∧ IsS52 w0 w' g ⟨#[]⟩ er ∧ (gb = true → er = 0) ∧ Below w0.heap.size w0 w'
set_option maxHeartbeats 1000000 in
set_option maxRecDepth 1000000 in
theorem take_calls {w0 w : World} {g : Nat} {t r : ByteArray} {x : UInt8} (hI : IsS52 w0 w g t 0) (hB : Below w0.heap.size w0 w) (hr : octet_In_Raw.f t 0 2 = some (⟨#[0, x]⟩, r, 0)) (hx : x.toNat = r.size) (hs : r.size ≤ 65535) :
    Calls Tryd.prog 15 #[.pointer (some ⟨g, 0, none⟩)] w (TakePost w0 g r (goodB r)) := by
  have HN := Lib.hid (data_calls hI hB hr hx)
  have HG := Lib.hid (fun W => good_callsB r W hs)
  have hff : octet_In_Fail.f (⟨#[]⟩ : ByteArray) 0 2 = some ((⟨#[]⟩ : ByteArray), 2) := rfl
  have HF := Lib.hid hff
  clear hI hB hr hx hs hff
  generalize goodB r = gb at HG ⊢
  cases gb with
  | true =>
    go_enter Tryd.func15, Tryd.ntmps15
    go_wp2_with (first
      | (go_at_call 39; refine HN.out.mono ?_; rintro e w1 ⟨rfl, h1, h2⟩; have H1 := Lib.hid h1; have H2 := Lib.hid h2; clear h1 h2)
      | (go_at_call 40; refine (HG.out _).mono ?_; rintro e w2 ⟨rfl, hb⟩; have H3 := Lib.hid (H1.out.below hb); have H4 := Lib.hid (H2.out.trans (hb.mono H2.out.size)); clear hb))
    go_ret
    exact ⟨0, rfl, H3.out, fun _ => rfl, H4.out⟩
  | false =>
    go_enter Tryd.func15, Tryd.ntmps15
    go_wp2_with (first
      | (go_at_call 39; refine HN.out.mono ?_; rintro e w1 ⟨rfl, h1, h2⟩; have H1 := Lib.hid h1; have H2 := Lib.hid h2; clear h1 h2)
      | (go_at_call 40; refine (HG.out _).mono ?_; rintro e w2 ⟨rfl, hb⟩; have H3 := Lib.hid (H1.out.below hb); have H4 := Lib.hid (H2.out.trans (hb.mono H2.out.size)); clear hb)
      | (go_at_call 41; refine (octet_In_Fail.calls g ⟨#[]⟩ 0 2 _ _ w0 _ H3.out H4.out HF.out).mono ?_; rintro e w3 ⟨rfl, h1, h2, _⟩; have H5 := Lib.hid h1; have H6 := Lib.hid h2; clear h1 h2))
    go_ret
    exact ⟨2, rfl, H5.out, fun h => (by cases h), H6.out⟩
end Go.Proofs.YtjlohmhmnghjkaaDoor
