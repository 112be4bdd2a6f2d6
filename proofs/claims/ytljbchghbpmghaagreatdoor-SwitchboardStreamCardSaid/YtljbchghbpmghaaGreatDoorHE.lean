/- word.Take; plain laws: what was put is taken. -/
import Derived.Test.YtljbchghbpmghaaGreatDoorHD
import Derived.Test.YtljbchghbpmghaaGreatDoorGA
namespace Go.Proofs.YtljbchghbpmghaaGreatDoor
open Go.RowKit Go.Lib Go.Proofs.YtljbchghbpmghaaGreatDoorW.PrintWords Go.Proofs.YtljbchghbpmghaaGreatDoor.PSwitchboardGreat
set_option linter.unusedVariables false
set_option linter.unusedSimpArgs false

theorem dataR_size (s : ByteArray) (er : Int) : (dataR s er).1.size ≤ 65535 := by
  have h1 := raw_size (rawR s er 2).2.1 (rawR s er 2).2.2 (numR s er 2)
  have h2 := numR_lt2 s er
  unfold dataR
  omega
/-- What word.Take hands back of data. -/
def takeV (d : ByteArray × ByteArray × Int) (b : Bool) : ByteArray := if b then d.1 else ⟨#[]⟩
def takeE (d : ByteArray × ByteArray × Int) (b : Bool) : Int := if b then d.2.2 else if d.2.2 = 0 then 2 else d.2.2
def WTake (w : World) (g : Nat) (d : ByteArray × ByteArray × Int) (e : Ending) (w' : World) : Prop := ∃ b : Bool, GoodW d.1 b ∧ e = .returned (.string (takeV d b)) ∧ IN w' g d.2.1 (takeE d b) ∧ Chg (fun i => i = g) w w'
set_option maxHeartbeats 1000000 in
set_option maxRecDepth 1000000 in
theorem wtake_in {w : World} {g : Nat} {s : ByteArray} {er : Int} (h : IN w g s er) : Calls Tryz.prog 49 #[.pointer (some ⟨g, 0, none⟩)] w (WTake w g (dataR s er)) := by
  have HD := Lib.hid (data_in h)
  have HS := Lib.hid (dataR_size s er)
  generalize dataR s er = D at HD HS ⊢
  clear h
  obtain ⟨d, s1, e1⟩ := D
  simp only at HD HS
  have HG := Lib.hid (fun W => good_calls d W)
  go_enter Tryz.func49, Tryz.ntmps49
  go_wp2_with (first
    | (go_at_call 62; refine HD.out.mono ?_; rintro e w1 ⟨rfl, h1, h2⟩; have H1 := Lib.hid h1; have H2 := Lib.hid h2; clear h1 h2)
    | (go_at_call 63; refine (HG.out _).mono ?_; rintro e w2 hp; obtain ⟨b, rfl, h1, _, hb⟩ := hp; have HB := Lib.hid (h1 HS.out); have H3 := Lib.hid (H1.out.below hb); have H4 := Lib.hid (H2.out.below hb); clear h1 hb)
    | (go_at_call 43; refine (fail_in H3.out 2).mono ?_; rintro e w3 ⟨rfl, h1, h2⟩; have H5 := Lib.hid h1; have H6 := Lib.hid (H4.out.trans h2); clear h1 h2))
  · obtain rfl : b = false := by simpa using (show (!b) = true from by assumption)
    go_ret
    exact ⟨false, HB.out, rfl, H5.out, H6.out⟩
  · obtain rfl : b = true := by simpa using (show (!b) = false from by assumption)
    go_ret
    exact ⟨true, HB.out, rfl, H3.out, H4.out⟩
theorem no_left (g : Nat) (s : ByteArray) (h : s.size = 0) : s = ⟨#[]⟩ := by
  cases s with
  | mk d =>
    have : d.size = 0 := h
    rw [Array.size_eq_zero_iff] at this
    rw [this]
/-- Properties of which there are none. -/
def TakeNil (w : World) (g : Nat) (s : ByteArray) (e : Ending) (w' : World) : Prop := e = .returned (.slice none 0 0) ∧ IN w' g s 0 ∧ Chg (fun i => i = g) w w'
set_option maxHeartbeats 2000000 in
set_option maxRecDepth 1000000 in
theorem take_nil {w : World} {g : Nat} {s r : ByteArray} (h : IN w g s 0) (hv : varR s 0 = (0, r, 0)) (k : Int) (isW : Bool) : Calls Tryz.prog 51 #[.pointer (some ⟨g, 0, none⟩), .int .i64 k, .bool isW] w (TakeNil w g r) := by
  have HV := Lib.hid (var_in h)
  rw [hv] at HV
  have HG := Lib.hid h.lt
  have HRAW := Lib.hid (fun W => fun (h : IN W g r 0) => raw_in h 0)
  have hr : rawR r 0 0 = (⟨#[]⟩, r, 0) := by
    have h := rawR_take r 0 (by omega)
    rw [show ((0 : Nat) : Int) = 0 from rfl] at h
    rw [h]
    have e1 : r.extract 0 0 = ⟨#[]⟩ := by rw [Lib.extract_eq]; simp
    have e2 : r.extract 0 r.size = r := by rw [Lib.extract_eq, Lib.size_eq, List.drop_zero, Nat.sub_zero, List.take_length]
    rw [e1, e2]
  rw [hr] at HRAW
  simp only at HV HRAW
  clear h hv hr
  go_enter Tryz.func51, Tryz.ntmps51
  go_upto_region 5 with (first
    | (go_at_call 24; refine HV.out.mono ?_; rintro e w1 ⟨rfl, h1, h2⟩; have H1 := Lib.hid h1; have H2 := Lib.hid h2; clear h1 h2)
    | (go_at_call 28; refine (HRAW.out _ H1.out).mono ?_; rintro e w2 ⟨rfl, h1, h2⟩; have H3 := Lib.hid h1; have H4 := Lib.hid (H2.out.trans h2); clear h1 h2)
    | (go_at_call 23; refine (over_in ⟨#[]⟩).mono ?_; rintro e w3 ⟨g2, rfl, hi, hg2, hb⟩; have HI := Lib.hid hi; have H5 := Lib.hid (H3.out.below hb); have H6 := Lib.hid (H4.out.below hb); have HN := Lib.hid (show g ≠ g2 by have := H3.out.lt; omega); have HN2 := Lib.hid (show w.heap.size ≤ g2 by have := H4.out.size; omega); clear hi hb hg2)
    | (go_at_call 25; refine (err_in H5.out).mono ?_; rintro e w4 ⟨rfl, h1, h2⟩; have H7 := Lib.hid h1; have H8 := Lib.hid (H6.out.trans h2); have HI2 := Lib.hid (HI.out.to h2 (fun e => HN.out e.symm)); clear h1 h2))
  refine wp_loop_rounds 1 ?_
  rw [rounds_succ]
  go_wp2_with (first
    | (go_at_call 27; refine (left_in HI2.out).mono ?_; rintro e w5 ⟨rfl, h1, h2⟩; have HI3 := Lib.hid h1; have H9 := Lib.hid (H7.out.to h2 HN.out); have H10 := Lib.hid (H8.out.then_ h2 (fun i hi => .inr (hi ▸ HN2.out))); clear h1 h2)
    | (go_at_call 25; refine (err_in HI3.out).mono ?_; rintro e w6 ⟨rfl, h1, h2⟩; have H11 := Lib.hid (H9.out.to h2 HN.out); have H12 := Lib.hid (H10.out.then_ h2 (fun i hi => .inr (hi ▸ HN2.out))); clear h1 h2))
  go_ret
  exact ⟨rfl, H11.out, H12.out⟩
theorem toB_data (s : ByteArray) : toB s.data.toList = s := by
  cases s
  simp [toB]
theorem toB_toList (l : List UInt8) : (toB l).data.toList = l := by simp [toB]
theorem toB_extract (l : List UInt8) (a b : Nat) : (toB l).extract a b = toB ((l.drop a).take (b - a)) := by
  rw [Lib.extract_eq, toB_toList]
  rfl
theorem toB_take (a b : List UInt8) : (toB (a ++ b)).extract 0 a.length = toB a := by
  rw [toB_extract, List.drop_zero, Nat.sub_zero, List.take_left]
theorem toB_drop (a b : List UInt8) : (toB (a ++ b)).extract a.length (toB (a ++ b)).size = toB b := by
  rw [toB_extract, toB_size, List.drop_left, List.length_append, Nat.add_sub_cancel_left, List.take_length]
theorem raw_app (a b : List UInt8) : rawR (toB (a ++ b)) 0 (a.length : Nat) = (toB a, toB b, 0) := by
  rw [rawR_take _ _ (by rw [toB_size, List.length_append]; omega), toB_take, toB_drop]
theorem byA_cons (x : UInt8) (l : List UInt8) : byA (toB (x :: l)) 0 = x.toNat := by
  unfold byA
  rw [toB_toList]
  rfl
theorem bt_byA (s : ByteArray) (h : 0 < s.size) : bt s 0 = (byA s 0 : Nat) := by
  unfold bt byA
  rw [dif_pos (show (0 : Int).toNat < s.size from h), List.getD_eq_getElem?_getD, Lib.data_getElem? s 0 h]
  rfl
theorem byteN_cons (x : UInt8) (l : List UInt8) : byteN (toB (x :: l)) 0 = (x.toNat, toB l, 0) := by
  unfold byteN byteR
  have hz : (toB (x :: l)).size = l.length + 1 := by rw [toB_size]; rfl
  rw [if_neg (by decide), if_neg (by omega)]
  have h1 : bt (toB (x :: l)) 0 = (x.toNat : Nat) := by rw [bt_byA _ (by omega), byA_cons]
  have h2 := toB_drop [x] l
  rw [show ([x] : List UInt8) ++ l = x :: l from rfl, show ([x] : List UInt8).length = 1 from rfl] at h2
  simp only [h1, h2, Int.toNat_natCast]
theorem byteN_nil : byteN (toB []) 0 = (0, toB [], 1) := rfl
theorem numB_two (x y : UInt8) (l : List UInt8) : numB (toB (x :: y :: l)) 2 = x.toNat * 256 + y.toNat := by
  show (0 * 256 + byA (toB (x :: y :: l)) 0) * 256 + byA (toB (x :: y :: l)) 1 = _
  unfold byA
  rw [toB_toList]
  show (0 * 256 + x.toNat) * 256 + y.toNat = _
  omega
theorem ofNat_toNat {n : Nat} (h : n < 256) : (UInt8.ofNat n).toNat = n := by rw [UInt8.toNat_ofNat', Nat.mod_eq_of_lt h]
theorem data_app (s : ByteArray) (hs : s.size ≤ 65535) (l : List UInt8) : dataR (toB (dat s ++ l)) 0 = (s, toB l, 0) := by
  have h2 : numR (toB (dat s ++ l)) 0 2 = s.size := by
    unfold numR
    rw [if_neg (by rw [toB_size, List.length_append, dat_len]; simp; omega)]
    show numB (toB (UInt8.ofNat (s.size / 256) :: UInt8.ofNat (s.size % 256) :: (s.data.toList ++ l))) 2 = _
    rw [numB_two, ofNat_toNat (by omega), ofNat_toNat (by omega)]
    omega
  have h3 : rawR (toB (dat s ++ l)) 0 2 = (toB (be2 s.size), toB (s.data.toList ++ l), 0) := by
    have := raw_app (be2 s.size) (s.data.toList ++ l)
    unfold dat
    rw [List.append_assoc]
    exact this
  unfold dataR
  rw [h2, h3]
  have := raw_app s.data.toList l
  rw [← Lib.size_eq, toB_data] at this
  exact this
theorem varG_app : ∀ (j v n : Nat) (l : List UInt8), j < 4 → n < 128 ^ (j + 1) → (j < 3 → 0 < n) → varG (j + 1) v (toB (varU n ++ l)) 0 = (v + n * 128 ^ (3 - j), toB l, 0)
  | j, v, n, l, hj, hn, h0 => by
    by_cases h : n < 128
    · rw [varU_lt h, varG]
      rw [show ([UInt8.ofNat n] : List UInt8) ++ l = UInt8.ofNat n :: l from rfl, byteN_cons, ofNat_toNat (by omega)]
      simp only
      rw [if_neg (by decide), if_neg (by omega), if_neg (by
        rintro (h1 | ⟨h1, h2⟩)
        · omega
        · have := h0 h2; omega), Nat.mod_eq_of_lt h]
    · rw [varU_ge h, List.cons_append, varG, byteN_cons, ofNat_toNat (by omega)]
      simp only
      have hj0 : 0 < j := by
        rcases Nat.eq_zero_or_pos j with rfl | hp
        · rw [Nat.pow_one] at hn; omega
        · exact hp
      obtain ⟨i, rfl⟩ : ∃ i, j = i + 1 := ⟨j - 1, by omega⟩
      have hn2 : n / 128 < 128 ^ (i + 1) := by
        rw [Nat.pow_succ] at hn
        exact Nat.div_lt_of_lt_mul (by rw [Nat.mul_comm]; exact hn)
      rw [if_neg (by decide), if_pos ⟨by omega, hj0⟩, varG_app i _ (n / 128) l (by omega) hn2 (fun _ => by omega)]
      have e1 : (n % 128 + 128) % 128 = n % 128 := by omega
      have e2 : (128 : Nat) ^ (3 - i) = 128 ^ (3 - (i + 1)) * 128 := by rw [← Nat.pow_succ]; congr 1; omega
      rw [e1, e2]
      have e3 : n % 128 * 128 ^ (3 - (i + 1)) + n / 128 * (128 ^ (3 - (i + 1)) * 128) = n * 128 ^ (3 - (i + 1)) := by
        rw [Nat.mul_comm (128 ^ (3 - (i + 1))) 128, ← Nat.mul_assoc, ← Nat.add_mul]
        congr 1
        omega
      rw [Nat.add_assoc, e3]
theorem var_app (n : Nat) (hn : n ≤ 268435455) (l : List UInt8) : varR (toB (varU n ++ l)) 0 = (n, toB l, 0) := by
  unfold varR
  have h := varG_app 3 0 n l (by decide) (by have : (128 : Nat) ^ 4 = 268435456 := by decide
                                             omega) (fun h => absurd h (by decide))
  rw [h]
  simp
theorem good_t {b : Bool} (h : GoodW ⟨#[116]⟩ b) : b = true := by
  have hz : (⟨#[116]⟩ : ByteArray).size = 1 := rfl
  have hb : byteAt ⟨#[116]⟩ 0 = 116 := rfl
  have hs : ∀ v n, SignW ⟨#[116]⟩ v n → v = 116 ∧ n = 1 := fun v n h => by
    cases h with
    | none h => rw [hz] at h; cases h
    | one h h1 => rw [hb]; exact ⟨rfl, rfl⟩
    | first h h1 h2 => rw [hb] at h1; omega
    | short m h h1 h2 h0 h3 => rw [hb] at h1; omega
    | cont m k h h1 h2 h3 k1 k2 h4 => rw [hb] at h1; omega
    | bad m h h1 h2 h0 h3 h4 h5 => rw [hb] at h1; omega
    | good m h h1 h2 h0 h3 h4 h5 => rw [hb] at h1; omega
  cases h with
  | nil h => rfl
  | bad _ v n h h1 h2 => obtain ⟨rfl, rfl⟩ := hs v n h1; omega
  | step _ v n _ h h1 h2 h3 h4 =>
    obtain ⟨rfl, rfl⟩ := hs v n h1
    have he : (⟨#[116]⟩ : ByteArray).extract 1 (⟨#[116]⟩ : ByteArray).size = ⟨#[]⟩ := rfl
    rw [he] at h4
    cases h4 with
    | nil h => rfl
    | bad _ v n h h1 h2 => cases h
    | step _ v n _ h h1 h2 h3 h4 => cases h
theorem frB_size (k f : Nat) (body : ByteArray) : (frB k f body).length = 1 + (varU body.size).length + body.size := by
  unfold frB
  rw [List.length_cons, List.length_append, ← Lib.size_eq]
  omega
theorem nextF_fr (most : Int) (k f : Nat) (body : ByteArray) (rest : List UInt8) (hk : k < 16) (hf : f < 16) (hc : chk k f = 0) (hb : body.size ≤ 268435455) :
    nextF most (toB (frB k f body ++ rest)) = if most < (((frB k f body).length : Nat) : Int) then ((0, 0, ⟨#[]⟩, 4), (⟨#[]⟩, 4)) else ((k, f, body, 0), (toB rest, 0)) := by
  have e0 : frB k f body ++ rest = UInt8.ofNat (k * 16 + f) :: (varU body.size ++ (body.data.toList ++ rest)) := by
    unfold frB
    rw [List.cons_append, List.append_assoc]
  have hh : byA (toB (frB k f body ++ rest)) 0 = k * 16 + f := by rw [e0, byA_cons, ofNat_toNat (by omega)]
  have h1 : (k * 16 + f) / 16 = k := by omega
  have h2 : (k * 16 + f) % 16 = f := by omega
  have hx : (toB (frB k f body ++ rest)).extract 1 (toB (frB k f body ++ rest)).size = toB (varU body.size ++ (body.data.toList ++ rest)) := by
    rw [e0]
    exact toB_drop [UInt8.ofNat (k * 16 + f)] _
  unfold nextF
  rw [hh, h1, h2, hx, var_app _ hb, if_neg (by rw [hc]; decide)]
  simp only
  rw [if_neg (by decide), if_neg (by decide), frB_size]
  by_cases hm : most < ((1 + (varU body.size).length + body.size : Nat) : Int)
  · rw [if_pos hm, if_pos hm]
  · rw [if_neg hm, if_neg hm, if_neg (by rw [toB_size, List.length_append, ← Lib.size_eq]; omega)]
    have h3 := toB_take body.data.toList rest
    have h4 := toB_drop body.data.toList rest
    rw [← Lib.size_eq] at h3 h4
    rw [h3, h4, toB_data]
end Go.Proofs.YtljbchghbpmghaaGreatDoor
