/- Parts of a proof about aliases: HE, H0. -/
import Derived.Test.YtbfgpkogginmjaaGreatDoorZ4
import Derived.Test.YtbfgpkogginmjaaGreatDoorZ12
section
namespace Go.Proofs.YtbfgpkogginmjaaGreatDoor
open Go.RowKit Go.Lib Go.Proofs.YtbfgpkogginmjaaGreatDoorW.PrintWords Go.Proofs.YtbfgpkogginmjaaGreatDoor.PSwitchboardGreat
set_option linter.unusedVariables false
set_option linter.unusedSimpArgs false
theorem dataR_size (s : ByteArray) (er : Int) : (dataR s er).1.size ≤ 65535 := by
  have h1 := raw_size (rawR s er 2).2.1 (rawR s er 2).2.2 (numR s er 2)
  have h2 := numR_lt2 s er
  unfold dataR
  omega
def takeV (d : ByteArray × ByteArray × Int) (b : Bool) : ByteArray := if b then d.1 else ⟨#[]⟩
def takeE (d : ByteArray × ByteArray × Int) (b : Bool) : Int := if b then d.2.2 else if d.2.2 = 0 then 2 else d.2.2
def WTake (w : World) (g : Nat) (d : ByteArray × ByteArray × Int) (e : Ending) (w' : World) : Prop := ∃ b : Bool, GoodW d.1 b ∧ e = .returned (.string (takeV d b)) ∧ IN w' g d.2.1 (takeE d b) ∧ Chg (fun i => i = g) w w'
set_option maxHeartbeats 1000000 in
set_option maxRecDepth 1000000 in
theorem wtake_in {w : World} {g : Nat} {s : ByteArray} {er : Int} (h : IN w g s er) : Calls Tryz.prog 126 #[.pointer (some ⟨g, 0, none⟩)] w (WTake w g (dataR s er)) := by
  have HD := Lib.hid (data_in h)
  have HS := Lib.hid (dataR_size s er)
  generalize dataR s er = D at HD HS ⊢
  clear h
  obtain ⟨d, s1, e1⟩ := D
  simp only at HD HS
  have HG := Lib.hid (fun W => good_calls d W)
  go_enter Tryz.func126, Tryz.ntmps126
  go_wp2_with (first
    | (go_at_call 176; refine HD.out.mono ?_; rintro e w1 ⟨rfl, h1, h2⟩; have H1 := Lib.hid h1; have H2 := Lib.hid h2; clear h1 h2)
    | (go_at_call 177; refine (HG.out _).mono ?_; rintro e w2 hp; obtain ⟨b, rfl, h1, _, hb⟩ := hp; have HB := Lib.hid (h1 HS.out); have H3 := Lib.hid (H1.out.below hb); have H4 := Lib.hid (H2.out.below hb); clear h1 hb)
    | (go_at_call 93; refine (fail_in H3.out 2).mono ?_; rintro e w3 ⟨rfl, h1, h2⟩; have H5 := Lib.hid h1; have H6 := Lib.hid (H4.out.trans h2); clear h1 h2))
  · obtain rfl : b = false := by simpa using (show (!b) = true from by assumption)
    go_ret
    exact ⟨false, HB.out, rfl, H5.out, H6.out⟩
  · obtain rfl : b = true := by simpa using (show (!b) = false from by assumption)
    go_ret
    exact ⟨true, HB.out, rfl, H3.out, H4.out⟩
def TakeNil (w : World) (g : Nat) (s : ByteArray) (e : Ending) (w' : World) : Prop := e = .returned (.slice none 0 0) ∧ IN w' g s 0 ∧ Chg (fun i => i = g) w w'
set_option maxHeartbeats 2000000 in
set_option maxRecDepth 1000000 in
theorem take_nil {w : World} {g : Nat} {s r : ByteArray} (h : IN w g s 0) (hv : varR s 0 = (0, r, 0)) (k : Int) (isW : Bool) : Calls Tryz.prog 128 #[.pointer (some ⟨g, 0, none⟩), .int .i64 k, .bool isW] w (TakeNil w g r) := by
  have HV := Lib.hid (var_in h)
  rw [hv] at HV
  have HG := Lib.hid h.lt
  have HRAW := Lib.hid (fun W => fun (h : IN W g r 0) => raw_in h 0)
  have hr : rawR r 0 0 = (⟨#[]⟩, r, 0) := by
    have h := rawR_take r 0 (by omega)
    rw [show ((0 : Nat) : Int) = 0 from rfl] at h
    rw [h]
    have e1 : r.extract 0 0 = ⟨#[]⟩ := by rw [Lib.extract_eq]; simp
    have e2 : r.extract 0 r.size = r := by rw [Lib.extract_eq, Lib.size_eq, List.drop_zero, Nat.sub_zero, List.take_length]
    rw [e1, e2]
  rw [hr] at HRAW
  simp only at HV HRAW
  clear h hv hr
  go_enter Tryz.func128, Tryz.ntmps128
  go_upto_region 5 with (first
    | (go_at_call 65; refine HV.out.mono ?_; rintro e w1 ⟨rfl, h1, h2⟩; have H1 := Lib.hid h1; have H2 := Lib.hid h2; clear h1 h2)
    | (go_at_call 69; refine (HRAW.out _ H1.out).mono ?_; rintro e w2 ⟨rfl, h1, h2⟩; have H3 := Lib.hid h1; have H4 := Lib.hid (H2.out.trans h2); clear h1 h2)
    | (go_at_call 64; refine (over_in ⟨#[]⟩).mono ?_; rintro e w3 ⟨g2, rfl, hi, hg2, hb⟩; have HI := Lib.hid hi; have H5 := Lib.hid (H3.out.below hb); have H6 := Lib.hid (H4.out.below hb); have HN := Lib.hid (show g ≠ g2 by have := H3.out.lt; omega); have HN2 := Lib.hid (show w.heap.size ≤ g2 by have := H4.out.size; omega); clear hi hb hg2)
    | (go_at_call 66; refine (err_in H5.out).mono ?_; rintro e w4 ⟨rfl, h1, h2⟩; have H7 := Lib.hid h1; have H8 := Lib.hid (H6.out.trans h2); have HI2 := Lib.hid (HI.out.to h2 (fun e => HN.out e.symm)); clear h1 h2))
  refine wp_loop_rounds 1 ?_
  rw [rounds_succ]
  go_wp2_with (first
    | (go_at_call 68; refine (left_in HI2.out).mono ?_; rintro e w5 ⟨rfl, h1, h2⟩; have HI3 := Lib.hid h1; have H9 := Lib.hid (H7.out.to h2 HN.out); have H10 := Lib.hid (H8.out.then_ h2 (fun i hi => .inr (hi ▸ HN2.out))); clear h1 h2)
    | (go_at_call 66; refine (err_in HI3.out).mono ?_; rintro e w6 ⟨rfl, h1, h2⟩; have H11 := Lib.hid (H9.out.to h2 HN.out); have H12 := Lib.hid (H10.out.then_ h2 (fun i hi => .inr (hi ▸ HN2.out))); clear h1 h2))
  go_ret
  exact ⟨rfl, H11.out, H12.out⟩
theorem toB_data (s : ByteArray) : toB s.data.toList = s := by
  cases s
  simp [toB]
theorem toB_toList (l : List UInt8) : (toB l).data.toList = l := by simp [toB]
theorem toB_extract (l : List UInt8) (a b : Nat) : (toB l).extract a b = toB ((l.drop a).take (b - a)) := by
  rw [Lib.extract_eq, toB_toList]
  rfl
theorem toB_take (a b : List UInt8) : (toB (a ++ b)).extract 0 a.length = toB a := by
  rw [toB_extract, List.drop_zero, Nat.sub_zero, List.take_left]
theorem toB_drop (a b : List UInt8) : (toB (a ++ b)).extract a.length (toB (a ++ b)).size = toB b := by
  rw [toB_extract, toB_size, List.drop_left, List.length_append, Nat.add_sub_cancel_left, List.take_length]
theorem raw_app (a b : List UInt8) : rawR (toB (a ++ b)) 0 (a.length : Nat) = (toB a, toB b, 0) := by
  rw [rawR_take _ _ (by rw [toB_size, List.length_append]; omega), toB_take, toB_drop]
theorem byA_cons (x : UInt8) (l : List UInt8) : byA (toB (x :: l)) 0 = x.toNat := by
  unfold byA
  rw [toB_toList]
  rfl
theorem bt_byA (s : ByteArray) (h : 0 < s.size) : bt s 0 = (byA s 0 : Nat) := by
  unfold bt byA
  rw [dif_pos (show (0 : Int).toNat < s.size from h), List.getD_eq_getElem?_getD, Lib.data_getElem? s 0 h]
  rfl
theorem byteN_cons (x : UInt8) (l : List UInt8) : byteN (toB (x :: l)) 0 = (x.toNat, toB l, 0) := by
  unfold byteN byteR
  have hz : (toB (x :: l)).size = l.length + 1 := by rw [toB_size]; rfl
  rw [if_neg (by decide), if_neg (by omega)]
  have h1 : bt (toB (x :: l)) 0 = (x.toNat : Nat) := by rw [bt_byA _ (by omega), byA_cons]
  have h2 := toB_drop [x] l
  rw [show ([x] : List UInt8) ++ l = x :: l from rfl, show ([x] : List UInt8).length = 1 from rfl] at h2
  simp only [h1, h2, Int.toNat_natCast]
theorem numB_two (x y : UInt8) (l : List UInt8) : numB (toB (x :: y :: l)) 2 = x.toNat * 256 + y.toNat := by
  show (0 * 256 + byA (toB (x :: y :: l)) 0) * 256 + byA (toB (x :: y :: l)) 1 = _
  unfold byA
  rw [toB_toList]
  show (0 * 256 + x.toNat) * 256 + y.toNat = _
  omega
theorem ofNat_toNat {n : Nat} (h : n < 256) : (UInt8.ofNat n).toNat = n := by rw [UInt8.toNat_ofNat', Nat.mod_eq_of_lt h]
theorem data_app (s : ByteArray) (hs : s.size ≤ 65535) (l : List UInt8) : dataR (toB (dat s ++ l)) 0 = (s, toB l, 0) := by
  have h2 : numR (toB (dat s ++ l)) 0 2 = s.size := by
    unfold numR
    rw [if_neg (by rw [toB_size, List.length_append, dat_len]; simp; omega)]
    show numB (toB (UInt8.ofNat (s.size / 256) :: UInt8.ofNat (s.size % 256) :: (s.data.toList ++ l))) 2 = _
    rw [numB_two, ofNat_toNat (by omega), ofNat_toNat (by omega)]
    omega
  have h3 : rawR (toB (dat s ++ l)) 0 2 = (toB (be2 s.size), toB (s.data.toList ++ l), 0) := by
    have := raw_app (be2 s.size) (s.data.toList ++ l)
    unfold dat
    rw [List.append_assoc]
    exact this
  unfold dataR
  rw [h2, h3]
  have := raw_app s.data.toList l
  rw [← Lib.size_eq, toB_data] at this
  exact this
theorem varG_app : ∀ (j v n : Nat) (l : List UInt8), j < 4 → n < 128 ^ (j + 1) → (j < 3 → 0 < n) → varG (j + 1) v (toB (varU n ++ l)) 0 = (v + n * 128 ^ (3 - j), toB l, 0)
  | j, v, n, l, hj, hn, h0 => by
    by_cases h : n < 128
    · rw [varU_lt h, varG]
      rw [show ([UInt8.ofNat n] : List UInt8) ++ l = UInt8.ofNat n :: l from rfl, byteN_cons, ofNat_toNat (by omega)]
      simp only
      rw [if_neg (by decide), if_neg (by omega), if_neg (by
        rintro (h1 | ⟨h1, h2⟩)
        · omega
        · have := h0 h2; omega), Nat.mod_eq_of_lt h]
    · rw [varU_ge h, List.cons_append, varG, byteN_cons, ofNat_toNat (by omega)]
      simp only
      have hj0 : 0 < j := by
        rcases Nat.eq_zero_or_pos j with rfl | hp
        · rw [Nat.pow_one] at hn; omega
        · exact hp
      obtain ⟨i, rfl⟩ : ∃ i, j = i + 1 := ⟨j - 1, by omega⟩
      have hn2 : n / 128 < 128 ^ (i + 1) := by
        rw [Nat.pow_succ] at hn
        exact Nat.div_lt_of_lt_mul (by rw [Nat.mul_comm]; exact hn)
      rw [if_neg (by decide), if_pos ⟨by omega, hj0⟩, varG_app i _ (n / 128) l (by omega) hn2 (fun _ => by omega)]
      have e1 : (n % 128 + 128) % 128 = n % 128 := by omega
      have e2 : (128 : Nat) ^ (3 - i) = 128 ^ (3 - (i + 1)) * 128 := by rw [← Nat.pow_succ]; congr 1; omega
      rw [e1, e2]
      have e3 : n % 128 * 128 ^ (3 - (i + 1)) + n / 128 * (128 ^ (3 - (i + 1)) * 128) = n * 128 ^ (3 - (i + 1)) := by
        rw [Nat.mul_comm (128 ^ (3 - (i + 1))) 128, ← Nat.mul_assoc, ← Nat.add_mul]
        congr 1
        omega
      rw [Nat.add_assoc, e3]
theorem var_app (n : Nat) (hn : n ≤ 268435455) (l : List UInt8) : varR (toB (varU n ++ l)) 0 = (n, toB l, 0) := by
  unfold varR
  have h := varG_app 3 0 n l (by decide) (by have : (128 : Nat) ^ 4 = 268435456 := by decide
                                             omega) (fun h => absurd h (by decide))
  rw [h]
  simp
theorem frB_size (k f : Nat) (body : ByteArray) : (frB k f body).length = 1 + (varU body.size).length + body.size := by
  unfold frB
  rw [List.length_cons, List.length_append, ← Lib.size_eq]
  omega
theorem nextF_fr (most : Int) (k f : Nat) (body : ByteArray) (rest : List UInt8) (hk : k < 16) (hf : f < 16) (hc : chk k f = 0) (hb : body.size ≤ 268435455) :
    nextF most (toB (frB k f body ++ rest)) = if most < (((frB k f body).length : Nat) : Int) then ((0, 0, ⟨#[]⟩, 4), (⟨#[]⟩, 4)) else ((k, f, body, 0), (toB rest, 0)) := by
  have e0 : frB k f body ++ rest = UInt8.ofNat (k * 16 + f) :: (varU body.size ++ (body.data.toList ++ rest)) := by
    unfold frB
    rw [List.cons_append, List.append_assoc]
  have hh : byA (toB (frB k f body ++ rest)) 0 = k * 16 + f := by rw [e0, byA_cons, ofNat_toNat (by omega)]
  have h1 : (k * 16 + f) / 16 = k := by omega
  have h2 : (k * 16 + f) % 16 = f := by omega
  have hx : (toB (frB k f body ++ rest)).extract 1 (toB (frB k f body ++ rest)).size = toB (varU body.size ++ (body.data.toList ++ rest)) := by
    rw [e0]
    exact toB_drop [UInt8.ofNat (k * 16 + f)] _
  unfold nextF
  rw [hh, h1, h2, hx, var_app _ hb, if_neg (by rw [hc]; decide)]
  simp only
  rw [if_neg (by decide), if_neg (by decide), frB_size]
  by_cases hm : most < ((1 + (varU body.size).length + body.size : Nat) : Int)
  · rw [if_pos hm, if_pos hm]
  · rw [if_neg hm, if_neg hm, if_neg (by rw [toB_size, List.length_append, ← Lib.size_eq]; omega)]
    have h3 := toB_take body.data.toList rest
    have h4 := toB_drop body.data.toList rest
    rw [← Lib.size_eq] at h3 h4
    rw [h3, h4, toB_data]
end Go.Proofs.YtbfgpkogginmjaaGreatDoor
end
section
namespace Go.Proofs.YtbfgpkogginmjaaGreatDoor
open Go.RowKit Go.Lib Go.Proofs.YtbfgpkogginmjaaGreatDoorW.PrintWords Go.Proofs.YtbfgpkogginmjaaGreatDoor.PSwitchboardGreat
set_option linter.unusedVariables false
set_option linter.unusedSimpArgs false
set_option linter.unusedSectionVars false
class LawBase where
  w0 : World
variable [BS : LawBase]
structure Fr (w : World) : Prop where
  os : w.os = BS.w0.os
  tape : w.tape = BS.w0.tape
  output : w.output = BS.w0.output
theorem Fr.below {w w' : World} {B : Nat} (h : Fr w) (hb : Below B w w') : Fr w' := ⟨hb.os.trans h.os, hb.tape.trans h.tape, hb.output.trans h.output⟩
theorem Fr.chg {w w' : World} {S : Nat → Prop} (h : Fr w) (hc : Chg S w w') : Fr w' := ⟨hc.os.trans h.os, hc.tape.trans h.tape, hc.output.trans h.output⟩
structure Part (w : World) (L : List (Nat × Obj)) (S : Nat → Prop) : Prop where
  at_ : ∀ p ∈ L, ¬ S p.1 → w.heap[p.1]? = some p.2
  nd : (L.map Prod.fst).Nodup
  fr : Fr w
structure Held (w : World) (L : List (Nat × Obj)) : Prop where
  at_ : ∀ p ∈ L, w.heap[p.1]? = some p.2
  nd : (L.map Prod.fst).Nodup
  fr : Fr w
variable {w w' : World} {L : List (Nat × Obj)} {S : Nat → Prop} {a b i j : Nat} {o o' : Obj}
theorem Held.get (h : Held w L) (i : Nat) (hi : L[i]? = some (a, o)) : w.heap[a]? = some o := h.at_ _ (List.mem_of_getElem? hi)
theorem Held.lt (h : Held w L) (p : Nat × Obj) (hp : p ∈ L) : p.1 < w.heap.size := by
  have := h.at_ p hp
  exact blk_lt this
theorem Held.below (h : Held w L) (hb : Below w.heap.size w w') : Held w' L := ⟨fun p hp => blk_below (h.at_ p hp) hb, h.nd, h.fr.below hb⟩
theorem Held.part (h : Held w L) (hc : Chg S w w') : Part w' L S := ⟨fun p hp hs => (hc.block _ (h.lt p hp) hs).trans (h.at_ p hp), h.nd, h.fr.chg hc⟩
theorem set_fst (hi : L[i]? = some (a, o)) : (L.set i (a, o')).map Prod.fst = L.map Prod.fst := by
  rw [List.map_set]
  apply List.ext_getElem?
  intro k
  rw [List.getElem?_set]
  split
  · rename_i e
    subst e
    rw [List.getElem?_map, hi]
    have hl : i < L.length := (List.getElem?_eq_some_iff.1 hi).1
    rw [List.length_map, if_pos hl]
    rfl
  · rfl
theorem Part.set (h : Part w L S) (i : Nat) (hi : L[i]? = some (a, o)) (ho : w.heap[a]? = some o') : Part w (L.set i (a, o')) (fun k => S k ∧ k ≠ a) := by
  refine ⟨fun p hp hs => ?_, by rw [set_fst hi]; exact h.nd, h.fr⟩
  obtain ⟨j, hj⟩ := List.mem_iff_getElem?.1 hp
  rw [List.getElem?_set] at hj
  split at hj
  · split at hj
    · injection hj with hj
      rw [← hj]
      exact ho
    · cases hj
  · rename_i hij
    have hpa : p.1 ≠ a := by
      intro e
      have h1 : (L.map Prod.fst)[i]? = some a := by rw [List.getElem?_map, hi]; rfl
      have h2 : (L.map Prod.fst)[j]? = some a := by rw [List.getElem?_map, hj]; exact congrArg some e
      have hl : i < (L.map Prod.fst).length := (List.getElem?_eq_some_iff.1 h1).1
      exact hij ((List.getElem?_inj hl h.nd).1 (h1.trans h2.symm))
    exact h.at_ p (List.mem_of_getElem? hj) (fun hS => hs ⟨hS, hpa⟩)
theorem Part.held (h : Part w L S) (hs : ∀ k, ¬ S k) : Held w L := ⟨fun p hp => h.at_ p hp (hs _), h.nd, h.fr⟩
theorem Held.set (h : Held w L) (i : Nat) (hi : L[i]? = some (a, o)) (hc : Chg (fun k => k = a) w w') (ho : w'.heap[a]? = some o') : Held w' (L.set i (a, o')) := ((h.part hc).set i hi ho).held (fun k hk => hk.2 hk.1)
theorem Held.set2 (h : Held w L) {o2 o2' : Obj} (i : Nat) (hi : L[i]? = some (a, o)) (j : Nat) (hj : (L.set i (a, o'))[j]? = some (b, o2)) (hc : Chg (fun k => k = a ∨ k = b) w w') (ho : w'.heap[a]? = some o') (ho2 : w'.heap[b]? = some o2') : Held w' ((L.set i (a, o')).set j (b, o2')) := (((h.part hc).set i hi ho).set j hj ho2).held (fun k hk => hk.1.1.elim hk.1.2 hk.2)
theorem Held.push (h : Held w L) (hb : Below w.heap.size w w') (ha : w.heap.size ≤ a) (ho : w'.heap[a]? = some o) : Held w' (L ++ [(a, o)]) := by
  refine ⟨fun p hp => ?_, ?_, h.fr.below hb⟩
  · rcases List.mem_append.1 hp with hp | hp
    · exact (h.below hb).at_ p hp
    · obtain rfl := List.mem_singleton.1 hp
      exact ho
  · rw [List.map_append, List.nodup_append]
    refine ⟨h.nd, by simp, fun x hx y hy => ?_⟩
    obtain ⟨p, hp, rfl⟩ := List.mem_map.1 hx
    have h1 := h.lt p hp
    have h2 : y = a := by simpa using hy
    omega
theorem Held.perm (h : Held w L) {M : List (Nat × Obj)} (hp : L.Perm M) : Held w M := ⟨fun p hm => h.at_ p (hp.mem_iff.2 hm), (hp.map Prod.fst).nodup_iff.1 h.nd, h.fr⟩
theorem Held.sub (h : Held w L) {M : List (Nat × Obj)} (hp : M.Sublist L) : Held w M := ⟨fun p hm => h.at_ p (hp.subset hm), h.nd.sublist (hp.map Prod.fst), h.fr⟩
theorem app_get {M : List (Nat × Obj)} {x : Nat × Obj} (h : L[i]? = some x) : (L ++ M)[i]? = some x := by
  rw [List.getElem?_append_left (List.getElem?_eq_some_iff.1 h).1]
  exact h
theorem set_other {x y : Nat × Obj} (hi : L[i]? = some x) (hij : j ≠ i) : (L.set j y)[i]? = some x := by
  rw [List.getElem?_set_ne hij]
  exact hi
theorem Held.alloc (h : Held w L) (o : Obj) (ho : o = o' ) : Held (w.alloc o) (L ++ [(w.heap.size, o')]) := h.push ((Below.refl _ _).alloc (Nat.le_refl _) o) (Nat.le_refl _) (ho ▸ heap_alloc_new w o)
theorem Held.nil (h : Fr w) : Held w [] := ⟨fun p hp => (by cases hp), List.nodup_nil, h⟩
end Go.Proofs.YtbfgpkogginmjaaGreatDoor
end
