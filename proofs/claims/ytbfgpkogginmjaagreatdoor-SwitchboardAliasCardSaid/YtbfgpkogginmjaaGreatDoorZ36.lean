/- Parts of a proof about aliases: D2, D3. -/
import Derived.Test.YtbfgpkogginmjaaGreatDoorZ13
import Derived.Test.YtbfgpkogginmjaaGreatDoorZ20
section
namespace Go.Proofs.YtbfgpkogginmjaaGreatDoor
open Go.RowKit Go.Lib Go.Proofs.YtbfgpkogginmjaaGreatDoorW.PrintWords Go.Proofs.YtbfgpkogginmjaaGreatDoor.PSwitchboardGreat
set_option linter.unusedVariables false
set_option linter.unusedSimpArgs false
def VXP (w : World) (g bp id n : Nat) (s : ByteArray) (e : Ending) (w' : World) : Prop := e = .returned (.tuple #[]) ∧ w'.heap[bp]? = some (.cells #[.int .i64 (id : Nat), .int .u32 (n : Nat), .string ⟨#[]⟩, .string ⟨#[]⟩] 38 (0, 0)) ∧ IN w' g s 0 ∧ Chg (fun i => i = g ∨ i = bp) w w'
set_option maxHeartbeats 2000000 in
set_option maxRecDepth 1000000 in
theorem valx_2 {w : World} {g bp id n : Nat} {s s' : ByteArray} (h : IN w g s 0) (hp : w.heap[bp]? = some (.cells #[.int .i64 (id : Nat), .int .u32 0, .string ⟨#[]⟩, .string ⟨#[]⟩] 38 (0, 0))) (x1 x2 x3 x4 : Int) (hn : numR s 0 2 = n) (hr : (rawR s 0 2).2 = (s', 0)) (d1 : decide ((n : Int) < x2) = false) (d2 : decide (x3 < (n : Int)) = false) :
    Calls Tryz.prog 180 #[.pointer (some ⟨g, 0, none⟩), .pointer (some ⟨bp, 0, none⟩), .agg #[.int .i64 2, .int .i64 x1, .int .u32 x2, .int .u32 x3, .int .i64 x4]] w (VXP w g bp id n s') := by
  have hgp : g ≠ bp := blk_ne h hp (by decide)
  have HGP := Lib.hid hgp
  have HI0 := Lib.hid (h.below ((Below.refl w.heap.size w).alloc (Nat.le_refl _) (.cells #[.int .i64 2, .int .i64 x1, .int .u32 x2, .int .u32 x3, .int .i64 x4] 116)))
  have HP0 := Lib.hid (blk_alloc hp (.cells #[.int .i64 2, .int .i64 x1, .int .u32 x2, .int .u32 x3, .int .i64 x4] 116))
  have HR0 := Lib.hid (heap_alloc_new w (.cells #[.int .i64 2, .int .i64 x1, .int .u32 x2, .int .u32 x3, .int .i64 x4] 116))
  have HC0 := Lib.hid (show Chg (fun i => i = g ∨ i = bp) w (w.alloc (.cells #[.int .i64 2, .int .i64 x1, .int .u32 x2, .int .u32 x3, .int .i64 x4] 116)) from (Chg.refl _ _).alloc _)
  have HN := Lib.hid (show w.heap.size ≠ g ∧ w.heap.size ≠ bp by have h1 := h.lt; have h2 := blk_lt hp; omega)
  have HNX := Lib.hid (two_in HI0.out)
  rw [hn, hr] at HNX
  simp only at HNX
  clear h hp hgp hn hr
  go_enter Tryz.func180, Tryz.ntmps180
  go_upto_region 16 with (go_at_call 127; refine HNX.out.mono ?_; rintro e w1 ⟨rfl, hi, hc⟩; have HI1 := Lib.hid hi; have HP1 := Lib.hid (hc.blk HP0.out (fun e => HGP.out e.symm)); have HR1 := Lib.hid (hc.blk HR0.out HN.out.1); have HC1 := Lib.hid (HC0.out.trans (hc.mono (fun i hi => .inl hi))); obtain ⟨p0, p1, p2, p3⟩ := bxcell HP1.out; have fp1 := blk_frozen HP1.out 1; have fp2 := blk_frozen HP1.out 2; have fp3 := blk_frozen HP1.out 3; clear hi hc)
  have HI2 := Lib.hid (HI1.out.setc bp 1 (.int .u32 (n : Nat)) HGP.out)
  have HP2 := Lib.hid (blk_put HP1.out 1 (.int .u32 (n : Nat)) rfl)
  have HR2 := Lib.hid (blk_sfar HR1.out 1 (.int .u32 (n : Nat)) HN.out.2)
  have HC2 := Lib.hid (HC1.out.setCell (p := ⟨bp, 1, none⟩) (.inl (.inr rfl)) (.int .u32 (n : Nat)))
  clear HI1 HP1 HR1 HC1 HI0 HP0 HR0 HC0 p0 p1 p2 p3 fp1 fp2 fp3
  generalize (w1.setCell ⟨bp, 1, none⟩ (.int .u32 (n : Nat))) = W1 at HI2 HP2 HR2 HC2 ⊢
  obtain ⟨p0, p1, p2, p3⟩ := bxcell HP2.out
  obtain ⟨r0, r1, r2, r3, r4⟩ := rcell HR2.out
  go_quiet ((go_at_call 66; exact Calls.quiet_of_same (err_same (HI2.out.drN _))))
  go_wp2
  go_end0
  exact ⟨rfl, HP2.out, HI2.out.drN _, chg_drN HC2.out _⟩
set_option maxHeartbeats 2000000 in
set_option maxRecDepth 1000000 in
theorem valx_3 {w : World} {g bp id n : Nat} {s s' : ByteArray} (h : IN w g s 0) (hp : w.heap[bp]? = some (.cells #[.int .i64 (id : Nat), .int .u32 0, .string ⟨#[]⟩, .string ⟨#[]⟩] 38 (0, 0))) (x1 x2 x3 x4 : Int) (hn : numR s 0 4 = n) (hr : (rawR s 0 4).2 = (s', 0)) (d1 : decide ((n : Int) < x2) = false) (d2 : decide (x3 < (n : Int)) = false) :
    Calls Tryz.prog 180 #[.pointer (some ⟨g, 0, none⟩), .pointer (some ⟨bp, 0, none⟩), .agg #[.int .i64 3, .int .i64 x1, .int .u32 x2, .int .u32 x3, .int .i64 x4]] w (VXP w g bp id n s') := by
  have hgp : g ≠ bp := blk_ne h hp (by decide)
  have HGP := Lib.hid hgp
  have HI0 := Lib.hid (h.below ((Below.refl w.heap.size w).alloc (Nat.le_refl _) (.cells #[.int .i64 3, .int .i64 x1, .int .u32 x2, .int .u32 x3, .int .i64 x4] 116)))
  have HP0 := Lib.hid (blk_alloc hp (.cells #[.int .i64 3, .int .i64 x1, .int .u32 x2, .int .u32 x3, .int .i64 x4] 116))
  have HR0 := Lib.hid (heap_alloc_new w (.cells #[.int .i64 3, .int .i64 x1, .int .u32 x2, .int .u32 x3, .int .i64 x4] 116))
  have HC0 := Lib.hid (show Chg (fun i => i = g ∨ i = bp) w (w.alloc (.cells #[.int .i64 3, .int .i64 x1, .int .u32 x2, .int .u32 x3, .int .i64 x4] 116)) from (Chg.refl _ _).alloc _)
  have HN := Lib.hid (show w.heap.size ≠ g ∧ w.heap.size ≠ bp by have h1 := h.lt; have h2 := blk_lt hp; omega)
  have HNX := Lib.hid (four_in HI0.out)
  rw [hn, hr] at HNX
  simp only at HNX
  clear h hp hgp hn hr
  go_enter Tryz.func180, Tryz.ntmps180
  go_upto_region 16 with (go_at_call 229; refine HNX.out.mono ?_; rintro e w1 ⟨rfl, hi, hc⟩; have HI1 := Lib.hid hi; have HP1 := Lib.hid (hc.blk HP0.out (fun e => HGP.out e.symm)); have HR1 := Lib.hid (hc.blk HR0.out HN.out.1); have HC1 := Lib.hid (HC0.out.trans (hc.mono (fun i hi => .inl hi))); obtain ⟨p0, p1, p2, p3⟩ := bxcell HP1.out; have fp1 := blk_frozen HP1.out 1; have fp2 := blk_frozen HP1.out 2; have fp3 := blk_frozen HP1.out 3; clear hi hc)
  have HI2 := Lib.hid (HI1.out.setc bp 1 (.int .u32 (n : Nat)) HGP.out)
  have HP2 := Lib.hid (blk_put HP1.out 1 (.int .u32 (n : Nat)) rfl)
  have HR2 := Lib.hid (blk_sfar HR1.out 1 (.int .u32 (n : Nat)) HN.out.2)
  have HC2 := Lib.hid (HC1.out.setCell (p := ⟨bp, 1, none⟩) (.inl (.inr rfl)) (.int .u32 (n : Nat)))
  clear HI1 HP1 HR1 HC1 HI0 HP0 HR0 HC0 p0 p1 p2 p3 fp1 fp2 fp3
  generalize (w1.setCell ⟨bp, 1, none⟩ (.int .u32 (n : Nat))) = W1 at HI2 HP2 HR2 HC2 ⊢
  obtain ⟨p0, p1, p2, p3⟩ := bxcell HP2.out
  obtain ⟨r0, r1, r2, r3, r4⟩ := rcell HR2.out
  go_quiet ((go_at_call 66; exact Calls.quiet_of_same (err_same (HI2.out.drN _))))
  go_wp2
  go_end0
  exact ⟨rfl, HP2.out, HI2.out.drN _, chg_drN HC2.out _⟩
theorem num_two (n : Nat) (hn : n < 65536) (l : List UInt8) : numR (toB (be2 (n % 65536) ++ l)) 0 2 = n ∧ (rawR (toB (be2 (n % 65536) ++ l)) 0 2).2 = (toB l, 0) := by
  have hm : n % 65536 = n := Nat.mod_eq_of_lt hn
  rw [hm]
  have h1 : (be2 n).length = 2 := rfl
  have h2 := raw_app (be2 n) l
  rw [h1] at h2
  refine ⟨?_, by rw [show ((2 : Int)) = ((2 : Nat) : Int) from rfl, h2]⟩
  unfold numR
  rw [if_neg (by rw [toB_size, List.length_append, h1]; first | omega | (simp; done) | (simp; omega))]
  show numB (toB (UInt8.ofNat (n / 256) :: UInt8.ofNat (n % 256) :: l)) 2 = _
  rw [numB_two, ofNat_toNat (by omega), ofNat_toNat (by omega)]
  omega
theorem numB_four (x y z u : UInt8) (l : List UInt8) : numB (toB (x :: y :: z :: u :: l)) 4 = ((x.toNat * 256 + y.toNat) * 256 + z.toNat) * 256 + u.toNat := by
  show (((0 * 256 + byA (toB (x :: y :: z :: u :: l)) 0) * 256 + byA (toB (x :: y :: z :: u :: l)) 1) * 256 + byA (toB (x :: y :: z :: u :: l)) 2) * 256 + byA (toB (x :: y :: z :: u :: l)) 3 = _
  unfold byA
  rw [toB_toList]
  show (((0 * 256 + x.toNat) * 256 + y.toNat) * 256 + z.toNat) * 256 + u.toNat = _
  omega
theorem num_four (n : Nat) (hn : n < 4294967296) (l : List UInt8) : numR (toB (be4 n ++ l)) 0 4 = n ∧ (rawR (toB (be4 n ++ l)) 0 4).2 = (toB l, 0) := by
  have h1 : (be4 n).length = 4 := rfl
  have h2 := raw_app (be4 n) l
  rw [h1] at h2
  refine ⟨?_, by rw [show ((4 : Int)) = ((4 : Nat) : Int) from rfl, h2]⟩
  unfold numR
  rw [if_neg (by rw [toB_size, List.length_append, h1]; first | omega | (simp; done) | (simp; omega))]
  show numB (toB (UInt8.ofNat (n / 65536 % 65536 / 256) :: UInt8.ofNat (n / 65536 % 65536 % 256) :: UInt8.ofNat (n % 65536 / 256) :: UInt8.ofNat (n % 65536 % 256) :: l)) 4 = _
  rw [numB_four, ofNat_toNat (by omega), ofNat_toNat (by omega), ofNat_toNat (by omega), ofNat_toNat (by omega)]
  omega
structure NumOk (v : Int) (p : PR) : Prop where
  id : 0 < p.id ∧ p.id ≤ 268435455
  s : p.s = ⟨#[]⟩
  t : p.t = ⟨#[]⟩
  kd : (p.k = 2 ∧ p.n < 65536) ∨ (p.k = 3 ∧ p.n < 4294967296)
  may : (Go.bits .and .i64 (ruleOf p.id).2.1 v == 0) = false
  lo : decide ((p.n : Int) < (ruleOf p.id).2.2.1) = false
  hi : decide ((ruleOf p.id).2.2.2.1 < (p.n : Int)) = false
theorem NumOk.puts {v : Int} {p : PR} (h : NumOk v p) : putsB p = varU p.id ++ (if p.k = 2 then be2 (p.n % 65536) else be4 p.n) := by
  unfold putsB
  rw [if_pos ⟨h.id.1, by rcases h.kd with ⟨h, _⟩ | ⟨h, _⟩ <;> omega⟩]
  unfold propB valB
  rcases h.kd with ⟨h, _⟩ | ⟨h, _⟩
  · rw [h]; rfl
  · rw [h]; rfl
theorem propsB_cons (p : PR) (L : List PR) : propsB (p :: L) = putsB p ++ propsB L := rfl
def GetXP (w : World) (e : Ending) (w' : World) : Prop := ∃ (a : Int) (b : Int) (s t : ByteArray), e = .returned (.tuple #[.agg #[.int .i64 a, .int .u32 b, .string s, .string t], .bool false]) ∧ Below w.heap.size w w'
def Miss (L : List PR) (a : Int) : Prop := ∃ k r1 r2 r3 r4, prop_List_Get.f k (L.map PR.m) a = some (r1, r2, r3, r4, false)
theorem miss_calls {w : World} (A : Option Addr) (c : Nat) (L : List PR) (a : Int) (hr : PL w A L) (hc : L.length ≤ c) (hm : Miss L a) : Calls Tryz.prog 12 #[.slice A L.length c, .int .i64 a] w (GetXP w) := by
  obtain ⟨k, r1, r2, r3, r4, hf⟩ := hm
  have h := prop_List_Get.calls k A c (L.map PR.m) a r1 r2 r3 r4 false w (by rw [List.length_map]; exact hr) (by rw [List.length_map]; exact hc) hf
  rw [List.length_map] at h
  refine h.mono ?_
  rintro e w' ⟨he, hb⟩
  exact ⟨_, _, _, _, he, hb⟩
def TakeXP (w : World) (g : Nat) (L : List PR) (r : ByteArray) (e : Ending) (w' : World) : Prop := ∃ v : Value, e = .returned v ∧ PO w' w.heap.size (fun _ => True) v L ∧ IN w' g r 0 ∧ Chg (fun i => i = g) w w'
set_option maxHeartbeats 3000000 in
set_option maxRecDepth 1000000 in
theorem take_ex {w : World} {g : Nat} {r : ByteArray} (L : List PR) (h : IN w g (toB (putB L ++ r.data.toList)) 0) (hL : (propsB L).length ≤ 100000) (kd v : Int) (hv : prop_set.f kd false = some v) (hok : ∀ p ∈ L, NumOk v p) (hmiss : ∀ L1 p L2, L = L1 ++ p :: L2 → Miss L1 p.id) (hlen : L.length ≤ 1000) :
    Calls Tryz.prog 128 #[.pointer (some ⟨g, 0, none⟩), .int .i64 kd, .bool false] w (TakeXP w g L r) := by
  have HV := Lib.hid (var_in h)
  have HG := Lib.hid h.lt
  have HOK := Lib.hid hok
  have HMS := Lib.hid hmiss
  have HLEN := Lib.hid hlen
  unfold putB at HV
  rw [List.append_assoc, var_app _ (by omega)] at HV
  have HRAW := Lib.hid (fun W (hi : IN W g (toB (propsB L ++ r.data.toList)) 0) => raw_in hi ((propsB L).length : Nat))
  rw [raw_app, toB_data] at HRAW
  have HSET := Lib.hid (fun W => prop_set.calls kd false v W hv)
  simp only at HV HRAW
  have HPZ := Lib.hid (show (toB (propsB L)).size = (propsB L).length from toB_size _)
  have hnb : (propsB L).length ≤ 268435455 := by omega
  clear h hL hv hok hmiss hlen
  generalize toB (propsB L ++ r.data.toList) = s1 at HV HRAW
  generalize (propsB L).length = n at HV HRAW HPZ hnb
  go_enter Tryz.func128, Tryz.ntmps128
  go_upto_region 5 with (first
    | (go_at_call 65; refine HV.out.mono ?_; rintro e w1 ⟨rfl, hi, hc⟩; have H1 := Lib.hid hi; have C1 := Lib.hid hc; clear hi hc)
    | (go_at_call 69; refine (HRAW.out _ H1.out).mono ?_; rintro e w2 ⟨rfl, hi, hc⟩; have H2 := Lib.hid hi; have C2 := Lib.hid (C1.out.trans hc); clear hi hc)
    | (go_at_call 64; refine (over_in _).mono ?_; rintro e w3 ⟨g2, rfl, hi, hg2, hb⟩; have HI := Lib.hid hi; have H3 := Lib.hid (H2.out.below hb); have C3 := Lib.hid (C2.out.below hb); have HN := Lib.hid (show g ≠ g2 by have := H2.out.lt; omega); have HG2 := Lib.hid (show w.heap.size ≤ g2 by have := C2.out.size; omega); clear hi hb hg2)
    | (go_at_call 66; refine (err_same H3.out).mono ?_; rintro e w4 ⟨rfl, rfl⟩))
  clear H1 C1 H2 C2 HV HRAW
  go_loopg [8] L.length (fun gh v8 wx => ∃ (L1 L2 : List PR), Hid (L = L1 ++ L2) ∧ Hid (PO wx w.heap.size (fun _ => True) v8 L1) ∧ Hid (gh = L2.length) ∧ Hid (IN wx g2 (toB (propsB L2)) 0) ∧ Hid (IN wx g r 0) ∧ Hid (Chg (fun i => i = g) w wx))
  case atStart => exact ⟨[], L, Lib.hid rfl, Lib.hid (PO.nil _ _ _), Lib.hid rfl, HI, H3, C3⟩
  case round =>
    obtain ⟨L1, L2, HLL2, HO, HGH, HT, HS, HC⟩ := hrel
    obtain ⟨A8, c8, rfl, hc8, hPL⟩ := HO.out.form
    have HPL := Lib.hid hPL
    have HC8 := Lib.hid hc8
    clear hPL hc8 HI H3 C3
    cases L2 with
    | nil =>
      rw [show toB (propsB []) = ⟨#[]⟩ from rfl] at HT
      have HEL := Lib.hid (show L = L1 by rw [HLL2.out, List.append_nil])
      go_wp2_with (first | (go_at_call 68; refine (left_same HT.out).mono ?_; rintro e w4 ⟨rfl, rfl⟩) | (go_at_call 66; refine (err_same HT.out).mono ?_; rintro e w4 ⟨rfl, rfl⟩))
      go_ret
      exact ⟨_, rfl, HEL.out ▸ HO.out, HS.out, HC.out⟩
    | cons p L2 =>
      cases gk with
      | zero => exact absurd HGH.out (by rw [List.length_cons]; omega)
      | succ g1 =>
        have hp := HOK.out p (by rw [HLL2.out]; exact List.mem_append_right _ (List.mem_cons_self ..))
        have HPN := Lib.hid hp
        have HMP := Lib.hid (HMS.out L1 p L2 HLL2.out)
        have ht := HT.out
        rw [propsB_cons, hp.puts, List.append_assoc] at ht
        have HVT := Lib.hid (var_in ht)
        rw [var_app _ hp.id.2] at HVT
        simp only at HVT
        have hts : 0 < (toB (varU p.id ++ ((if p.k = 2 then be2 (p.n % 65536) else be4 p.n) ++ propsB L2))).size := by rw [toB_size, List.length_append]; have := varU_pos p.id; omega
        have HT := Lib.hid ht
        have HVX : Hid (∀ W bp x4, IN W g2 (toB ((if p.k = 2 then be2 (p.n % 65536) else be4 p.n) ++ propsB L2)) 0 → W.heap[bp]? = some (.cells #[.int .i64 (p.id : Nat), .int .u32 0, .string ⟨#[]⟩, .string ⟨#[]⟩] 38 (0, 0)) → Calls Tryz.prog 180 #[.pointer (some ⟨g2, 0, none⟩), .pointer (some ⟨bp, 0, none⟩), .agg #[.int .i64 (kindOf ((p.id : Nat) : Int) : Nat), .int .i64 (ruleOf ((p.id : Nat) : Int)).2.1, .int .u32 (ruleOf ((p.id : Nat) : Int)).2.2.1, .int .u32 (ruleOf ((p.id : Nat) : Int)).2.2.2.1, .int .i64 x4]] W (VXP W g2 bp p.id p.n (toB (propsB L2)))) := Lib.hid (fun W bp x4 hi hb => by
          have hkk : kindOf ((p.id : Nat) : Int) = p.k := rfl
          rw [hkk]
          rcases hp.kd with ⟨h1, h2⟩ | ⟨h1, h2⟩
          · rw [h1] at hi ⊢
            rw [if_pos rfl] at hi
            exact valx_2 hi hb _ _ _ x4 (num_two _ h2 _).1 (num_two _ h2 _).2 hp.lo hp.hi
          · rw [h1] at hi ⊢
            rw [if_neg (by decide)] at hi
            exact valx_3 hi hb _ _ _ x4 (num_four _ h2 _).1 (num_four _ h2 _).2 hp.lo hp.hi)
        have hmay := hp.may
        have hid := hp.id.2
        clear hp ht
        generalize (if p.k = 2 then be2 (p.n % 65536) else be4 p.n) ++ propsB L2 = rest at HT HVT HVX hts
        generalize toB (varU p.id ++ rest) = t at HT HVT hts
        go_upto_region 12 with (first
          | (go_at_call 68; refine (left_same HT.out).mono ?_; rintro e w4 ⟨rfl, rfl⟩)
          | (go_at_call 66; refine (err_same HT.out).mono ?_; rintro e w4 ⟨rfl, rfl⟩)
          | (go_at_call 65; refine HVT.out.mono ?_; rintro e w1 ⟨rfl, hi, hc⟩; have HO1a := Lib.hid ((HO.out.to hc (fun k hk => .inr ⟨_, _, hk ▸ HT.out, by decide⟩)).lim); have HS1a := Lib.hid (HS.out.to hc HN.out); have HC1a := Lib.hid (HC.out.then_ hc (fun i hi => .inr (hi ▸ HG2.out))); have HT1 := Lib.hid (hi.below ((Below.refl w1.heap.size w1).alloc (Nat.le_refl _) (.cells #[.int .i64 (p.id : Nat), .int .u32 0, .string ⟨#[]⟩, .string ⟨#[]⟩] 38))); have HS1 := Lib.hid (HS1a.out.below ((Below.refl w1.heap.size w1).alloc (Nat.le_refl _) (.cells #[.int .i64 (p.id : Nat), .int .u32 0, .string ⟨#[]⟩, .string ⟨#[]⟩] 38))); have HO1 := Lib.hid ((HO1a.out.below ((Below.refl w1.heap.size w1).alloc (Nat.le_refl _) (.cells #[.int .i64 (p.id : Nat), .int .u32 0, .string ⟨#[]⟩, .string ⟨#[]⟩] 38))).mono (ok' := fun k => k < w1.heap.size) (fun k hk => hk.2)); have HP1 := Lib.hid (heap_alloc_new w1 (.cells #[.int .i64 (p.id : Nat), .int .u32 0, .string ⟨#[]⟩, .string ⟨#[]⟩] 38)); have HC1 := Lib.hid (HC1a.out.alloc (.cells #[.int .i64 (p.id : Nat), .int .u32 0, .string ⟨#[]⟩, .string ⟨#[]⟩] 38)); have HBP := Lib.hid (show w1.heap.size ≠ g2 ∧ w1.heap.size ≠ g ∧ w.heap.size ≤ w1.heap.size by have h1 := hi.lt; have h2 := HS1a.out.lt; have h3 := HC1a.out.size; omega); clear hi hc HO1a HS1a HC1a)
          | (go_at_call 33; (with_reducible refine (of_calls ((p.id : Nat) : Int) _).mono ?_); rintro e w2 ⟨rfl, hb⟩; have HT2 := Lib.hid (HT1.out.below hb); have HS2 := Lib.hid (HS1.out.below hb); have HO2 := Lib.hid (HO1.out.below hb); have HP2 := Lib.hid (blk_below HP1.out hb); have HC2 := Lib.hid (HC1.out.below hb); clear hb))
        obtain ⟨hk1, hk7⟩ := kind_int ((p.id : Nat) : Int)
        rw [hk1]
        clear hk1
        obtain ⟨x1, hx1⟩ : ∃ x, (ruleOf ((p.id : Nat) : Int)).2.1 = x := ⟨_, rfl⟩
        obtain ⟨x2, hx2⟩ : ∃ x, (ruleOf ((p.id : Nat) : Int)).2.2.1 = x := ⟨_, rfl⟩
        obtain ⟨x3, hx3⟩ : ∃ x, (ruleOf ((p.id : Nat) : Int)).2.2.2.1 = x := ⟨_, rfl⟩
        obtain ⟨x4, hx4⟩ : ∃ x, (ruleOf ((p.id : Nat) : Int)).2.2.2.2 = x := ⟨_, rfl⟩
        rw [hx1, hx2, hx3, hx4]
        rw [hx1, hx2, hx3] at HVX
        rw [hx1] at hmay
        clear hx1 hx2 hx3 hx4
        generalize kindOf ((p.id : Nat) : Int) = kk at HVX hk7 ⊢
        have hbx := (Below.refl w2.heap.size w2).alloc (Nat.le_refl _) (.cells #[.int .i64 (kk : Nat), .int .i64 x1, .int .u32 x2, .int .u32 x3, .int .i64 x4] 116)
        have HT3 := Lib.hid (HT2.out.below hbx)
        have HS3 := Lib.hid (HS2.out.below hbx)
        have HO3 := Lib.hid (HO2.out.below hbx)
        have HP3 := Lib.hid (blk_below HP2.out hbx)
        have HC3 := Lib.hid (HC2.out.below hbx)
        have HX3 := Lib.hid (heap_alloc_new w2 (.cells #[.int .i64 (kk : Nat), .int .i64 x1, .int .u32 x2, .int .u32 x3, .int .i64 x4] 116))
        have HBX := Lib.hid (show w2.heap.size ≠ g2 ∧ w2.heap.size ≠ g ∧ w2.heap.size ≠ w1.heap.size by have h1 := HT2.out.lt; have h2 := HS2.out.lt; have h3 := blk_lt HP2.out; omega)
        clear hbx HT1 HT2 HS1 HS2 HO1 HO2 HP1 HP2 HC1 HC2 HT HS HO HC HPL HC8
        generalize (w2.alloc (.cells #[.int .i64 (kk : Nat), .int .i64 x1, .int .u32 x2, .int .u32 x3, .int .i64 x4] 116)) = W3 at HT3 HS3 HO3 HP3 HC3 HX3 ⊢
        obtain ⟨xa0, xa1, xa2, xa3, xa4⟩ := rcell HX3.out
        obtain ⟨pa0, pa1, pa2, pa3⟩ := bxcell HP3.out
        go_upto_region 13 with (first | (go_at_call 66; refine (err_same HT3.out).mono ?_; rintro e w4 ⟨rfl, rfl⟩))
        have hbd : Below w4.heap.size w4 w4.drew := ⟨rfl, rfl, rfl, Nat.le_refl _, fun _ _ => rfl⟩
        have HT4 := Lib.hid (HT3.out.below hbd)
        have HS4 := Lib.hid (HS3.out.below hbd)
        have HO4 := Lib.hid (HO3.out.below hbd)
        have HP4 := Lib.hid (blk_below HP3.out hbd)
        have HC4 := Lib.hid (HC3.out.below hbd)
        have HX4 := Lib.hid (blk_below HX3.out hbd)
        clear hbd HT3 HS3 HO3 HP3 HC3 HX3 pa0 pa1 pa2 pa3
        go_region_held3 (fun w' => w'.cell? ⟨w2.heap.size, 1, none⟩ = some (.int .i64 x1)) (first | exact xa1 | exact xb1 | go_keep) (first
          | (go_at_call 179; (with_reducible refine (HSET.out _).mono ?_); rintro e w5 ⟨rfl, hd⟩; have hb := hd.below; have HT5 := Lib.hid (HT4.out.below hb); have HS5 := Lib.hid (HS4.out.below hb); have HO5 := Lib.hid (HO4.out.below hb); have HP5 := Lib.hid (blk_below HP4.out hb); have HC5 := Lib.hid (HC4.out.below hb); have HX5 := Lib.hid (blk_below HX4.out hb); obtain ⟨xb0, xb1, xb2, xb3, xb4⟩ := rcell HX5.out; obtain ⟨pb0, pb1, pb2, pb3⟩ := bxcell HP5.out; clear hb hd))
        clear xa0 xa1 xa2 xa3 xa4 HT4 HS4 HO4 HP4 HC4 HX4
        have hzq := hmay
        obtain ⟨hpl, hcl⟩ := HO5.out.read
        have HPL := Lib.hid hpl
        have HC8 := Lib.hid hcl
        clear hpl hcl
        go_upto_region 9 with (first
          | (go_at_call 12; refine (miss_calls A8 c8 L1 (p.id : Nat) HPL.out HC8.out HMP.out).mono ?_; rintro e w6 hp; obtain ⟨ga, gb, gs, gt, rfl, hb⟩ := hp; have HT6 := Lib.hid (HT5.out.below hb); have HS6 := Lib.hid (HS5.out.below hb); have HO6 := Lib.hid (HO5.out.below hb); have HP6 := Lib.hid (blk_below HP5.out hb); have HC6 := Lib.hid (HC5.out.below hb); have HX6 := Lib.hid (blk_below HX5.out hb); have hb7 := (Below.refl w6.heap.size w6).alloc (Nat.le_refl _) (.cells #[.int .i64 ga, .int .u32 gb, .string gs, .string gt] 38); have HT7 := Lib.hid (HT6.out.below hb7); have HS7 := Lib.hid (HS6.out.below hb7); have HO7 := Lib.hid (HO6.out.below hb7); have HP7 := Lib.hid (blk_below HP6.out hb7); have HC7 := Lib.hid (HC6.out.below hb7); have HX7 := Lib.hid (blk_below HX6.out hb7); obtain ⟨pc0, pc1, pc2, pc3⟩ := bxcell HP7.out; obtain ⟨xc0, xc1, xc2, xc3, xc4⟩ := rcell HX7.out; clear hb hb7))
        clear xb0 xb1 xb2 xb3 xb4 pb0 pb1 pb2 pb3 HT5 HS5 HO5 HP5 HC5 HX5 HT6 HS6 HO6 HP6 HC6 HX6
        generalize (w6.alloc (.cells #[.int .i64 ga, .int .u32 gb, .string gs, .string gt] 38)) = W7 at HT7 HS7 HO7 HP7 HC7 HX7 pc0 pc1 pc2 pc3 xc0 xc1 xc2 xc3 xc4 ⊢
        go_quiet (fail)
        rename_i nq
        have hb8 : Below W7.heap.size W7 (W7.drewN nq) := ⟨rfl, rfl, rfl, Nat.le_refl _, fun _ _ => rfl⟩
        have HT8 := Lib.hid (HT7.out.below hb8)
        have HS8 := Lib.hid (HS7.out.below hb8)
        have HO8 := Lib.hid (HO7.out.below hb8)
        have HP8 := Lib.hid (blk_below HP7.out hb8)
        have HC8 := Lib.hid (HC7.out.below hb8)
        have HX8 := Lib.hid (blk_below HX7.out hb8)
        clear hb8 HT7 HS7 HO7 HP7 HC7 HX7
        go_upto_region 15 with (first | (go_at_call 180; (with_reducible refine (HVX.out _ _ x4 HT8.out HP8.out).mono ?_); rintro e w12 ⟨rfl, hpb, hi, hc⟩; have HT12 := Lib.hid hi; have HS12 := Lib.hid (HS8.out.to hc (fun h => h.elim HN.out (fun h => HBP.out.2.1 h.symm))); have HO12 := Lib.hid (HO8.out.to hc (fun k hk => hk.elim (fun h => .inr ⟨_, _, h ▸ HT8.out, by decide⟩) (fun h => .inl (by rw [h]; exact Nat.lt_irrefl _)))); have HP12 := Lib.hid hpb; have HC12 := Lib.hid (HC8.out.then_ hc (fun i hi => .inr (hi.elim (fun h => h ▸ HG2.out) (fun h => h ▸ HBP.out.2.2)))); obtain ⟨pd0, pd1, pd2, pd3⟩ := bxcell hpb; clear hpb hi hc))
        obtain ⟨A9, c9, hv9, hc9, _⟩ := HO12.out.form
        have HO9 := Lib.hid (HO12.out.mono (ok' := fun _ => True) (fun _ _ => trivial))
        have HW9 := Lib.hid HC12.out.size
        clear hv9 hc9
        have HLL := Lib.hid (show ((L1.map PR.m).length + 1) * 48 ≤ 140737488355328 by rw [List.length_map]; have h1 := HLEN.out; have h2 := congrArg List.length HLL2.out; rw [List.length_append] at h2; omega)
        go_wp2_with ((with_reducible refine gate_builtin (b := .append) (xs := #[.tmp 74, .tmp 76]) rfl ?_); at_builtin; refine Kd.R_append k144 (w0 := _) w.heap.size rfl (.tmp 74) (.tmp 76) 40 38 (.agg #[.int .i64 0, .int .u32 0, .string ⟨#[]⟩, .string ⟨#[]⟩]) 48 rfl Tryz.underlying40 info144 rfl (by decide) (by decide) _ (L1.map PR.m) (PR.m ⟨p.id, p.n, ⟨#[]⟩, ⟨#[]⟩⟩) [.int .i64 (p.id : Nat), .int .u32 (p.n : Nat), .string ⟨#[]⟩, .string ⟨#[]⟩] (fun _ => True) (fun _ => False) rfl rfl (k144_mkM _ _ _ (PR.m ⟨p.id, p.n, ⟨#[]⟩, ⟨#[]⟩⟩)) (fun _ h => h.elim) (fun _ _ => trivial) HO9.out (Below.refl _ _) HW9.out HLL.out ?_; intro v1 w9 hr hb hg hat; have HR9 := Lib.hid hr; have HT9 := Lib.hid (HT12.out.row HO9.out hg); have HS9 := Lib.hid (HS12.out.row HO9.out hg); have HC9 := Lib.hid (HC12.out.then_ (Chg.of_grown (S := fun k => w.heap.size ≤ k) hg (fun k hk => own_ge HO9.out k hk)) (fun i hi => .inr hi)); clear hr hb hg hat)
        go_roundg g1
        case measure => omega
        case rel => exact ⟨L1 ++ [p], L2, Lib.hid (by rw [HLL2.out, List.append_assoc]; rfl), Lib.hid (show PO _ _ _ _ _ by unfold PO; rw [List.map_append]; have hpe : [PR.m ⟨p.id, p.n, ⟨#[]⟩, ⟨#[]⟩⟩] = List.map PR.m [p] := (by simp only [List.map_cons, List.map_nil, PR.m, HPN.out.s, HPN.out.t]); rw [← hpe]; exact HR9.out), Lib.hid (by have := HGH.out; rw [List.length_cons] at this; omega), HT9, HS9, HC9⟩
end Go.Proofs.YtbfgpkogginmjaaGreatDoor
end
