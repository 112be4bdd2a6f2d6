/- prop.Take. -/
import Derived.Test.YtljbchghbpmghaaGreatDoorS4
namespace Go.Proofs.YtljbchghbpmghaaGreatDoor
open Go.RowKit Go.Lib Go.Proofs.YtljbchghbpmghaaGreatDoorW.PrintWords Go.Proofs.YtljbchghbpmghaaGreatDoor.PSwitchboardGreat
set_option linter.unusedVariables false
set_option linter.unusedSimpArgs false
theorem propsB_snoc1 (L : List PR) (p : PR) : propsB (L ++ [p]) = propsB L ++ putsB p := by
  unfold propsB
  rw [List.flatMap_append]
  simp
theorem putsB_len (p : PR) : (putsB p).length ≤ (varU p.id).length + (valB p.k p.n p.s p.t).length := by
  unfold putsB
  split
  · unfold propB
    rw [List.length_append]
    omega
  · exact Nat.zero_le _
theorem acc_step {L : List PR} {p : PR} {t t1 t2 : ByteArray} {e1 e2 : Int} {n0 gh : Nat} (ha : (propsB L).length + t.size ≤ n0 ∧ t.size ≤ gh + 1) (h1 : Eat t 0 t1 e1 (varU p.id).length) (hv : e2 = 0 → e1 = 0 ∧ (valB p.k p.n p.s p.t).length + t2.size ≤ t1.size) : e2 = 0 → (propsB (L ++ [p])).length + t2.size ≤ n0 ∧ t2.size ≤ gh := by
  intro h
  obtain ⟨h2, h3⟩ := hv h
  obtain ⟨_, h4⟩ := h1 h2
  have h5 := putsB_len p
  have h6 := varU_pos p.id
  rw [propsB_snoc1, List.length_append]
  omega
theorem PO.row {w : World} {B : Nat} {ok : Nat → Prop} {v : Value} {L : List PR} (h : PO w B ok v L) : ∀ k, v.ownBlock = some k → ∃ cs, w.heap[k]? = some (.cells cs 144 (0, 0)) := by
  intro k hk
  obtain ⟨q, hq, cells, hcl⟩ := ((Kd.R_bound h).1 k hk).2.2.2
  have hq2 : q = 144 := by
    have : q ∈ [144] := hq
    simpa using this
  exact ⟨cells, hq2 ▸ hcl⟩
theorem IN.row {w w1 : World} {g B : Nat} {s : ByteArray} {er : Int} {ok : Nat → Prop} {v : Value} {L : List PR} (h : IN w g s er) (hp : PO w B ok v L) (hg : w.grownBy w1 v.ownBlock) : IN w1 g s er := by
  refine h.to (S := fun k => v.ownBlock = some k) (Chg.of_grown hg (fun k hk => hk)) (fun hk => ?_)
  obtain ⟨cs, hc⟩ := hp.row g hk
  unfold IN at h
  rw [h] at hc
  injection hc with hc
  injection hc with _ hc _
  exact absurd hc (by decide)
theorem own_ge {w : World} {B : Nat} {ok : Nat → Prop} {v : Value} {L : List PR} (h : PO w B ok v L) : ∀ k, v.ownBlock = some k → B ≤ k := fun k hk => ((Kd.R_bound h).1 k hk).2.1
theorem PO.read {w : World} {B : Nat} {ok : Nat → Prop} {A : Option Addr} {n c : Nat} {L : List PR} (h : PO w B ok (.slice A n c) L) : PL w A L ∧ L.length ≤ c := by
  obtain ⟨h1, h2, h3⟩ := Kd.R_reads' h
  rw [List.length_map] at h1 h3
  exact ⟨h3, by omega⟩
theorem get_pl (A : Option Addr) (c : Nat) (L : List PR) (a : Int) (w : World) (hr : PL w A L) (hc : L.length ≤ c) (hl : L.length ≤ 140737488355328) : Calls Tryz.prog 66 #[.slice A L.length c, .int .i64 a] w (GetP w) := by
  have h := get_calls A c (L.map PR.m) a w (by rw [List.length_map]; exact hr) (by rw [List.length_map]; exact hc) (by rw [List.length_map]; exact hl)
  rw [List.length_map] at h
  exact h
/-- Properties that were taken. -/
def TakeP (w : World) (g : Nat) (s : ByteArray) (er : Int) (e : Ending) (w' : World) : Prop := ∃ (v : Value) (L : List PR) (s' : ByteArray) (er' : Int), e = .returned v ∧ PO w' w.heap.size (fun _ => True) v L ∧ (∀ p ∈ L, p.Ok) ∧ L.length ≤ 100000 ∧ (propsB L).length ≤ 100000 ∧ IN w' g s' er' ∧ Chg (fun i => i = g) w w' ∧ Eat s er s' er' (putB L).length
theorem take_end {s s2 : ByteArray} {er : Int} {n m : Nat} {L : List PR} (h : Eat s er s2 0 ((varU n).length + m)) (hm : m ≤ n) (hL : (propsB L).length ≤ m) : Eat s er s2 0 (putB L).length := by
  refine h.le ?_
  unfold putB
  rw [List.length_append]
  have := varU_mono (show (propsB L).length ≤ n by omega)
  omega
set_option maxHeartbeats 3000000 in
set_option maxRecDepth 1000000 in
theorem take_calls {w : World} {g : Nat} {s : ByteArray} {er : Int} (h : IN w g s er) (hs : er = 0 → s.size ≤ 100000) (kd : Int) (isW : Bool) : Calls Tryz.prog 51 #[.pointer (some ⟨g, 0, none⟩), .int .i64 kd, .bool isW] w (TakeP w g s er) := by
  have H := Lib.hid h
  have HSS := Lib.hid hs
  clear h hs
  go_enter Tryz.func51, Tryz.ntmps51
  go_upto_region 2 with (first
    | (go_at_call 24; refine (vt_in H.out).mono ?_; rintro e w1 hp; obtain ⟨n, s1, e1, rfl, hn, hi, hc, hE⟩ := hp; have H1 := Lib.hid hi; have C1 := Lib.hid hc; have E1 := Lib.hid hE; clear hi hc hE)
    | (go_at_call 28; refine (rt_in H1.out n).mono ?_; rintro e w2 hp; obtain ⟨b, s2, e2, rfl, hb, hi, hc, hE⟩ := hp; have H2 := Lib.hid hi; have C2 := Lib.hid (C1.out.trans hc); have E2 := Lib.hid (E1.out.trans hE); have HBN := Lib.hid hb; clear hi hc hE hb)
    | (go_at_call 23; refine (over_in b).mono ?_; rintro e w3 ⟨g2, rfl, hi, hg2, hb⟩; have HI := Lib.hid hi; have H3 := Lib.hid (H2.out.below hb); have C3 := Lib.hid (C2.out.below hb); have HN := Lib.hid (show g ≠ g2 by have := H2.out.lt; omega); have HG2 := Lib.hid (show w.heap.size ≤ g2 by have := C2.out.size; omega); clear hi hb hg2))
  clear H H1 C1 E1 H2 C2
  by_cases he2 : e2 = 0
  · obtain rfl := he2
    have HBS := Lib.hid (show b.size ≤ 100000 by have h1 := (E2.out rfl).2; have h2 := HSS.out (E2.out rfl).1; omega)
    go_upto_region 5 with (first | (go_at_call 25; refine (err_same H3.out).mono ?_; rintro e w4 ⟨rfl, rfl⟩))
    go_loopg [8] b.size (fun gh v8 wx => ∃ (L : List PR) (t : ByteArray) (et : Int), Hid (PO wx w.heap.size (fun _ => True) v8 L) ∧ Hid (∀ p ∈ L, p.Ok) ∧ Hid (L.length + gh ≤ b.size) ∧ Hid (IN wx g2 t et) ∧ Hid (IN wx g s2 0) ∧ Hid (Chg (fun i => i = g) w wx) ∧ Hid (et = 0 → (propsB L).length + t.size ≤ b.size ∧ t.size ≤ gh))
    case atStart => exact ⟨[], b, 0, Lib.hid (PO.nil _ _ _), Lib.hid (fun p hp => by cases hp), Lib.hid (by show 0 + b.size ≤ b.size; omega), HI, H3, C3, Lib.hid (fun _ => ⟨by show 0 + b.size ≤ b.size; omega, Nat.le_refl _⟩)⟩
    case round =>
      obtain ⟨L, t, et, HO, HOK, HLN, HT, HS, HC, HA⟩ := hrel
      obtain ⟨A8, c8, rfl, hc8, hPL⟩ := HO.out.form
      have HPL := Lib.hid hPL
      have HC8 := Lib.hid hc8
      clear hPL hc8 HI H3 C3
      by_cases hgo : 0 < t.size ∧ et = 0
      · obtain ⟨ht, rfl⟩ := hgo
        cases gk with
        | zero => exact absurd (HA.out rfl).2 (by omega)
        | succ g1 =>
          have HA0 := Lib.hid (show (propsB L).length + t.size ≤ b.size ∧ t.size ≤ g1 + 1 from HA.out rfl)
          clear HA
          go_upto_region 12 with (first
            | (go_at_call 27; refine (left_same HT.out).mono ?_; rintro e w4 ⟨rfl, rfl⟩)
            | (go_at_call 25; refine (err_same HT.out).mono ?_; rintro e w4 ⟨rfl, rfl⟩)
            | (go_at_call 24; refine (vt_in HT.out).mono ?_; rintro e w1 hp; obtain ⟨id, t1, e1, rfl, hid, hi, hc, hE⟩ := hp; have HID := Lib.hid hid; have HE1 := Lib.hid hE; have HO1a := Lib.hid ((HO.out.to hc (fun k hk => .inr ⟨_, _, hk ▸ HT.out, by decide⟩)).lim); have HS1a := Lib.hid (HS.out.to hc HN.out); have HC1a := Lib.hid (HC.out.then_ hc (fun i hi => .inr (hi ▸ HG2.out))); have HT1 := Lib.hid (hi.below ((Below.refl w1.heap.size w1).alloc (Nat.le_refl _) (.cells #[.int .i64 (id : Nat), .int .u32 0, .string ⟨#[]⟩, .string ⟨#[]⟩] 144))); have HS1 := Lib.hid (HS1a.out.below ((Below.refl w1.heap.size w1).alloc (Nat.le_refl _) (.cells #[.int .i64 (id : Nat), .int .u32 0, .string ⟨#[]⟩, .string ⟨#[]⟩] 144))); have HO1 := Lib.hid ((HO1a.out.below ((Below.refl w1.heap.size w1).alloc (Nat.le_refl _) (.cells #[.int .i64 (id : Nat), .int .u32 0, .string ⟨#[]⟩, .string ⟨#[]⟩] 144))).mono (ok' := fun k => k < w1.heap.size) (fun k hk => hk.2)); have HP1 := Lib.hid (heap_alloc_new w1 (.cells #[.int .i64 (id : Nat), .int .u32 0, .string ⟨#[]⟩, .string ⟨#[]⟩] 144)); have HC1 := Lib.hid (HC1a.out.alloc (.cells #[.int .i64 (id : Nat), .int .u32 0, .string ⟨#[]⟩, .string ⟨#[]⟩] 144)); have HBP := Lib.hid (show w1.heap.size ≠ g2 ∧ w1.heap.size ≠ g ∧ w.heap.size ≤ w1.heap.size by have h1 := hi.lt; have h2 := HS1a.out.lt; have h3 := HC1a.out.size; omega); clear hi hc hE HO1a HS1a HC1a)
            | (go_at_call 32; (with_reducible refine (of_calls ((id : Nat) : Int) _).mono ?_); rintro e w2 ⟨rfl, hb⟩; have HT2 := Lib.hid (HT1.out.below hb); have HS2 := Lib.hid (HS1.out.below hb); have HO2 := Lib.hid (HO1.out.below hb); have HP2 := Lib.hid (blk_below HP1.out hb); have HC2 := Lib.hid (HC1.out.below hb); clear hb))
          obtain ⟨hk1, hk7⟩ := kind_int ((id : Nat) : Int)
          have HKD := Lib.hid (show PR.k ⟨id, 0, ⟨#[]⟩, ⟨#[]⟩⟩ = kindOf ((id : Nat) : Int) from rfl)
          rw [hk1]
          clear hk1
          obtain ⟨x1, hx1⟩ : ∃ x, (ruleOf ((id : Nat) : Int)).2.1 = x := ⟨_, rfl⟩
          obtain ⟨x2, hx2⟩ : ∃ x, (ruleOf ((id : Nat) : Int)).2.2.1 = x := ⟨_, rfl⟩
          obtain ⟨x3, hx3⟩ : ∃ x, (ruleOf ((id : Nat) : Int)).2.2.2.1 = x := ⟨_, rfl⟩
          obtain ⟨x4, hx4⟩ : ∃ x, (ruleOf ((id : Nat) : Int)).2.2.2.2 = x := ⟨_, rfl⟩
          rw [hx1, hx2, hx3, hx4]
          clear hx1 hx2 hx3 hx4
          generalize kindOf ((id : Nat) : Int) = kk at HKD hk7 ⊢
          have hbx := (Below.refl w2.heap.size w2).alloc (Nat.le_refl _) (.cells #[.int .i64 (kk : Nat), .int .i64 x1, .int .u32 x2, .int .u32 x3, .int .i64 x4] 77)
          have HT3 := Lib.hid (HT2.out.below hbx)
          have HS3 := Lib.hid (HS2.out.below hbx)
          have HO3 := Lib.hid (HO2.out.below hbx)
          have HP3 := Lib.hid (blk_below HP2.out hbx)
          have HC3 := Lib.hid (HC2.out.below hbx)
          have HX3 := Lib.hid (heap_alloc_new w2 (.cells #[.int .i64 (kk : Nat), .int .i64 x1, .int .u32 x2, .int .u32 x3, .int .i64 x4] 77))
          have HBX := Lib.hid (show w2.heap.size ≠ g2 ∧ w2.heap.size ≠ g ∧ w2.heap.size ≠ w1.heap.size by have h1 := HT2.out.lt; have h2 := HS2.out.lt; have h3 := blk_lt HP2.out; omega)
          clear hbx HT1 HT2 HS1 HS2 HO1 HO2 HP1 HP2 HC1 HC2 HT HS HO HC HPL HC8
          generalize (w2.alloc (.cells #[.int .i64 (kk : Nat), .int .i64 x1, .int .u32 x2, .int .u32 x3, .int .i64 x4] 77)) = W3 at HT3 HS3 HO3 HP3 HC3 HX3 ⊢
          obtain ⟨xa0, xa1, xa2, xa3, xa4⟩ := rcell HX3.out
          obtain ⟨pa0, pa1, pa2, pa3⟩ := bxcell HP3.out
          by_cases he1 : e1 = 0
          · obtain rfl := he1
            go_upto_region 13 with (first | (go_at_call 25; refine (err_same HT3.out).mono ?_; rintro e w4 ⟨rfl, rfl⟩))
            have hbd : Below w4.heap.size w4 w4.drew := ⟨rfl, rfl, rfl, Nat.le_refl _, fun _ _ => rfl⟩
            have HT4 := Lib.hid (HT3.out.below hbd)
            have HS4 := Lib.hid (HS3.out.below hbd)
            have HO4 := Lib.hid (HO3.out.below hbd)
            have HP4 := Lib.hid (blk_below HP3.out hbd)
            have HC4 := Lib.hid (HC3.out.below hbd)
            have HX4 := Lib.hid (blk_below HX3.out hbd)
            clear hbd HT3 HS3 HO3 HP3 HC3 HX3 pa0 pa1 pa2 pa3
            go_region_held3 (fun w' => w'.cell? ⟨w2.heap.size, 1, none⟩ = some (.int .i64 x1)) (first | exact xa1 | exact xb1 | go_keep) (first
              | (go_at_call 65; (with_reducible refine (set_calls kd isW _).mono ?_); rintro e w5 hp; obtain ⟨v, rfl, hb⟩ := hp; have HT5 := Lib.hid (HT4.out.below hb); have HS5 := Lib.hid (HS4.out.below hb); have HO5 := Lib.hid (HO4.out.below hb); have HP5 := Lib.hid (blk_below HP4.out hb); have HC5 := Lib.hid (HC4.out.below hb); have HX5 := Lib.hid (blk_below HX4.out hb); obtain ⟨xb0, xb1, xb2, xb3, xb4⟩ := rcell HX5.out; obtain ⟨pb0, pb1, pb2, pb3⟩ := bxcell HP5.out; clear hb))
            clear xa0 xa1 xa2 xa3 xa4 HT4 HS4 HO4 HP4 HC4 HX4
            by_cases hz : Go.bits .and .i64 x1 v = 0
            · have hzq : (Go.bits .and .i64 x1 v == 0) = true := beq_iff_eq.2 hz
              clear hz
              go_upto_region 15 with (first
                | (go_at_call 43; refine (fail_in HT5.out 2).mono ?_; rintro e w6 ⟨rfl, hi, hc⟩; have HT6 := Lib.hid hi; have HS6 := Lib.hid (HS5.out.to hc HN.out); have HO6 := Lib.hid (HO5.out.to hc (fun k hk => .inr ⟨_, _, hk ▸ HT5.out, by decide⟩)); have HP6 := Lib.hid (Chg.blk hc HP5.out HBP.out.1); have HC6 := Lib.hid (HC5.out.then_ hc (fun i hi => .inr (hi ▸ HG2.out))); have HX6 := Lib.hid (Chg.blk hc HX5.out HBX.out.1); obtain ⟨pc0, pc1, pc2, pc3⟩ := bxcell HP6.out; clear hi hc))
              obtain ⟨A9, c9, hv9, hc9, _⟩ := HO6.out.form
              have HO9 := Lib.hid (HO6.out.mono (ok' := fun _ => True) (fun _ _ => trivial))
              have HW9 := Lib.hid HC6.out.size
              clear hv9 hc9
              have HLL := Lib.hid (show ((L.map PR.m).length + 1) * 48 ≤ 140737488355328 by rw [List.length_map]; have h1 := HLN.out; have h2 := HBS.out; omega)
              go_wp2_with ((with_reducible refine gate_builtin (b := .append) (xs := #[.tmp 74, .tmp 76]) rfl ?_); at_builtin; refine Kd.R_append k144 (w0 := _) w.heap.size rfl (.tmp 74) (.tmp 76) 45 144 (.agg #[.int .i64 0, .int .u32 0, .string ⟨#[]⟩, .string ⟨#[]⟩]) 48 rfl Tryz.underlying45 info144 rfl (by decide) (by decide) _ (L.map PR.m) (PR.m ⟨id, 0, ⟨#[]⟩, ⟨#[]⟩⟩) [.int .i64 (id : Nat), .int .u32 (0 : Nat), .string ⟨#[]⟩, .string ⟨#[]⟩] (fun _ => True) (fun _ => False) rfl rfl (k144_mkM _ _ _ (PR.m ⟨id, 0, ⟨#[]⟩, ⟨#[]⟩⟩)) (fun _ h => h.elim) (fun _ _ => trivial) HO9.out (Below.refl _ _) HW9.out HLL.out ?_; intro v1 w9 hr hb hg hat; have HR9 := Lib.hid hr; have HT9 := Lib.hid (HT6.out.row HO9.out hg); have HS9 := Lib.hid (HS6.out.row HO9.out hg); have HC9 := Lib.hid (HC6.out.then_ (Chg.of_grown (S := fun k => w.heap.size ≤ k) hg (fun k hk => own_ge HO9.out k hk)) (fun i hi => .inr hi)); clear hr hb hg hat)
              go_roundg g1
              case measure => omega
              case rel => exact ⟨L ++ [⟨id, 0, ⟨#[]⟩, ⟨#[]⟩⟩], t1, _, Lib.hid (show PO _ _ _ _ _ by unfold PO; rw [List.map_append]; exact HR9.out), Lib.hid (fun p hp => (List.mem_append.1 hp).elim (HOK.out p) (fun h => by obtain rfl := List.mem_singleton.1 h; exact ⟨HID.out, by show 0 ≤ 4294967295; omega, fun _ => (by show 0 ≤ 268435455; omega), Nat.zero_le _, Nat.zero_le _⟩)), Lib.hid (by rw [List.length_append]; show L.length + 1 + g1 ≤ b.size; have := HLN.out; omega), HT9, HS9, HC9, Lib.hid (acc_step (p := ⟨id, 0, ⟨#[]⟩, ⟨#[]⟩⟩) HA0.out HE1.out (fun h => absurd h (by simp)))⟩
            · have hzq : (Go.bits .and .i64 x1 v == 0) = false := beq_eq_false_iff_ne.2 hz
              clear hz
              obtain ⟨hpl, hcl⟩ := HO5.out.read
              have HPL := Lib.hid hpl
              have HCL := Lib.hid hcl
              have HLB := Lib.hid (show L.length ≤ 140737488355328 by have h1 := HLN.out; have h2 := HBS.out; omega)
              clear hpl hcl
              go_upto_region 9 with (first
                | (go_at_call 66; refine (get_pl A8 c8 L (id : Nat) _ HPL.out HCL.out HLB.out).mono ?_; rintro e w6 hp; obtain ⟨ga, gb, gs, gt, gq, rfl, hb⟩ := hp; have HT6 := Lib.hid (HT5.out.below hb); have HS6 := Lib.hid (HS5.out.below hb); have HO6 := Lib.hid (HO5.out.below hb); have HP6 := Lib.hid (blk_below HP5.out hb); have HC6 := Lib.hid (HC5.out.below hb); have HX6 := Lib.hid (blk_below HX5.out hb); have hb7 := (Below.refl w6.heap.size w6).alloc (Nat.le_refl _) (.cells #[.int .i64 ga, .int .u32 gb, .string gs, .string gt] 144); have HT7 := Lib.hid (HT6.out.below hb7); have HS7 := Lib.hid (HS6.out.below hb7); have HO7 := Lib.hid (HO6.out.below hb7); have HP7 := Lib.hid (blk_below HP6.out hb7); have HC7 := Lib.hid (HC6.out.below hb7); have HX7 := Lib.hid (blk_below HX6.out hb7); obtain ⟨pc0, pc1, pc2, pc3⟩ := bxcell HP7.out; obtain ⟨xc0, xc1, xc2, xc3, xc4⟩ := rcell HX7.out; clear hb hb7))
              clear xb0 xb1 xb2 xb3 xb4 pb0 pb1 pb2 pb3 HT5 HS5 HO5 HP5 HC5 HX5 HT6 HS6 HO6 HP6 HC6 HX6
              generalize (w6.alloc (.cells #[.int .i64 ga, .int .u32 gb, .string gs, .string gt] 144)) = W7 at HT7 HS7 HO7 HP7 HC7 HX7 pc0 pc1 pc2 pc3 xc0 xc1 xc2 xc3 xc4 ⊢
              cases gq with
              | false =>
                go_quiet (fail)
                rename_i nq
                have hb8 : Below W7.heap.size W7 (W7.drewN nq) := ⟨rfl, rfl, rfl, Nat.le_refl _, fun _ _ => rfl⟩
                have HT8 := Lib.hid (HT7.out.below hb8)
                have HS8 := Lib.hid (HS7.out.below hb8)
                have HO8 := Lib.hid (HO7.out.below hb8)
                have HP8 := Lib.hid (blk_below HP7.out hb8)
                have HC8 := Lib.hid (HC7.out.below hb8)
                have HX8 := Lib.hid (blk_below HX7.out hb8)
                clear hb8 HT7 HS7 HO7 HP7 HC7 HX7
                go_upto_region 15 with (first | (go_at_call 67; (with_reducible refine (value_calls HT8.out HP8.out kk hk7 x1 x2 x3 x4).mono ?_); rintro e w12 hp; obtain ⟨nn, aa, bb, t2, e2, rfl, hpb, hi, hc, hE, hn, h4, ha, hbb⟩ := hp; have HT12 := Lib.hid hi; have HS12 := Lib.hid (HS8.out.to hc (fun h => h.elim HN.out (fun h => HBP.out.2.1 h.symm))); have HO12 := Lib.hid (HO8.out.to hc (fun k hk => hk.elim (fun h => .inr ⟨_, _, h ▸ HT8.out, by decide⟩) (fun h => .inl (by rw [h]; exact Nat.lt_irrefl _)))); have HP12 := Lib.hid hpb; have HC12 := Lib.hid (HC8.out.then_ hc (fun i hi => .inr (hi.elim (fun h => h ▸ HG2.out) (fun h => h ▸ HBP.out.2.2)))); have HE2 := Lib.hid hE; have HV := Lib.hid (show nn ≤ 4294967295 ∧ (kk = 4 → nn ≤ 268435455) ∧ aa.size ≤ 65535 ∧ bb.size ≤ 65535 from ⟨hn, h4, ha, hbb⟩); obtain ⟨pd0, pd1, pd2, pd3⟩ := bxcell hpb; clear hpb hi hc hE hn h4 ha hbb))
                obtain ⟨A9, c9, hv9, hc9, _⟩ := HO12.out.form
                have HO9 := Lib.hid (HO12.out.mono (ok' := fun _ => True) (fun _ _ => trivial))
                have HW9 := Lib.hid HC12.out.size
                clear hv9 hc9
                have HLL := Lib.hid (show ((L.map PR.m).length + 1) * 48 ≤ 140737488355328 by rw [List.length_map]; have h1 := HLN.out; have h2 := HBS.out; omega)
                go_wp2_with ((with_reducible refine gate_builtin (b := .append) (xs := #[.tmp 74, .tmp 76]) rfl ?_); at_builtin; refine Kd.R_append k144 (w0 := _) w.heap.size rfl (.tmp 74) (.tmp 76) 45 144 (.agg #[.int .i64 0, .int .u32 0, .string ⟨#[]⟩, .string ⟨#[]⟩]) 48 rfl Tryz.underlying45 info144 rfl (by decide) (by decide) _ (L.map PR.m) (PR.m ⟨id, nn, aa, bb⟩) [.int .i64 (id : Nat), .int .u32 (nn : Nat), .string aa, .string bb] (fun _ => True) (fun _ => False) rfl rfl (k144_mkM _ _ _ (PR.m ⟨id, nn, aa, bb⟩)) (fun _ h => h.elim) (fun _ _ => trivial) HO9.out (Below.refl _ _) HW9.out HLL.out ?_; intro v1 w9 hr hb hg hat; have HR9 := Lib.hid hr; have HT9 := Lib.hid (HT12.out.row HO9.out hg); have HS9 := Lib.hid (HS12.out.row HO9.out hg); have HC9 := Lib.hid (HC12.out.then_ (Chg.of_grown (S := fun k => w.heap.size ≤ k) hg (fun k hk => own_ge HO9.out k hk)) (fun i hi => .inr hi)); clear hr hb hg hat)
                go_roundg g1
                case measure => omega
                case rel => exact ⟨L ++ [⟨id, nn, aa, bb⟩], t2, e2, Lib.hid (show PO _ _ _ _ _ by unfold PO; rw [List.map_append]; exact HR9.out), Lib.hid (fun p hp => (List.mem_append.1 hp).elim (HOK.out p) (fun h => by obtain rfl := List.mem_singleton.1 h; exact ⟨HID.out, HV.out.1, fun h => HV.out.2.1 (HKD.out ▸ h), HV.out.2.2.1, HV.out.2.2.2⟩)), Lib.hid (by rw [List.length_append]; show L.length + 1 + g1 ≤ b.size; have := HLN.out; omega), HT9, HS9, HC9, Lib.hid (acc_step (p := ⟨id, nn, aa, bb⟩) HA0.out HE1.out (fun h => ⟨rfl, by have h3 := (HE2.out h).2; rw [show PR.k ⟨id, nn, aa, bb⟩ = kk from HKD.out]; exact h3⟩))⟩
              | true =>
                have hb8 : Below W7.heap.size W7 W7.drew := ⟨rfl, rfl, rfl, Nat.le_refl _, fun _ _ => rfl⟩
                have HT8 := Lib.hid (HT7.out.below hb8)
                have HS8 := Lib.hid (HS7.out.below hb8)
                have HO8 := Lib.hid (HO7.out.below hb8)
                have HP8 := Lib.hid (blk_below HP7.out hb8)
                have HC8 := Lib.hid (HC7.out.below hb8)
                have HX8 := Lib.hid (blk_below HX7.out hb8)
                clear hb8 HT7 HS7 HO7 HP7 HC7 HX7
                go_region_held3 (fun w' => w'.cell? ⟨w2.heap.size, 4, none⟩ = some (.int .i64 x4)) (first | exact xc4 | exact xe4 | go_keep) (first
                  | (go_at_call 65; (with_reducible refine (set_calls kd isW _).mono ?_); rintro e w9 hp; obtain ⟨v2, rfl, hb⟩ := hp; have HT9 := Lib.hid (HT8.out.below hb); have HS9 := Lib.hid (HS8.out.below hb); have HO9 := Lib.hid (HO8.out.below hb); have HP9 := Lib.hid (blk_below HP8.out hb); have HC9 := Lib.hid (HC8.out.below hb); have HX9 := Lib.hid (blk_below HX8.out hb); obtain ⟨xe0, xe1, xe2, xe3, xe4⟩ := rcell HX9.out; obtain ⟨pe0, pe1, pe2, pe3⟩ := bxcell HP9.out; clear hb))
                clear xc0 xc1 xc2 xc3 xc4 pc0 pc1 pc2 pc3 HT8 HS8 HO8 HP8 HC8 HX8
                by_cases hy : Go.bits .and .i64 x4 v2 = 0
                · have hyq : (Go.bits .and .i64 x4 v2 == 0) = true := beq_iff_eq.2 hy
                  clear hy
                  go_upto_region 15 with (first | (go_at_call 43; refine (fail_in HT9.out 3).mono ?_; rintro e w10 ⟨rfl, hi, hc⟩; have HT10 := Lib.hid hi; have HS10 := Lib.hid (HS9.out.to hc HN.out); have HO10 := Lib.hid (HO9.out.to hc (fun k hk => .inr ⟨_, _, hk ▸ HT9.out, by decide⟩)); have HP10 := Lib.hid (Chg.blk hc HP9.out HBP.out.1); have HC10 := Lib.hid (HC9.out.then_ hc (fun i hi => .inr (hi ▸ HG2.out))); have HX10 := Lib.hid (Chg.blk hc HX9.out HBX.out.1); obtain ⟨pf0, pf1, pf2, pf3⟩ := bxcell HP10.out; obtain ⟨xf0, xf1, xf2, xf3, xf4⟩ := rcell HX10.out; clear hi hc) | (go_at_call 67; (with_reducible refine (value_calls HT10.out HP10.out kk hk7 x1 x2 x3 x4).mono ?_); rintro e w12 hp; obtain ⟨nn, aa, bb, t2, e2, rfl, hpb, hi, hc, hE, hn, h4, ha, hbb⟩ := hp; have HT12 := Lib.hid hi; have HS12 := Lib.hid (HS10.out.to hc (fun h => h.elim HN.out (fun h => HBP.out.2.1 h.symm))); have HO12 := Lib.hid (HO10.out.to hc (fun k hk => hk.elim (fun h => .inr ⟨_, _, h ▸ HT10.out, by decide⟩) (fun h => .inl (by rw [h]; exact Nat.lt_irrefl _)))); have HP12 := Lib.hid hpb; have HC12 := Lib.hid (HC10.out.then_ hc (fun i hi => .inr (hi.elim (fun h => h ▸ HG2.out) (fun h => h ▸ HBP.out.2.2)))); have HE2 := Lib.hid hE; have HV := Lib.hid (show nn ≤ 4294967295 ∧ (kk = 4 → nn ≤ 268435455) ∧ aa.size ≤ 65535 ∧ bb.size ≤ 65535 from ⟨hn, h4, ha, hbb⟩); obtain ⟨pd0, pd1, pd2, pd3⟩ := bxcell hpb; clear hpb hi hc hE hn h4 ha hbb))
                  obtain ⟨A9, c9, hv9, hc9, _⟩ := HO12.out.form
                  have HO9 := Lib.hid (HO12.out.mono (ok' := fun _ => True) (fun _ _ => trivial))
                  have HW9 := Lib.hid HC12.out.size
                  clear hv9 hc9
                  have HLL := Lib.hid (show ((L.map PR.m).length + 1) * 48 ≤ 140737488355328 by rw [List.length_map]; have h1 := HLN.out; have h2 := HBS.out; omega)
                  go_wp2_with ((with_reducible refine gate_builtin (b := .append) (xs := #[.tmp 74, .tmp 76]) rfl ?_); at_builtin; refine Kd.R_append k144 (w0 := _) w.heap.size rfl (.tmp 74) (.tmp 76) 45 144 (.agg #[.int .i64 0, .int .u32 0, .string ⟨#[]⟩, .string ⟨#[]⟩]) 48 rfl Tryz.underlying45 info144 rfl (by decide) (by decide) _ (L.map PR.m) (PR.m ⟨id, nn, aa, bb⟩) [.int .i64 (id : Nat), .int .u32 (nn : Nat), .string aa, .string bb] (fun _ => True) (fun _ => False) rfl rfl (k144_mkM _ _ _ (PR.m ⟨id, nn, aa, bb⟩)) (fun _ h => h.elim) (fun _ _ => trivial) HO9.out (Below.refl _ _) HW9.out HLL.out ?_; intro v1 w9 hr hb hg hat; have HR9 := Lib.hid hr; have HT9 := Lib.hid (HT12.out.row HO9.out hg); have HS9 := Lib.hid (HS12.out.row HO9.out hg); have HC9 := Lib.hid (HC12.out.then_ (Chg.of_grown (S := fun k => w.heap.size ≤ k) hg (fun k hk => own_ge HO9.out k hk)) (fun i hi => .inr hi)); clear hr hb hg hat)
                  go_roundg g1
                  case measure => omega
                  case rel => exact ⟨L ++ [⟨id, nn, aa, bb⟩], t2, e2, Lib.hid (show PO _ _ _ _ _ by unfold PO; rw [List.map_append]; exact HR9.out), Lib.hid (fun p hp => (List.mem_append.1 hp).elim (HOK.out p) (fun h => by obtain rfl := List.mem_singleton.1 h; exact ⟨HID.out, HV.out.1, fun h => HV.out.2.1 (HKD.out ▸ h), HV.out.2.2.1, HV.out.2.2.2⟩)), Lib.hid (by rw [List.length_append]; show L.length + 1 + g1 ≤ b.size; have := HLN.out; omega), HT9, HS9, HC9, Lib.hid (acc_step (p := ⟨id, nn, aa, bb⟩) HA0.out HE1.out (fun h => absurd (HE2.out h).1 (by simp)))⟩
                · have hyq : (Go.bits .and .i64 x4 v2 == 0) = false := beq_eq_false_iff_ne.2 hy
                  clear hy
                  go_upto_region 15 with (first | (go_at_call 67; (with_reducible refine (value_calls HT9.out HP9.out kk hk7 x1 x2 x3 x4).mono ?_); rintro e w12 hp; obtain ⟨nn, aa, bb, t2, e2, rfl, hpb, hi, hc, hE, hn, h4, ha, hbb⟩ := hp; have HT12 := Lib.hid hi; have HS12 := Lib.hid (HS9.out.to hc (fun h => h.elim HN.out (fun h => HBP.out.2.1 h.symm))); have HO12 := Lib.hid (HO9.out.to hc (fun k hk => hk.elim (fun h => .inr ⟨_, _, h ▸ HT9.out, by decide⟩) (fun h => .inl (by rw [h]; exact Nat.lt_irrefl _)))); have HP12 := Lib.hid hpb; have HC12 := Lib.hid (HC9.out.then_ hc (fun i hi => .inr (hi.elim (fun h => h ▸ HG2.out) (fun h => h ▸ HBP.out.2.2)))); have HE2 := Lib.hid hE; have HV := Lib.hid (show nn ≤ 4294967295 ∧ (kk = 4 → nn ≤ 268435455) ∧ aa.size ≤ 65535 ∧ bb.size ≤ 65535 from ⟨hn, h4, ha, hbb⟩); obtain ⟨pd0, pd1, pd2, pd3⟩ := bxcell hpb; clear hpb hi hc hE hn h4 ha hbb))
                  obtain ⟨A9, c9, hv9, hc9, _⟩ := HO12.out.form
                  have HO9 := Lib.hid (HO12.out.mono (ok' := fun _ => True) (fun _ _ => trivial))
                  have HW9 := Lib.hid HC12.out.size
                  clear hv9 hc9
                  have HLL := Lib.hid (show ((L.map PR.m).length + 1) * 48 ≤ 140737488355328 by rw [List.length_map]; have h1 := HLN.out; have h2 := HBS.out; omega)
                  go_wp2_with ((with_reducible refine gate_builtin (b := .append) (xs := #[.tmp 74, .tmp 76]) rfl ?_); at_builtin; refine Kd.R_append k144 (w0 := _) w.heap.size rfl (.tmp 74) (.tmp 76) 45 144 (.agg #[.int .i64 0, .int .u32 0, .string ⟨#[]⟩, .string ⟨#[]⟩]) 48 rfl Tryz.underlying45 info144 rfl (by decide) (by decide) _ (L.map PR.m) (PR.m ⟨id, nn, aa, bb⟩) [.int .i64 (id : Nat), .int .u32 (nn : Nat), .string aa, .string bb] (fun _ => True) (fun _ => False) rfl rfl (k144_mkM _ _ _ (PR.m ⟨id, nn, aa, bb⟩)) (fun _ h => h.elim) (fun _ _ => trivial) HO9.out (Below.refl _ _) HW9.out HLL.out ?_; intro v1 w9 hr hb hg hat; have HR9 := Lib.hid hr; have HT9 := Lib.hid (HT12.out.row HO9.out hg); have HS9 := Lib.hid (HS12.out.row HO9.out hg); have HC9 := Lib.hid (HC12.out.then_ (Chg.of_grown (S := fun k => w.heap.size ≤ k) hg (fun k hk => own_ge HO9.out k hk)) (fun i hi => .inr hi)); clear hr hb hg hat)
                  go_roundg g1
                  case measure => omega
                  case rel => exact ⟨L ++ [⟨id, nn, aa, bb⟩], t2, e2, Lib.hid (show PO _ _ _ _ _ by unfold PO; rw [List.map_append]; exact HR9.out), Lib.hid (fun p hp => (List.mem_append.1 hp).elim (HOK.out p) (fun h => by obtain rfl := List.mem_singleton.1 h; exact ⟨HID.out, HV.out.1, fun h => HV.out.2.1 (HKD.out ▸ h), HV.out.2.2.1, HV.out.2.2.2⟩)), Lib.hid (by rw [List.length_append]; show L.length + 1 + g1 ≤ b.size; have := HLN.out; omega), HT9, HS9, HC9, Lib.hid (acc_step (p := ⟨id, nn, aa, bb⟩) HA0.out HE1.out (fun h => ⟨rfl, by have h3 := (HE2.out h).2; rw [show PR.k ⟨id, nn, aa, bb⟩ = kk from HKD.out]; exact h3⟩))⟩
          · have hq1 : (e1 != 0) = true := by simpa [bne_iff_ne] using he1
            have HNE := Lib.hid he1
            clear he1
            obtain ⟨A9, c9, hv9, hc9, _⟩ := HO3.out.form
            have HO9 := Lib.hid (HO3.out.mono (ok' := fun _ => True) (fun _ _ => trivial))
            have HW9 := Lib.hid HC3.out.size
            clear hv9 hc9
            have HLL := Lib.hid (show ((L.map PR.m).length + 1) * 48 ≤ 140737488355328 by rw [List.length_map]; have h1 := HLN.out; have h2 := HBS.out; omega)
            go_wp2_with (first
              | (go_at_call 25; refine (err_same HT3.out).mono ?_; rintro e w4 ⟨rfl, rfl⟩)
              | ((with_reducible refine gate_builtin (b := .append) (xs := #[.tmp 74, .tmp 76]) rfl ?_); at_builtin; refine Kd.R_append k144 (w0 := _) w.heap.size rfl (.tmp 74) (.tmp 76) 45 144 (.agg #[.int .i64 0, .int .u32 0, .string ⟨#[]⟩, .string ⟨#[]⟩]) 48 rfl Tryz.underlying45 info144 rfl (by decide) (by decide) _ (L.map PR.m) (PR.m ⟨id, 0, ⟨#[]⟩, ⟨#[]⟩⟩) [.int .i64 (id : Nat), .int .u32 (0 : Nat), .string ⟨#[]⟩, .string ⟨#[]⟩] (fun _ => True) (fun _ => False) rfl rfl (k144_mkM _ _ _ (PR.m ⟨id, 0, ⟨#[]⟩, ⟨#[]⟩⟩)) (fun _ h => h.elim) (fun _ _ => trivial) HO9.out (Below.refl _ _) HW9.out HLL.out ?_; intro v1 w9 hr hb hg hat; have HR9 := Lib.hid hr; have HT9 := Lib.hid (HT3.out.row HO9.out hg); have HS9 := Lib.hid (HS3.out.row HO9.out hg); have HC9 := Lib.hid (HC3.out.then_ (Chg.of_grown (S := fun k => w.heap.size ≤ k) hg (fun k hk => own_ge HO9.out k hk)) (fun i hi => .inr hi)); clear hr hb hg hat))
            go_roundg g1
            case measure => omega
            case rel => exact ⟨L ++ [⟨id, 0, ⟨#[]⟩, ⟨#[]⟩⟩], t1, e1, Lib.hid (show PO _ _ _ _ _ by unfold PO; rw [List.map_append]; exact HR9.out), Lib.hid (fun p hp => (List.mem_append.1 hp).elim (HOK.out p) (fun h => by obtain rfl := List.mem_singleton.1 h; exact ⟨HID.out, by show 0 ≤ 4294967295; omega, fun _ => (by show 0 ≤ 268435455; omega), Nat.zero_le _, Nat.zero_le _⟩)), Lib.hid (by rw [List.length_append]; show L.length + 1 + g1 ≤ b.size; have := HLN.out; omega), HT9, HS9, HC9, Lib.hid (acc_step (p := ⟨id, 0, ⟨#[]⟩, ⟨#[]⟩⟩) HA0.out HE1.out (fun h => absurd h HNE.out))⟩
      · have hcase : (¬ 0 < t.size ∧ et = 0) ∨ (¬ 0 < t.size ∧ et = 1) ∨ (¬ 0 < t.size ∧ et ≠ 0 ∧ et ≠ 1) ∨ (0 < t.size ∧ et = 1) ∨ (0 < t.size ∧ et ≠ 0 ∧ et ≠ 1) := by
          omega
        have HNOT := Lib.hid hgo
        clear hgo
        rcases hcase with ⟨h1, rfl⟩ | ⟨h1, rfl⟩ | ⟨h1, h2, h3⟩ | ⟨h1, rfl⟩ | ⟨h1, h2, h3⟩
        · have HA0 := Lib.hid (HA.out rfl)
          go_wp2_with (first | (go_at_call 27; refine (left_same HT.out).mono ?_; rintro e w4 ⟨rfl, rfl⟩) | (go_at_call 25; refine (err_same HT.out).mono ?_; rintro e w4 ⟨rfl, rfl⟩))
          go_ret
          exact ⟨_, L, s2, 0, rfl, HO.out, HOK.out, by have := HLN.out; have := HBS.out; omega, by have := HA0.out.1; have := HBS.out; omega, HS.out, HC.out, take_end E2.out HBN.out (by have := HA0.out.1; omega)⟩
        · go_wp2_with (first | (go_at_call 27; refine (left_same HT.out).mono ?_; rintro e w4 ⟨rfl, rfl⟩) | (go_at_call 25; refine (err_same HT.out).mono ?_; rintro e w4 ⟨rfl, rfl⟩) | (go_at_call 43; refine (fail_in HS.out 2).mono ?_; rintro e w5 ⟨rfl, hi, hc⟩; have HS2 := Lib.hid hi; have HC2 := Lib.hid (HC.out.trans hc); clear hi hc))
          go_ret
          exact ⟨_, [], s2, _, rfl, PO.nil _ _ _, fun p hp => (by cases hp), Nat.zero_le _, Nat.zero_le _, HS2.out, HC2.out, Eat.bad (by simp)⟩
        · have q1 : (et == 0) = false := beq_eq_false_iff_ne.2 h2
          have q2 : (et == 1) = false := beq_eq_false_iff_ne.2 h3
          go_wp2_with (first | (go_at_call 27; refine (left_same HT.out).mono ?_; rintro e w4 ⟨rfl, rfl⟩) | (go_at_call 25; refine (err_same HT.out).mono ?_; rintro e w4 ⟨rfl, rfl⟩) | (go_at_call 43; refine (fail_in HS.out et).mono ?_; rintro e w5 ⟨rfl, hi, hc⟩; have HS2 := Lib.hid hi; have HC2 := Lib.hid (HC.out.trans hc); clear hi hc))
          go_ret
          exact ⟨_, [], s2, _, rfl, PO.nil _ _ _, fun p hp => (by cases hp), Nat.zero_le _, Nat.zero_le _, HS2.out, HC2.out, Eat.bad (by simpa using h2)⟩
        · go_wp2_with (first | (go_at_call 27; refine (left_same HT.out).mono ?_; rintro e w4 ⟨rfl, rfl⟩) | (go_at_call 25; refine (err_same HT.out).mono ?_; rintro e w4 ⟨rfl, rfl⟩) | (go_at_call 43; refine (fail_in HS.out 2).mono ?_; rintro e w5 ⟨rfl, hi, hc⟩; have HS2 := Lib.hid hi; have HC2 := Lib.hid (HC.out.trans hc); clear hi hc))
          go_ret
          exact ⟨_, [], s2, _, rfl, PO.nil _ _ _, fun p hp => (by cases hp), Nat.zero_le _, Nat.zero_le _, HS2.out, HC2.out, Eat.bad (by simp)⟩
        · have q1 : (et == 0) = false := beq_eq_false_iff_ne.2 h2
          have q2 : (et == 1) = false := beq_eq_false_iff_ne.2 h3
          go_wp2_with (first | (go_at_call 27; refine (left_same HT.out).mono ?_; rintro e w4 ⟨rfl, rfl⟩) | (go_at_call 25; refine (err_same HT.out).mono ?_; rintro e w4 ⟨rfl, rfl⟩) | (go_at_call 43; refine (fail_in HS.out et).mono ?_; rintro e w5 ⟨rfl, hi, hc⟩; have HS2 := Lib.hid hi; have HC2 := Lib.hid (HC.out.trans hc); clear hi hc))
          go_ret
          exact ⟨_, [], s2, _, rfl, PO.nil _ _ _, fun p hp => (by cases hp), Nat.zero_le _, Nat.zero_le _, HS2.out, HC2.out, Eat.bad (by simpa using h2)⟩
  · have hq : (e2 != 0) = true := by simpa [bne_iff_ne] using he2
    go_wp2_with (first | (go_at_call 25; refine (err_same H3.out).mono ?_; rintro e w4 ⟨rfl, rfl⟩))
    go_ret
    exact ⟨_, [], s2, e2, rfl, PO.nil _ _ _, fun p hp => (by cases hp), Nat.zero_le _, Nat.zero_le _, H3.out, C3.out, Eat.bad he2⟩
end Go.Proofs.YtljbchghbpmghaaGreatDoor
