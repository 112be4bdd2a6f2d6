/- SwitchboardGreat: the walk. -/
import Derived.Test.YtljbchghbpmghaaGreatDoorHE
import Derived.Test.YtljbchghbpmghaaGreatDoorLA
namespace Go.Proofs.YtljbchghbpmghaaGreatDoor
open Go.RowKit Go.Lib Go.Proofs.YtljbchghbpmghaaGreatDoorW.PrintWords Go.Proofs.YtljbchghbpmghaaGreatDoor.PSwitchboardGreat
set_option linter.unusedVariables false
set_option linter.unusedSimpArgs false

theorem IN.set {w : World} {g : Nat} {s : ByteArray} {er : Int} (h : IN w g s er) (a : Addr) (u : Value) (hg : g ≠ a.block) : IN (w.setCell a u) g s er := h.to (S := fun k => k = a.block) ⟨rfl, rfl, rfl, by simp [World.setCell], fun i _ hn => Below.heap_setCell w a u i hn⟩ hg
/-- The publish that SwitchboardGreat makes. -/
def gp (P : ByteArray) : PD := ⟨false, false, 0, 0, [], ⟨#[116]⟩, P⟩
theorem gp_body (P : ByteArray) : (gp P).body = dat ⟨#[116]⟩ ++ (varU 0 ++ P.data.toList) := by
  unfold PD.body gp putB propsB
  simp
theorem below_set {B : Nat} {w w' : World} (h : Below B w w') (b i : Nat) (u : Value) (hb : B ≤ b) : Below B w (w'.setCell ⟨b, i, none⟩ u) := h.setCell hb u
theorem blk_sf {w : World} {i b : Nat} {o : Obj} (h : w.heap[i]? = some o) (j : Nat) (u : Value) (hne : i ≠ b) : (w.setCell ⟨b, j, none⟩ u).heap[i]? = some o := (Below.heap_setCell w ⟨b, j, none⟩ u i hne).trans h
set_option maxHeartbeats 400000 in
set_option maxRecDepth 1000000 in
theorem pubparse_gp {w : World} (P : ByteArray) : Calls Tryz.prog 37 #[.int .i64 0, .string (toB (gp P).body)] w fun e w' => e = .returned (.tuple #[.agg #[.bool false, .bool false, .int .u8 0, .int .u32 0, .slice none 0 0, .string ⟨#[116]⟩, .string P], .int .i64 0]) ∧ Below w.heap.size w w' := by
  have HTK : Hid (∀ W g, IN W g (toB (gp P).body) 0 → Calls Tryz.prog 49 #[.pointer (some ⟨g, 0, none⟩)] W (IPost W g (.string ⟨#[116]⟩) (toB (varU 0 ++ P.data.toList)) 0)) := Lib.hid (fun W g hI => by
    have h := wtake_in hI
    rw [gp_body, data_app _ (by decide)] at h
    refine h.mono ?_
    rintro e w' ⟨b, hg, rfl, hi, hc⟩
    obtain rfl := good_t hg
    exact ⟨rfl, hi, hc⟩)
  have HPT : Hid (∀ W g, IN W g (toB (varU 0 ++ P.data.toList)) 0 → Calls Tryz.prog 51 #[.pointer (some ⟨g, 0, none⟩), .int .i64 3, .bool false] W (IPost W g (.slice none 0 0) P 0)) := Lib.hid (fun W g hI => by
    have h := take_nil (r := P) hI (by rw [var_app 0 (by decide), toB_data]) 3 false
    exact h)
  have HRS : Hid (∀ W g, IN W g P 0 → Calls Tryz.prog 29 #[.pointer (some ⟨g, 0, none⟩)] W (IPost W g (.string P) ⟨#[]⟩ 0)) := Lib.hid (fun W g hI => by
    have h := rest_in hI
    rw [rawR_rest] at h
    exact h)
  have HEN : Hid (∀ W g, IN W g ⟨#[]⟩ 0 → Calls Tryz.prog 53 #[.pointer (some ⟨g, 0, none⟩)] W (IPost W g (.int .i64 0) ⟨#[]⟩ 0)) := Lib.hid (fun W g hI => end_in hI)
  generalize toB (gp P).body = B at HTK ⊢
  generalize toB (varU 0 ++ P.data.toList) = B2 at HTK HPT
  have HXR := Lib.hid (heap_alloc_new w (.cells #[.bool false, .bool false, .int .u8 0, .int .u32 0, .slice none 0 0, .string ⟨#[]⟩, .string ⟨#[]⟩] 47))
  have HB := Lib.hid (show Below w.heap.size w (w.alloc (.cells #[.bool false, .bool false, .int .u8 0, .int .u32 0, .slice none 0 0, .string ⟨#[]⟩, .string ⟨#[]⟩] 47)) from (Below.refl _ _).alloc (Nat.le_refl _) _)
  have z8 : Go.bits .and .i64 0 8 = 0 := by decide
  have z3 : Go.bits .and .i64 0 3 = 0 := by decide
  have z1 : Go.bits .and .i64 0 1 = 0 := by decide
  go_enter Tryz.func37, Tryz.ntmps37
  go_wp2_with (first
    | (go_at_call 23; refine (over_in B).mono ?_; rintro e w2 ⟨g, rfl, hi, hg, hb⟩; have HN := Lib.hid (show w.heap.size ≠ g by have := blk_lt HXR.out; omega); have HG := Lib.hid (show w.heap.size ≤ g by have := HB.out.size; omega); have HX2 := Lib.hid (hb.block _ (blk_lt HXR.out) |>.trans HXR.out); have HB2 := Lib.hid (HB.out.trans (hb.mono HB.out.size)); have HI2 := Lib.hid (fun t cs => hi.below ((Below.refl w2.heap.size w2).alloc (Nat.le_refl _) (.cells cs t))); have HX3 := Lib.hid (fun t cs => blk_alloc HX2.out (.cells cs t)); have HB3 := Lib.hid (fun t cs => HB2.out.alloc HB2.out.size (.cells cs t)); have HNB := Lib.hid (show w2.heap.size ≠ g ∧ w2.heap.size ≠ w.heap.size ∧ w.heap.size ≤ w2.heap.size by have h1 := hi.lt; have h2 := blk_lt HX2.out; omega); clear hi hg hb)
    | (go_at_call 49; refine (HTK.out _ _ (HI2.out _ _)).mono ?_; rintro e w3 ⟨rfl, hi, hc⟩; have HI3 := Lib.hid (fun u => hi.set ⟨w2.heap.size, 5, none⟩ u (fun e => HNB.out.1 e.symm)); have HX4 := Lib.hid (hc.blk (HX3.out _ _) HN.out); have HB4 := Lib.hid ((HB3.out _ _).trans (hc.to_below (HB3.out _ _).size (fun k hk => hk ▸ HG.out))); have HBX := Lib.hid (hc.blk (heap_alloc_new w2 _) HNB.out.1); have fb5 := blk_frozen HBX.out 5; obtain ⟨q0, q1, q2, q3, q4, q5, q6⟩ := pbcell HBX.out; clear hi hc)
    | (go_at_call 51; (with_reducible refine (HPT.out _ _ (HI3.out _)).mono ?_); rintro e w4 ⟨rfl, hi, hc⟩; have HBX4 := Lib.hid (hc.blk (blk_put HBX.out 5 (.string ⟨#[116]⟩) rfl) HNB.out.1); have HX5 := Lib.hid (hc.blk (blk_sf HX4.out 5 _ (fun e => HNB.out.2.1 e.symm)) HN.out); have HB5 := Lib.hid ((below_set HB4.out _ 5 (.string ⟨#[116]⟩) HNB.out.2.2).trans (hc.to_below (below_set HB4.out _ 5 (.string ⟨#[116]⟩) HNB.out.2.2).size (fun k hk => hk ▸ HG.out))); have HI4 := Lib.hid (fun u => hi.set ⟨w2.heap.size, 4, none⟩ u (fun e => HNB.out.1 e.symm)); have fb4 := blk_frozen HBX4.out 4; obtain ⟨s0, s1, s2, s3, s4, s5, s6⟩ := pbcell HBX4.out; clear hi hc)
    | (go_at_call 29; (with_reducible refine (HRS.out _ _ (HI4.out _)).mono ?_); rintro e w5 ⟨rfl, hi, hc⟩; have HBX5 := Lib.hid (hc.blk (blk_put HBX4.out 4 (.slice none 0 0) rfl) HNB.out.1); have HX6 := Lib.hid (hc.blk (blk_sf HX5.out 4 _ (fun e => HNB.out.2.1 e.symm)) HN.out); have HB6 := Lib.hid ((below_set HB5.out _ 4 (.slice none 0 0) HNB.out.2.2).trans (hc.to_below (below_set HB5.out _ 4 (.slice none 0 0) HNB.out.2.2).size (fun k hk => hk ▸ HG.out))); have HI5 := Lib.hid (fun u => hi.set ⟨w2.heap.size, 6, none⟩ u (fun e => HNB.out.1 e.symm)); have fb6 := blk_frozen HBX5.out 6; obtain ⟨t0, t1, t2, t3, t4, t5, t6⟩ := pbcell HBX5.out; clear hi hc)
    | (go_at_call 53; (with_reducible refine (HEN.out _ _ (HI5.out _)).mono ?_); rintro e w6 ⟨rfl, hi, hc⟩; have HBX6 := Lib.hid (hc.blk (blk_put HBX5.out 6 (.string P) rfl) HNB.out.1); have HX7 := Lib.hid (hc.blk (blk_sf HX6.out 6 _ (fun e => HNB.out.2.1 e.symm)) HN.out); have HB7 := Lib.hid ((below_set HB6.out _ 6 (.string P) HNB.out.2.2).trans (hc.to_below (below_set HB6.out _ 6 (.string P) HNB.out.2.2).size (fun k hk => hk ▸ HG.out))); obtain ⟨v0, v1, v2, v3, v4, v5, v6⟩ := pbcell HBX6.out; obtain ⟨r0, r1, r2, r3, r4, r5, r6⟩ := pbcell HX7.out; have f0 := blk_frozen HX7.out 0; have f1 := blk_frozen HX7.out 1; have f2 := blk_frozen HX7.out 2; have f3 := blk_frozen HX7.out 3; have f4 := blk_frozen HX7.out 4; have f5 := blk_frozen HX7.out 5; have f6 := blk_frozen HX7.out 6; clear hi hc))
  have HF := Lib.hid (blk_put (blk_put (blk_put (blk_put (blk_put (blk_put (blk_put HX7.out 0 (.bool false) rfl) 1 (.bool false) rfl) 2 (.int .u8 0) rfl) 3 (.int .u32 0) rfl) 4 (.slice none 0 0) rfl) 5 (.string ⟨#[116]⟩) rfl) 6 (.string P) rfl)
  have HBF := Lib.hid (below_set (below_set (below_set (below_set (below_set (below_set (below_set HB7.out w.heap.size 0 (.bool false) (Nat.le_refl _)) w.heap.size 1 (.bool false) (Nat.le_refl _)) w.heap.size 2 (.int .u8 0) (Nat.le_refl _)) w.heap.size 3 (.int .u32 0) (Nat.le_refl _)) w.heap.size 4 (.slice none 0 0) (Nat.le_refl _)) w.heap.size 5 (.string ⟨#[116]⟩) (Nat.le_refl _)) w.heap.size 6 (.string P) (Nat.le_refl _))
  generalize (((((((w6.setCell ⟨w.heap.size, 0, none⟩ (.bool false)).setCell ⟨w.heap.size, 1, none⟩ (.bool false)).setCell ⟨w.heap.size, 2, none⟩ (.int .u8 0)).setCell ⟨w.heap.size, 3, none⟩ (.int .u32 0)).setCell ⟨w.heap.size, 4, none⟩ (.slice none 0 0)).setCell ⟨w.heap.size, 5, none⟩ (.string ⟨#[116]⟩)).setCell ⟨w.heap.size, 6, none⟩ (.string P)) = W7 at HF HBF ⊢
  obtain ⟨o0, o1, o2, o3, o4, o5, o6⟩ := pbcell HF.out
  exact bodyPost_ret (v := .tuple #[.agg #[.bool false, .bool false, .int .u8 0, .int .u32 0, .slice none 0 0, .string ⟨#[116]⟩, .string P], .int .i64 0]) (by simp [results, Tryz.results37, go_sem, o0, o1, o2, o3, o4, o5, o6]) rfl ⟨rfl, HBF.out⟩
def gpV (P : ByteArray) : Value := .agg #[.bool false, .bool false, .int .u8 0, .int .u32 0, .slice none 0 0, .string ⟨#[116]⟩, .string P]
def ParseGp (P : ByteArray) (w : World) (e : Ending) (w' : World) : Prop := e = .returned (.tuple #[.iface 49 (gpV P), .int .i64 0]) ∧ Below w.heap.size w w'
set_option maxHeartbeats 4000000 in
set_option maxRecDepth 1000000 in
theorem parse_gp {w : World} (P : ByteArray) : Calls Tryz.prog 20 #[.agg #[.int .i64 3, .int .i64 0, .string (toB (gp P).body)]] w (ParseGp P w) := by
  have HCK := Lib.hid (fun W => chk_calls 3 0 (by decide) (by decide) W)
  rw [show chk 3 0 = 0 from rfl, show ((3 : Nat) : Int) = 3 from rfl, show ((0 : Nat) : Int) = 0 from rfl] at HCK
  have HPP := Lib.hid (fun W => pubparse_gp (w := W) P)
  generalize toB (gp P).body = B at HPP ⊢
  have HX := Lib.hid (heap_alloc_new w (.cells #[.int .i64 3, .int .i64 0, .string B] 36))
  have HB := Lib.hid (show Below w.heap.size w (w.alloc (.cells #[.int .i64 3, .int .i64 0, .string B] 36)) from (Below.refl _ _).alloc (Nat.le_refl _) _)
  go_enter Tryz.func20, Tryz.ntmps20
  go_wp2_with (first
    | (go_at_call 21; refine (HCK.out _).mono ?_; rintro e w1 ⟨rfl, hb⟩; have HX1 := Lib.hid (hb.block _ (blk_lt HX.out) |>.trans HX.out); have HB1 := Lib.hid (HB.out.trans (hb.mono HB.out.size)); obtain ⟨x0, x1, x2⟩ := frcell HX1.out; have HX2 := Lib.hid (fun t cs => blk_alloc HX1.out (.cells cs t)); have HB2 := Lib.hid (fun t cs => HB1.out.alloc HB1.out.size (.cells cs t)); have y0 := fun t cs => (frcell (HX2.out t cs)).1; have y1 := fun t cs => (frcell (HX2.out t cs)).2.1; have y2 := fun t cs => (frcell (HX2.out t cs)).2.2; clear hb)
    | (go_at_call 37; refine (HPP.out _).mono ?_; rintro e w2 ⟨rfl, hb⟩; have HXB := Lib.hid (hb.block _ (blk_lt (heap_alloc_new w1 _)) |>.trans (heap_alloc_new w1 _)); have HB3 := Lib.hid ((HB2.out _ _).trans (hb.mono (HB2.out _ _).size)); have f0 := blk_frozen HXB.out 0; have f1 := blk_frozen HXB.out 1; have f2 := blk_frozen HXB.out 2; have f3 := blk_frozen HXB.out 3; have f4 := blk_frozen HXB.out 4; have f5 := blk_frozen HXB.out 5; have f6 := blk_frozen HXB.out 6; obtain ⟨r0, r1, r2, r3, r4, r5, r6⟩ := pbcell HXB.out; clear hb))
  have hle : w.heap.size ≤ w1.heap.size := HB1.out.size
  go_ret2
  refine ⟨rfl, ?_⟩
  exact below_set (below_set (below_set (below_set (below_set (below_set (below_set HB3.out _ _ _ hle) _ _ _ hle) _ _ _ hle) _ _ _ hle) _ _ _ hle) _ _ _ hle) _ _ _ hle
theorem info30 : (Tryz.prog.info? 30).map (fun i => (i.zero, i.size, i.bytes)) = some (some .nilIface, 1, 16) := by kernel_rfl
/-- The bytes of that publish. -/
def gpS (P : ByteArray) : ByteArray := toB (frB 3 0 (toB (gp P).body))
theorem gp_size (P : ByteArray) : (toB (gp P).body).size = P.size + 4 := by
  rw [toB_size, gp_body, List.length_append, List.length_append, dat_len, varU_lt (by decide), ← Lib.size_eq]
  show 2 + 1 + (1 + P.size) = _
  omega
def AllBig (w : World) (e : Ending) (w' : World) : Prop := e = .returned (.tuple #[.slice none 0 0, .int .i64 4]) ∧ Below w.heap.size w w'
theorem empty_app (s : ByteArray) : (⟨#[]⟩ : ByteArray) ++ s = s := ByteArray.empty_append
theorem gpS_pos (P : ByteArray) : 0 < (gpS P).size := by
  unfold gpS frB
  rw [toB_size, List.length_cons]
  omega
theorem next_gp (P : ByteArray) (hP : P.size ≤ 70000) (most : Int) : nextF most (gpS P) = if most < ((gpS P).size : Int) then ((0, 0, ⟨#[]⟩, 4), (⟨#[]⟩, 4)) else ((3, 0, toB (gp P).body, 0), (⟨#[]⟩, 0)) := by
  have h := nextF_fr most 3 0 (toB (gp P).body) [] (by decide) (by decide) rfl (by rw [gp_size]; omega)
  rw [List.append_nil] at h
  unfold gpS
  rw [h, toB_size]
  rfl
set_option maxHeartbeats 4000000 in
set_option maxRecDepth 1000000 in
theorem all_big {w : World} (P : ByteArray) (hP : P.size ≤ 70000) (most : Int) (hm : most < ((gpS P).size : Int)) : Calls Tryz.prog 7 #[.string (gpS P), .int .i64 most] w (AllBig w) := by
  have HN : Hid (∀ W g, RD W g most (gpS P) 0 → Calls Tryz.prog 11 #[.pointer (some ⟨g, 0, none⟩)] W (RPost W g (.tuple #[.agg #[.int .i64 0, .int .i64 0, .string ⟨#[]⟩], .int .i64 4]) most ⟨#[]⟩ 4)) := Lib.hid (fun W g hR => by
    have h := next_calls hR (gpS_pos P)
    rw [next_gp P hP most, if_pos hm] at h
    exact h)
  have hsz : (gpS P).size ≤ 1000000 := by
    unfold gpS
    rw [toB_size, frB_size, gp_size]
    have := varU_5 (P.size + 4) (by omega)
    omega
  have HF : Hid (∀ W g, RD W g most ⟨#[]⟩ 0 → Calls Tryz.prog 10 #[.pointer (some ⟨g, 0, none⟩), .string (gpS P)] W (RPost W g (.tuple #[]) most (gpS P) 0)) := Lib.hid (fun W g hR => by
    have h := feed_rd hR (gpS P) (by show 0 + _ ≤ _; omega)
    rw [empty_app] at h
    exact h)
  clear hm hP
  generalize gpS P = s at HN HF hsz ⊢
  go_enter Tryz.func7, Tryz.ntmps7
  go_wp2_with (first
    | (go_at_call 9; refine (new_rd most).mono ?_; rintro e w1 ⟨g, rfl, hr, hg, hb⟩; have HR1 := Lib.hid hr; have HG := Lib.hid hg; have HB1 := Lib.hid hb; clear hr hg hb)
    | (go_at_call 10; refine (HF.out _ _ HR1.out).mono ?_; rintro e w2 ⟨rfl, hr, hc⟩; have HR2 := Lib.hid hr; have HB2 := Lib.hid (HB1.out.trans (hc.to_below HB1.out.size (fun k hk => hk ▸ HG.out))); clear hr hc))
  refine wp_loop_rounds 1 ?_
  rw [rounds_succ]
  go_wp2_with (first
    | (go_at_call 11; refine (HN.out _ _ HR2.out).mono ?_; rintro e w3 ⟨rfl, hr, hc⟩; have HB3 := Lib.hid (HB2.out.trans (hc.to_below HB2.out.size (fun k hk => hk ▸ HG.out))); clear hr hc))
  go_ret2
  exact ⟨rfl, HB3.out.alloc HB3.out.size _⟩
def AllOk (V : Value) (w : World) (e : Ending) (w' : World) : Prop := ∃ A c, e = .returned (.tuple #[.slice A 1 c, .int .i64 0]) ∧ w'.ownsRow w.heap.size 30 1 (.slice A 1 c) 1 [.iface 49 V] ∧ Below w.heap.size w w'
theorem own_slice1 {w : World} {base e : Nat} {v : Value} {n : Nat} {zs : List Value} (h : w.ownsRow base e 1 v n zs) : ∃ A c, v = .slice A n c := by
  obtain ⟨_, hq⟩ := h
  rcases hq with ⟨h1, h2⟩ | ⟨g, cap, cur, e1, _⟩
  · exact ⟨none, 0, by rw [h1, h2]⟩
  · exact ⟨_, cap, e1⟩
theorem own_to {w w1 : World} {base e n : Nat} {v : Value} {zs : List Value} (h : w.ownsRow base e 1 v n zs) (hk : ∀ k, v.ownBlock = some k → w1.heap[k]? = w.heap[k]?) : w1.ownsRow base e 1 v n zs := by
  obtain ⟨q, hq⟩ := h
  refine ⟨q, ?_⟩
  rcases hq with hq | ⟨g, cap, cur, e1, e2, e3, e4⟩
  · exact .inl hq
  · exact .inr ⟨g, cap, cur, e1, e2, (hk g (by rw [e1]; rfl)).trans e3, e4⟩
theorem own_not {w : World} {base n g : Nat} {v : Value} {zs : List Value} {most er : Int} {s : ByteArray} (h : w.ownsRow base 30 1 v n zs) (hr : RD w g most s er) : ∀ k, v.ownBlock = some k → k = g → False := by
  rintro k hk rfl
  obtain ⟨cells, hc⟩ := own_typed h k hk
  unfold RD at hr
  rw [hr] at hc
  injection hc with hc
  injection hc with _ h26 _
  exact absurd h26 (by decide)
theorem own_nil0 (w : World) (base e : Nat) : w.ownsRow base e 1 (.slice none 0 0) ([] : List Value).length [] := ⟨rfl, .inl ⟨rfl, rfl⟩⟩
set_option maxHeartbeats 4000000 in
set_option maxRecDepth 1000000 in
theorem all_ok {w : World} (P : ByteArray) (hP : P.size ≤ 70000) (most : Int) (hm : ¬ most < ((gpS P).size : Int)) : Calls Tryz.prog 7 #[.string (gpS P), .int .i64 most] w (AllOk (gpV P) w) := by
  have HPA := Lib.hid (fun W => parse_gp (w := W) P)
  have HN : Hid (∀ W g, RD W g most (gpS P) 0 → Calls Tryz.prog 11 #[.pointer (some ⟨g, 0, none⟩)] W (RPost W g (.tuple #[.agg #[.int .i64 3, .int .i64 0, .string (toB (gp P).body)], .int .i64 0]) most ⟨#[]⟩ 0)) := Lib.hid (fun W g hR => by
    have h := next_calls hR (gpS_pos P)
    rw [next_gp P hP most, if_neg hm] at h
    exact h)
  have HE : Hid (∀ W g, RD W g most ⟨#[]⟩ 0 → Calls Tryz.prog 11 #[.pointer (some ⟨g, 0, none⟩)] W (RPost W g (.tuple #[.agg #[.int .i64 0, .int .i64 0, .string ⟨#[]⟩], .int .i64 1]) most ⟨#[]⟩ 0)) := Lib.hid (fun W g hR => next_nil hR)
  have hsz : (gpS P).size ≤ 1000000 := by
    unfold gpS
    rw [toB_size, frB_size, gp_size]
    have := varU_5 (P.size + 4) (by omega)
    omega
  have HF : Hid (∀ W g, RD W g most ⟨#[]⟩ 0 → Calls Tryz.prog 10 #[.pointer (some ⟨g, 0, none⟩), .string (gpS P)] W (RPost W g (.tuple #[]) most (gpS P) 0)) := Lib.hid (fun W g hR => by
    have h := feed_rd hR (gpS P) (by show 0 + _ ≤ _; omega)
    rw [empty_app] at h
    exact h)
  clear hm hP
  unfold ParseGp at HPA
  generalize gpS P = s at HN HF hsz ⊢
  generalize toB (gp P).body = B at HN HPA
  have hone : (Value.iface 49 (gpV P)).oneCell' = true := rfl
  have HONE := Lib.hid hone
  clear hone
  generalize gpV P = V at HPA HONE ⊢
  go_enter Tryz.func7, Tryz.ntmps7
  go_wp2_with (first
    | (go_at_call 9; refine (new_rd most).mono ?_; rintro e w1 ⟨g, rfl, hr, hg, hb⟩; have HR1 := Lib.hid hr; have HG := Lib.hid hg; have HB1 := Lib.hid hb; clear hr hg hb)
    | (go_at_call 10; refine (HF.out _ _ HR1.out).mono ?_; rintro e w2 ⟨rfl, hr, hc⟩; have HR2 := Lib.hid hr; have HB2 := Lib.hid (HB1.out.trans (hc.to_below HB1.out.size (fun k hk => hk ▸ HG.out))); clear hr hc))
  refine wp_loop_rounds 2 ?_
  rw [rounds_succ]
  go_wp2_with (first
    | (go_at_call 11; refine (HN.out _ _ HR2.out).mono ?_; rintro e w3 ⟨rfl, hr, hc⟩; have HR3 := Lib.hid (fun t cs => hr.below ((Below.refl w3.heap.size w3).alloc (Nat.le_refl _) (.cells cs t))); have hB3 := HB2.out.trans (hc.to_below HB2.out.size (fun k hk => hk ▸ HG.out)); have HB3 := Lib.hid (fun t cs => hB3.alloc hB3.size (.cells cs t)); clear hr hc hB3)
    | (go_at_call 20; refine (HPA.out _).mono ?_; rintro e w4 ⟨rfl, hb⟩; have HR4 := Lib.hid ((HR3.out _ _).below hb); have HB4 := Lib.hid ((HB3.out _ _).trans (hb.mono (HB3.out _ _).size)); clear hb)
    | ((with_reducible refine gate_builtin (b := .append) (xs := #[.tmp 42, .tmp 44]) rfl ?_); at_builtin; refine print_append (w0 := w) w.heap.size rfl (.tmp 42) (.tmp 44) 25 30 .nilIface 16 rfl Tryz.underlying25 info30 rfl (by decide) _ [] (.iface 49 V) rfl rfl HONE.out (own_nil0 w4 _ _) HB4.out HB4.out.size (by decide) ?_; intro v1 w5 ho hb hg _; obtain ⟨A1, c1, rfl⟩ := own_slice1 ho; have HO := Lib.hid ho; have HR5 := Lib.hid (HR4.out.to (S := fun _ => False) ((Chg.of_grown (S := fun _ => False) hg (fun k hk => by cases hk))) id); have HB5 := Lib.hid hb; clear ho hb hg))
  rw [rounds_succ]
  go_wp2_with (first
    | (go_at_call 11; refine (HE.out _ _ HR5.out).mono ?_; rintro e w6 ⟨rfl, hr, hc⟩; have HO6 := Lib.hid (own_to HO.out (fun k hk => hc.block k (own_lt HO.out k hk) (fun e => own_not HO.out HR5.out k hk e))); have HNG := Lib.hid (own_not HO6.out hr); have HR6 := Lib.hid (fun t cs => hr.below ((Below.refl w6.heap.size w6).alloc (Nat.le_refl _) (.cells cs t))); have hB6 := HB5.out.trans (hc.to_below HB5.out.size (fun k hk => hk ▸ HG.out)); have HB6 := Lib.hid (fun t cs => hB6.alloc hB6.size (.cells cs t)); clear hr hc hB6)
    | (go_at_call 13; refine (waits_rd (HR6.out _ _)).mono ?_; rintro e w7 ⟨rfl, hr, hc⟩; have HO7 := Lib.hid (own_to HO6.out (fun k hk => (hc.block k (by rw [World.size_alloc]; have := own_lt HO6.out k hk; omega) (fun e => HNG.out k hk e)).trans (Below.heap_alloc w6 _ k (own_lt HO6.out k hk)))); have HB7 := Lib.hid ((HB6.out _ _).trans (hc.to_below (HB6.out _ _).size (fun k hk => hk ▸ HG.out))); clear hr hc))
  go_ret2
  exact ⟨A1, c1, rfl, HO7.out, HB7.out⟩
theorem pl_nil (w : World) : PL w none [] := Kd.C_nil k144 w
theorem gp_ok (P : ByteArray) (hP : P.size ≤ 200000) : (gp P).Ok := by
  refine ⟨by show 0 < 4; decide, by show 0 ≤ 4294967295; decide, ⟨fun p hp => (by cases hp), by show 0 ≤ 100000; decide, by show 0 ≤ 1000000; decide⟩, by show 1 ≤ 65535; decide, hP⟩
theorem text_gp (P : ByteArray) (hP : P.size ≤ 70000) (w : World) : Calls Tryz.prog 8 #[.iface 49 (gpV P)] w fun e w' => e = .returned (.string (gpS P)) ∧ Below w.heap.size w w' := by
  refine text_pub (gpV P) 3 0 (toB (gp P).body) (by decide) (by decide) (by rw [gp_size]; omega) (fun W _ => ?_)
  exact pubframe_calls (gp P) none 0 (gp_ok P (by omega)) (Nat.le_refl _) (pl_nil W)
/-- So many zeros. -/
def zeros (m : Nat) : ByteArray := toB (List.replicate m 0)
theorem zeros_size (m : Nat) : (zeros m).size = m := by unfold zeros; rw [toB_size, List.length_replicate]
theorem nu_zeros (m : Nat) : nu (List.replicate m 0) = List.replicate m 0 := by
  unfold nu
  rw [List.map_replicate]
  rfl
theorem zeros_conv (W : World) (m : Nat) (hm : m ≤ 70000) : (convert 42 9 (.slice (some ⟨W.heap.size, 0, none⟩) m m)).run Tryz.prog (W.alloc (.cells (madeCells #[.int .u8 0] m) 5)) = .ok (.string (zeros m)) (W.alloc (.cells (madeCells #[.int .u8 0] m) 5)) := by
  have h := own_made W 0 5 .u8 m (Nat.zero_le _) (by omega)
  have hl : (List.replicate m (0 : Int)).length = m := List.length_replicate
  have hr : (Kd.int .u8).R 5 (W.alloc (.cells (madeCells #[.int .u8 0] m) 5)) 0 (fun _ => True) (.slice (some ⟨W.heap.size, 0, none⟩) m m) (List.replicate m 0) := Kd.R_of_own (enc := Value.int .u8) (h1 := fun _ => rfl) (by rw [hl]; exact h) (fun _ _ => trivial)
  have hc := (Kd.R_reads' hr).2.2
  have kb := Kd.C_string (P := Tryz.prog) (src := 42) (dst := 9) (e := 5) (c := m) Tryz.underlying42 Tryz.underlying5 Tryz.underlying9 hc
  rw [hl, ← nu_zeros, str_nu] at kb
  exact kb
def Ret (w : World) (e : Ending) (w' : World) : Prop := e = .returned (.bool true) ∧ Below w.heap.size w w'
set_option maxHeartbeats 4000000 in
set_option maxRecDepth 1000000 in
theorem great_out (n most : Int) (w : World) (hm : HasM w) (h : n < 0 ∨ 70000 < n ∨ most < 2 ∨ 80000 < most) : Calls Tryz.prog 4 #[.int .i64 n, .int .i64 most] w (Ret w) := by
  have HL := Lib.hid (fun W hm => live_calls W hm)
  have HM := Lib.hid hm
  have HB0 := Lib.hid (Below.refl w.heap.size w)
  have hcase : decide (n < 0) = true ∨ (decide (n < 0) = false ∧ decide (70000 < n) = true) ∨ (decide (n < 0) = false ∧ decide (70000 < n) = false ∧ decide (most < 2) = true) ∨ (decide (n < 0) = false ∧ decide (70000 < n) = false ∧ decide (most < 2) = false ∧ decide (80000 < most) = true) := by
    simp only [decide_eq_true_eq, decide_eq_false_iff_not]
    omega
  clear hm h
  rcases hcase with h1 | ⟨h1, h2⟩ | ⟨h1, h2, h3⟩ | ⟨h1, h2, h3, h4⟩
  all_goals
    go_enter Tryz.func4, Tryz.ntmps4
    go_wp2_with (first
      | (go_at_call 6; refine (HL.out _ (HM.out.to HB0.out)).mono ?_; rintro e w1 ⟨rfl, hb⟩; have HB1 := Lib.hid (HB0.out.trans (hb.mono HB0.out.size)); clear HB0 hb; have HB0 := HB1; clear HB1))
    go_ret
    exact ⟨rfl, HB0.out⟩
theorem own_cell0 {w : World} {base : Nat} {A : Option Addr} {c : Nat} {u : Value} (h : w.ownsRow base 30 1 (.slice A 1 c) 1 [u]) : ∃ g, A = some ⟨g, 0, none⟩ ∧ w.cell? ⟨g, 0, none⟩ = some u := by
  obtain ⟨_, hq⟩ := h
  rcases hq with ⟨_, h2⟩ | ⟨g, cap, cur, e1, e2, e3, e4, e5, e6, e7⟩
  · cases h2
  · injection e1 with e1 _ _
    refine ⟨g, e1, (blk_cell e3 0).trans ?_⟩
    rw [← Array.getElem?_toList]
    have := congrArg (fun l : List Value => l[0]?) e7
    simpa [List.getElem?_take] using this
theorem below_two {B : Nat} {w w1 w2 : World} {a b : Obj} (h : Below B w w1) (hB : B ≤ w1.heap.size) (k : Below ((w1.alloc a).alloc b).heap.size ((w1.alloc a).alloc b) w2) : Below B w w2 :=
  ((h.alloc hB a).alloc (by rw [World.size_alloc]; omega) b).trans (k.mono (by rw [World.size_alloc, World.size_alloc]; omega))
set_option maxHeartbeats 4000000 in
set_option maxRecDepth 1000000 in
theorem great_in (m : Nat) (most : Int) (w : World) (hm : HasM w) (hm7 : m ≤ 70000) (hb2 : 2 ≤ most) (hb8 : most ≤ 80000) : Calls Tryz.prog 4 #[.int .i64 m, .int .i64 most] w (Ret w) := by
  have HL := Lib.hid (fun W hm => live_calls W hm)
  have HM := Lib.hid hm
  have hP : (zeros m).size ≤ 70000 := by rw [zeros_size]; exact hm7
  have HT := Lib.hid (fun W => text_gp (zeros m) hP W)
  have h1 : decide ((m : Int) < 0) = false := decide_eq_false (by omega)
  have h2 : decide ((70000 : Int) < (m : Int)) = false := decide_eq_false (by omega)
  have h3 : decide (most < 2) = false := decide_eq_false (by omega)
  have h4 : decide ((80000 : Int) < most) = false := decide_eq_false (by omega)
  have kmk := print_make (P := Tryz.prog) 42 5 .u8 1 Tryz.underlying42 info5b (by decide) m (by omega)
  have kcv := fun W => zeros_conv W m hm7
  have hsz : (gpS (zeros m)).size ≤ 1000000 := by
    unfold gpS
    rw [toB_size, frB_size, gp_size]
    have := varU_5 ((zeros m).size + 4) (by omega)
    omega
  by_cases hbig : most < ((gpS (zeros m)).size : Int)
  · have HA := Lib.hid (fun W => all_big (w := W) (zeros m) hP most hbig)
    unfold AllBig at HA
    have h5 : decide (((gpS (zeros m)).size : Int) ≤ most) = false := decide_eq_false (by omega)
    have h5b : ¬ ((gpS (zeros m)).size : Int) ≤ most := by omega
    clear hbig hP hm
    unfold gpV at HT
    generalize gpS (zeros m) = S at HT HA h5 h5b hsz
    generalize zeros m = Z at HT kcv
    go_enter Tryz.func4, Tryz.ntmps4
    go_wp2_with (first
      | (go_at_call 6; refine (HL.out _ HM.out).mono ?_; rintro e w1 ⟨rfl, hb⟩; have HB1 := Lib.hid hb; clear hb)
      | (go_at_call 8; refine (HT.out _).mono ?_; rintro e w2 ⟨rfl, hb⟩; have HB2 := Lib.hid (below_two HB1.out HB1.out.size hb); clear hb)
      | (go_at_call 7; refine (HA.out _).mono ?_; rintro e w3 ⟨rfl, hb⟩; have HB3 := Lib.hid (HB2.out.trans (hb.mono HB2.out.size)); clear hb))
    go_ret
    exact ⟨rfl, HB3.out⟩
  · have HA := Lib.hid (fun W => all_ok (w := W) (zeros m) hP most hbig)
    have h5 : decide (((gpS (zeros m)).size : Int) ≤ most) = true := decide_eq_true (by omega)
    have h5b : ((gpS (zeros m)).size : Int) ≤ most := by omega
    clear hbig hP hm
    unfold gpV at HT HA
    generalize gpS (zeros m) = S at HT HA h5 h5b hsz
    generalize zeros m = Z at HT HA kcv
    go_enter Tryz.func4, Tryz.ntmps4
    go_wp2_with (first
      | (go_at_call 6; refine (HL.out _ HM.out).mono ?_; rintro e w1 ⟨rfl, hb⟩; have HB1 := Lib.hid hb; clear hb)
      | (go_at_call 8; refine (HT.out (World.alloc _ _)).mono ?_; rintro e w2 ⟨rfl, hb⟩; have HB2 := Lib.hid (below_two HB1.out HB1.out.size hb); clear hb)
      | (go_at_call 7; refine (HA.out _).mono ?_; rintro e w3 hp; obtain ⟨A, c, rfl, ho, hb⟩ := hp; obtain ⟨g, rfl, hcell⟩ := own_cell0 ho; have HB3 := Lib.hid (HB2.out.trans (hb.mono HB2.out.size)); clear hb ho)
      | (go_at_call 8; refine (HT.out w3).mono ?_; rintro e w4 ⟨rfl, hb⟩; have HB4 := Lib.hid (HB3.out.trans (hb.mono HB3.out.size)); clear hb))
    go_ret
    exact ⟨rfl, HB4.out⟩
theorem great_calls (n most : Int) (w : World) (hm : HasM w) (_wn : (Lit.int .i64 n).wf = true) (_wm : (Lit.int .i64 most).wf = true) : Calls Tryz.prog 4 #[.int .i64 n, .int .i64 most] w (Ret w) := by
  by_cases h : n < 0 ∨ 70000 < n ∨ most < 2 ∨ 80000 < most
  · exact great_out n most w hm h
  · obtain ⟨m, rfl⟩ := Int.eq_ofNat_of_zero_le (show 0 ≤ n by omega)
    exact great_in m most w hm (by omega) (by omega) (by omega)
end Go.Proofs.YtljbchghbpmghaaGreatDoor
