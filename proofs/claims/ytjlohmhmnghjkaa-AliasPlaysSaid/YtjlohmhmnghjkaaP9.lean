/- AliasPlays: the walk. -/
import Derived.Test.YtjlohmhmnghjkaaP8
import Derived.Lib.SmallJoins
namespace Go.Proofs.Ytjlohmhmnghjkaa
open Go.RowKit Go.Maps Go.Proofs.YtjlohmhmnghjkaaW.PrintWords Go.Proofs.Ytjlohmhmnghjkaa.PAliasPlays
set_option linter.unusedVariables false
set_option linter.unusedSimpArgs false

/-- A round's state behind the box of its publish. -/
structure Mid (w0 W : World) (g bm bx most n m : Nat) (F : Nat → Option ByteArray) (x : List S52) (v : Value) (u : Value) (L : List Int) : Prop where
  ap : AP w0 W g bm most n m F x v
  rows : Kd.R k52 52 W w0.heap.size (fun k => (k ≠ g ∧ k ≠ bm) ∧ k < bx) v x
  props : Kd.R k61 61 W 0 (fun k => k ≠ bm) u (propsOf L)
  lt : g < bx ∧ bm < bx ∧ bx < W.heap.size
section
variable {w0 wr w4 W W1 : World} {g bm bx most n m b0 : Nat} {F : Nat → Option ByteArray} {x : List S52} {v u : Value} {L : List Int} {o : Obj}
theorem mid_of (h : AP w0 w4 g bm most n m F x v) (hu : Kd.R k61 61 w4 b0 (fun _ => True) u (propsOf L)) (hlt : g < b0 ∧ bm < b0) : Mid w0 (w4.alloc o) g bm w4.heap.size most n m F x v u L :=
  ⟨h.to ((Below.refl _ _).alloc (Nat.le_refl _) _), Kd.R_alloc (Kd.R_mono (Kd.R_bound h.row) fun k hk => ⟨hk.1, hk.2.2.1⟩) _, Kd.R_lower (Kd.R_alloc (Kd.R_mono (Kd.R_bound hu) fun k hk => by have := hk.2.1; omega) _) (Nat.zero_le _), h.ts.pt.lt.1, h.ts.pt.lt.2, by rw [World.size_alloc]; omega⟩
theorem Mid.ne (h : Mid w0 W g bm bx most n m F x v u L) : bx ≠ bm := by have := h.lt; omega
theorem Mid.name (h : Mid w0 W g bm bx most n m F x v u L) {n' m' : Nat} {F' : Nat → Option ByteArray} (hs : TS w0 W1 g bm most n' m' F') (hk : TKept W W1 w0.heap.size bm) : Mid w0 W1 g bm bx most n' m' F' x v u L :=
  ⟨h.ap.name hs hk, Kd.R_step h.rows fun k hok hlt => hk.old k hlt hok.1.2, Kd.R_step h.props fun k hok hlt => hk.old k hlt hok, h.lt.1, h.lt.2.1, Nat.lt_of_lt_of_le h.lt.2.2 hk.size⟩
theorem Mid.to (h : Mid w0 W g bm bx most n m F x v u L) (hb : Below W.heap.size W W1) : Mid w0 W1 g bm bx most n m F x v u L :=
  ⟨h.ap.to hb, Kd.R_below h.rows hb, Kd.R_below h.props hb, h.lt.1, h.lt.2.1, Nat.lt_of_lt_of_le h.lt.2.2 hb.size⟩
end
theorem plays_ref {most m i : Nat} {x : List S52} {topic : ByteArray} {L : List Int} {b : Bool} {s : ByteArray} {er : Int} (hx : XOk x m i) (hL : ∀ n ∈ L, 0 ≤ n ∧ n < 4294967296) (hi : i < 40) (hw : wordB (min most 65535) (oOf L) topic b) (hr : stR (min most 65535) (gF x) (oOf L) topic b = (s, er)) :
    switchboardref17_Name.f 300 x topic (toldOf L) ((min most 65535 : Nat) : Int) = some (nextX x (stS (min most 65535) (oOf L) topic b) topic, s, er) := by
  have h1 := hx.len
  have := name17_f x topic L hL (min most 65535) b (by omega) hw 300 (by omega)
  rw [hr] at this
  exact this
section
variable {w0 w6 w7 W : World} {g bm bx most n m b7 cu c7 : Nat} {F : Nat → Option ByteArray} {x : List S52} {v : Value} {L : List Int} {Au A7 : Option Addr} {T : ByteArray}
theorem told_of (h : Mid w0 w6 g bm bx most n m F x v (.slice Au (propsOf L).length cu) L) (Y : w6.heap[bx]? = some (.cells #[.bool false, .bool false, .int .u8 0, .int .u32 0, .slice Au (propsOf L).length cu, .string T, .string ⟨#[]⟩] 36 (0, 0))) (W : World) (hb : Below w6.heap.size w6 W) :
    Calls Try.prog 15 #[.slice Au (propsOf L).length cu] W fun e w7 => ∃ A7 c7, e = .returned (.slice A7 (toldOf L).length c7) ∧ Kd.R k65 65 w7 w6.heap.size (fun _ => True) (.slice A7 (toldOf L).length c7) (toldOf L) ∧ Below w6.heap.size w6 w7 ∧ (w7.cell? ⟨bx, 5, none⟩ = some (.string T) ∧ w7.cell? ⟨bx, 4, none⟩ = some (.slice Au (propsOf L).length cu)) := by
  obtain ⟨_, h1, h2⟩ := Kd.R_reads' (Kd.R_below h.props hb)
  refine (switchboardlaw03_Told.calls 3 Au cu (propsOf L) (toldOf L) W h2 h1 (told_f L 3 (Nat.le_refl _))).mono ?_
  rintro e w7 ⟨v7, rfl, hR, hb7⟩
  obtain ⟨A7, c7, rfl⟩ := Kd.R_slice hR
  have hb67 : Below w6.heap.size w6 w7 := hb.trans (hb7.mono hb.size)
  have Y7 := blk_below Y hb67
  exact ⟨A7, c7, rfl, Kd.R_lower hR hb.size, hb67, (blk_cell Y7 5).trans rfl, (blk_cell Y7 4).trans rfl⟩
theorem ref_of {x' : List S52} {s : ByteArray} {er : Int} {M : Int} (h : Mid w0 w6 g bm bx most n m F x v (.slice Au (propsOf L).length cu) L) (Y : w6.heap[bx]? = some (.cells #[.bool false, .bool false, .int .u8 0, .int .u32 0, .slice Au (propsOf L).length cu, .string T, .string ⟨#[]⟩] 36 (0, 0))) (W : World) (hb7 : Below w6.heap.size w6 w7) (hb : Below w7.heap.size w7 W)
    (hR : Kd.R k65 65 w7 w6.heap.size (fun _ => True) (.slice A7 (toldOf L).length c7) (toldOf L)) (hf : switchboardref17_Name.f 300 x T (toldOf L) M = some (x', s, er)) :
    Calls Try.prog 14 #[v, .string T, .slice A7 (toldOf L).length c7, .int .u32 M] W fun e w8 => ∃ A8 c8, e = .returned (.tuple #[.slice A8 x'.length c8, .string s, .int .i64 er]) ∧ AP w0 w8 g bm most n m F x' (.slice A8 x'.length c8) ∧ (w8.cell? ⟨bx, 5, none⟩ = some (.string T) ∧ w8.cell? ⟨bx, 4, none⟩ = some (.slice Au (propsOf L).length cu)) := by
  have hbW : Below w6.heap.size w6 W := hb7.trans (hb.mono hb7.size)
  have hW := h.to hbW
  have YW := blk_below Y hbW
  have hRW := Kd.R_below hR hb
  refine (switchboardref17_Name.calls 300 (fun k => (k ≠ g ∧ k ≠ bm) ∧ k < bx) v x T A7 c7 (toldOf L) M x' s er w0 W hW.ap.ts.below hW.rows (fun W' hk => ?_) (Kd.R_reads' hRW).2.1 hf).mono ?_
  · have hR2 : Kd.R k65 65 W' w6.heap.size (fun k => w6.heap.size ≤ k) (.slice A7 (toldOf L).length c7) (toldOf L) := by
      refine Kd.R_step (Kd.R_mono (Kd.R_bound hRW) fun k hk => hk.2.1) fun k hok hlt => hk.2 k hlt fun hs => ?_
      have := h.lt
      omega
    exact (Kd.R_reads' hR2).2.2
  · rintro e w8 ⟨v8, rfl, hr8, hb8, hk8⟩
    have hap := hW.ap.ref hb8 hk8 (fun k hk => hk.1) hr8
    obtain ⟨A8, c8, rfl⟩ := Kd.R_slice hr8
    have Y8 := (hk8.2 bx (blk_lt YW) (fun hs => by have := hs.2; omega)).trans YW
    exact ⟨A8, c8, rfl, hap, (blk_cell Y8 5).trans rfl, (blk_cell Y8 4).trans rfl⟩
end
theorem rd52_mem (x : List S52) (j : Nat) (h : j < x.length) : rd_T52 x (j : Int) ∈ x := by
  unfold rd_T52
  rw [Int.toNat_natCast, List.getD_eq_getElem?_getD, List.getElem?_eq_getElem h]
  exact List.getElem_mem h
set_option maxHeartbeats 8000000 in
set_option maxRecDepth 100000 in
theorem plays_nat (most : Nat) (hm : most < 4294967296) (w : World) (A : Option Addr) (cp : Nat) (acts : List SOne) (hr : Kd.C kO w A acts.length acts) (hs : ∀ a ∈ acts, oneOk a) (hcp : acts.length ≤ cp) (hz : acts.length ≤ 1000000000000000) :
    Calls Try.prog 7 #[.int .u32 most, .slice A acts.length cp] w fun e w' => e = .returned (.bool true) ∧ Below w.heap.size w w' := by
  have hu36 := Try.underlying36
  have hu39 := Try.underlying39
  have hu52 := Try.underlying52
  have HA := Lib.hid hr
  have HOK := Lib.hid hs
  have HM := Lib.hid hm
  clear hr hs hm
  go_enter Try.func7, Try.ntmps7
  go_wp2_with (first
    | (go_at_call 8; refine (tnew_calls _ most).mono ?_; rintro e w1 hp; obtain ⟨g, bm, rfl, hpt, hb⟩ := hp; have HS := Lib.hid (TS.new hpt hb); clear hpt hb)
    | ((with_reducible refine gate_dst (N := 24) rfl ?_); refine Kd.R_lit k52 _ 52 ?hg (N := 24) ?hd (xs := ([] : List S52)) (inner := []) (ok := fun k => k ≠ g ∧ k ≠ bm) (okp := fun _ => False) ?hr ?hp (fun _ hk => hk.elim) ⟨fun e => by have := HS.out.pt.lt; omega, fun e => by have := HS.out.pt.lt; omega⟩ (Below.refl _ _) (Nat.le_refl _) (by simp) ?_; (case hd => rfl); (case hg => rfl); (case hr => first | (go_simp; done) | (go_simp; rfl)); (case hp => exact (Reps.none _ _)); intro v24 w3 ho hb _ _; have HP : Hid (AP w w3 g bm (min most 65535) 0 0 (gF []) [] v24) := Lib.hid ⟨HS.out.to hb, Kd.R_lower ho HS.out.below.size⟩; clear HS ho hb)
    | (go_at_call 9; refine (awake_calls _).mono ?_; rintro e w2 ⟨rfl, hb⟩; have HP0 := Lib.hid (HP.out.to hb); clear HP hb; have HP := HP0; clear HP0))
  go_loopg [6, 7] 40 (fun gh v6 v7 wx => ∃ (i n m : Nat) (x : List S52), Hid (i + gh = 40) ∧ Hid (n ≤ i) ∧ Hid (XOk x m i) ∧ v7 = .int .i64 i ∧ Hid (AP w wx g bm (min most 65535) n m (gF x) x v6))
  case atStart => exact ⟨0, 0, 0, [], Lib.hid rfl, Lib.hid (Nat.le_refl _), Lib.hid XOk.nil, rfl, HP⟩
  case round =>
    clear HP
    obtain ⟨i, n, m, x, hi, hn, hx, rfl, HP⟩ := hrel
    by_cases hin : i < acts.length ∧ i < 40
    · obtain ⟨g1, rfl⟩ : ∃ g1, gk = g1 + 1 := ⟨gk - 1, by have := hi.out; omega⟩
      obtain ⟨hi1, hi2⟩ := hin
      obtain ⟨ad, a, B, c, rfl, ha, q0, q1, hC, hCc⟩ := one_at HA.out i hi1
      have hok := HOK.out a (List.mem_of_getElem? ha)
      replace q0 := (HP.out.ts.below.cell (World.block_lt_of_cell? w _ q0)).trans q0
      replace q1 := (HP.out.ts.below.cell (World.block_lt_of_cell? w _ q1)).trans q1
      obtain ⟨top, L⟩ := a
      simp only at q0 q1 hC hCc hok
      have HL := Lib.hid hok.2
      have HC := Lib.hid (Kd.C_below hC HP.out.ts.below)
      have HCC := Lib.hid hCc
      have HTs := Lib.hid (cutS_size top 30)
      obtain ⟨T, hT⟩ : ∃ T, cutS top 30 = T := ⟨_, rfl⟩
      rw [hT] at HTs
      have HTE := Lib.hid hT
      have HN := Lib.hid (show n < 1000000 by have := hn.out; omega)
      have HLT := Lib.hid HP.out.ts.pt.lt
      have hmin : min (most : Int) 65535 = ((min most 65535 : Nat) : Int) := by omega
      have HMIN := Lib.hid hmin
      have HX := hx
      clear hT hC hCc hok ha hmin hx
      go_upto_region 9 with (go_at_call 12; refine (made_C HC.out HCC.out top).mono ?_; rw [HTE.out]; rintro e w4 hp; obtain ⟨u, rfl, hu, hb⟩ := hp; obtain ⟨Au, cu, rfl⟩ := Kd.R_slice hu; have HU := Lib.hid hu; have HP0 := Lib.hid (HP.out.to hb); clear HP hu hb HC q0 q1; have HP := HP0; clear HP0)
      have HD := Lib.hid (mid_of HP.out HU.out HLT.out (o := .cells #[.bool false, .bool false, .int .u8 0, .int .u32 0, .slice Au (propsOf L).length cu, .string T, .string ⟨#[]⟩] 36))
      have Y := Lib.hid (heap_alloc_new w4 (.cells #[.bool false, .bool false, .int .u8 0, .int .u32 0, .slice Au (propsOf L).length cu, .string T, .string ⟨#[]⟩] 36))
      clear HP HU HLT
      generalize w4.alloc (.cells #[.bool false, .bool false, .int .u8 0, .int .u32 0, .slice Au (propsOf L).length cu, .string T, .string ⟨#[]⟩] 36) = W5 at HD Y ⊢
      generalize w4.heap.size = bx at HD Y ⊢
      have y0 := (blk_cell Y.out 0).trans rfl
      have y1 := (blk_cell Y.out 1).trans rfl
      have y2 := (blk_cell Y.out 2).trans rfl
      have y3 := (blk_cell Y.out 3).trans rfl
      have y4 := (blk_cell Y.out 4).trans rfl
      have y5 := (blk_cell Y.out 5).trans rfl
      have y6 := (blk_cell Y.out 6).trans rfl
      go_upto_region 10 with (go_at_call 11; refine (HD.out.ap.ts.any HN.out HD.out.props HL.out T HTs.out).mono ?_; rintro e w6 hp; obtain ⟨b, s, er, hwb, hr, rfl, hs, hk⟩ := hp; have HD6 := Lib.hid (HD.out.name (gF_next x _ T ▸ hs) hk); have Y6 := Lib.hid ((hk.old bx HD.out.lt.2.2 HD.out.ne).trans Y.out); have HREF := Lib.hid (plays_ref (x := x) (m := m) (i := i) HX.out HL.out hi2 hwb hr); clear hwb hr hs hk HD y0 y1 y2 y3 y4 y5 y6)
      have HX2 := Lib.hid (HX.out.next (Nat.min_le_right most 65535) (oOf L) T b)
      clear HX
      generalize nextX x (stS (min most 65535) (oOf L) T b) T = x' at HX2 HREF HD6
      generalize stM (gF x) m (stS (min most 65535) (oOf L) T b) = m' at HX2 HD6
      have z5 : w6.cell? ⟨bx, 5, none⟩ = some (.string T) := (blk_cell Y6.out 5).trans rfl
      have z4 : w6.cell? ⟨bx, 4, none⟩ = some (.slice Au (propsOf L).length cu) := (blk_cell Y6.out 4).trans rfl
      have hmin := HMIN.out
      have hb6 := Below.refl w6.heap.size w6
      go_region_held3 (fun w' => w'.cell? ⟨bx, 5, none⟩ = some (.string T) ∧ w'.cell? ⟨bx, 4, none⟩ = some (.slice Au (propsOf L).length cu)) (first | exact hs9 | go_keep) (first
        | (go_at_call 15; refine (told_of HD6.out Y6.out _ (by repeat (first | exact Below.refl _ _ | apply below_drew1 | apply pw_below_drewN))).mono ?_; rintro e w7 ⟨A7, c7, rfl, hR7, hb7, hs9⟩; have HR7 := Lib.hid hR7; have HB7 := Lib.hid hb7; clear hR7 hb7)
        | (go_at_call 14; refine (ref_of HD6.out Y6.out _ HB7.out (by repeat (first | exact Below.refl _ _ | apply below_drew1 | apply pw_below_drewN)) HR7.out HREF.out).mono ?_; rintro e w8 ⟨A8, c8, rfl, hap, hs9⟩; have HP := Lib.hid hap; clear hap))
      all_goals
        clear hs9 HB7 HR7 HD6 Y6 HREF hmin hb6 z5 z4
        go_upto_region 15 with (fail)
        go_loopg [76] x'.length (fun gh v76 wx => ∃ j : Nat, Hid (j + gh = x'.length) ∧ v76 = .int .i64 j ∧ Hid (AP w wx g bm (min most 65535) (n + 1) m' (gF x') x' (.slice A8 x'.length c8)))
        case atStart => exact ⟨0, Lib.hid (Nat.zero_add _), rfl, HP⟩
        case round =>
          clear HP
          obtain ⟨j, hj, rfl, HP⟩ := hrel
          cases gk with
          | zero =>
            have hjn : ¬ j < x'.length := by have := hj.out; omega
            go_wp2
            go_roundg g1
            case measure => omega
            case rel => exact ⟨i + 1, n + 1, m', x', Lib.hid (by have := hi.out; omega), Lib.hid (by have := hn.out; omega), HX2, rfl, HP⟩
          | succ g2 =>
            have hjn : j < x'.length := by have := hj.out; omega
            obtain ⟨_, hle, hCx⟩ := Kd.R_reads' HP.out.row
            obtain ⟨ax, hA8, hc0, hc1⟩ := at_T52 hCx (j : Int) (by omega) (by omega)
            cases hA8
            obtain ⟨N, hN, hN32⟩ := HX2.out.num _ (rd52_mem x' j hjn)
            rw [hN] at hc0
            rw [Int.toNat_natCast] at hc0 hc1
            generalize (rd_T52 x' (j : Int)).f1 = sx at hc1
            have hb2 : x'.length < 4611686018427387904 := by have := HX2.out.len; omega
            obtain ⟨r1, hr1⟩ : ∃ r1, (gF x' N).getD ⟨#[]⟩ = r1 := ⟨_, rfl⟩
            obtain ⟨r2, hr2⟩ : ∃ r2, (gF x' N).isSome = r2 := ⟨_, rfl⟩
            have HG := Lib.hid (get17_f x' (N : Int) 100 hb2 (by have := HX2.out.len; omega))
            rw [getX_eq, hr1, hr2] at HG
            have HT := Lib.hid (fun W (hp : PT W w.heap.size g bm (min most 65535) (n + 1) m' (gF x')) => tget_calls hp N hN32)
            rw [hr1, hr2] at HT
            have HLE := Lib.hid hle
            clear hr1 hr2 hb2 hCx hle hN
            go_upto_region 17 with (fail)
            have HP2 := Lib.hid (HP.out.to ((Below.refl wr.heap.size wr).alloc (Nat.le_refl _) (.cells #[.int .u32 N, .string sx] 52)))
            have YB := Lib.hid (heap_alloc_new wr (.cells #[.int .u32 N, .string sx] 52))
            clear HP hc0 hc1
            generalize wr.alloc (.cells #[.int .u32 N, .string sx] 52) = W9 at HP2 YB ⊢
            generalize wr.heap.size = b9 at YB ⊢
            have yb0 := (blk_cell YB.out 0).trans rfl
            go_wp2_with (first
              | (go_at_call 16; refine (HT.out _ HP2.out.ts.pt).mono ?_; rintro e w9 ⟨rfl, rfl⟩)
              | (go_at_call 17; refine (switchboardref17_Get.calls 100 _ _ x' _ _ _ _ (Kd.R_reads' HP2.out.row).2.2 HLE.out HG.out).mono ?_; rintro e w10 ⟨rfl, hb⟩; have HP3 := Lib.hid (HP2.out.to hb); clear HP2 hb))
            go_roundg g2
            case measure => omega
            case rel => exact ⟨j + 1, Lib.hid (by have := hj.out; omega), (by have h1 := HX2.out.len; have h2 : wrap64 ((j : Int) + 1) = j + 1 := (by unfold wrap64; omega); simp [h2]), HP3⟩
    · have HT0 := Lib.hid (tget_calls HP.out.ts.pt 0 (by decide))
      rw [hx.out.zero] at HT0
      have hle := hx.out.le
      have hle2 : ((m : Int) ≤ (x.length : Int)) := by omega
      obtain ⟨A8, c8, rfl⟩ := Kd.R_slice HP.out.row
      have HX := hx
      clear hx hi hn
      by_cases hi1 : i < acts.length
      · have hi2 : ¬ i < 40 := fun h => hin ⟨hi1, h⟩
        clear hin
        go_wp2_with (first
          | (go_at_call 16; refine HT0.out.mono ?_; rintro e w9 ⟨rfl, rfl⟩)
          | (go_at_call 13; refine (tlen_calls HP.out.ts.pt).mono ?_; rintro e w6 ⟨rfl, rfl⟩))
        go_ret
        exact ⟨rfl, HP.out.ts.below⟩
      · clear hin
        go_wp2_with (first
          | (go_at_call 16; refine HT0.out.mono ?_; rintro e w9 ⟨rfl, rfl⟩)
          | (go_at_call 13; refine (tlen_calls HP.out.ts.pt).mono ?_; rintro e w6 ⟨rfl, rfl⟩))
        go_ret
        exact ⟨rfl, HP.out.ts.below⟩
open Go.ChangeShapes Go.WideShapes Go.Deep
section
variable {H : Type} {enc : TypeId × Value → H} {P : Program} {W : World} {base : Nat} {sp : Nat → Bool} {held : Bool}
theorem cells_at {W : World} {base : Nat} : ∀ {n : Nat} {a : Addr} {cs : List Value}, W.cells? base a n = some cs → cs.length = n ∧ ∀ i u, cs[i]? = some u → W.cell? (a.add i) = some u := by
  intro n a cs h
  unfold World.cells? at h
  split at h
  · have hl := mapM_some_length h
    refine ⟨by simpa using hl, fun i u hu => ?_⟩
    have hi : i < cs.length := (List.getElem?_eq_some_iff.1 hu).1
    have hi' : i < n := by simp at hl; omega
    have := mapM_some_get h i i (by simp [hi'])
    rw [this, hu]
  · cases h

theorem C_of_trod {α : Type} (d : Kd α) (Pr : α → Prop) {t e : TypeId} {B : Nat} {A : Option Addr} {len cap : Nat} {dd : DataW H} {ps : List MemPlace} {ts : List TypeId} {ds : List (DataW H)} {j : Nat}
    (hu : P.underlying t = some (.slice e)) (hsz : P.cellsOf e = d.sz) (hB : P.bytesOf e = B)
    (hel : ∀ (n : Nat) (cs : List Value) (x : DataW H × List MemPlace), DataW.trod enc P W base sp held n e cs = some x → ∃ a : α, d.K W a cs ∧ Pr a)
    (hw : (DataW.weightsEach P ts ds).all (· ≤ reachBytes) = true) (ht : ts[j]? = some t) (hd : ds[j]? = some dd)
    (h : DataW.Trod enc P W base sp held t (.slice A len cap) dd ps) :
    ∃ l : List α, len = l.length ∧ d.C W A l.length l ∧ l.length ≤ cap ∧ (∀ a ∈ l, Pr a) ∧ l.length * B ≤ 140737488351232 := by
  classical
  obtain ⟨fuel, hf⟩ := h
  rcases open_slice hu hf with ⟨hcs, _⟩ | ⟨a, l, c, m, n, D, Pl, hcs, _, hl, hm, hmm, hx, hc⟩
  · simp [Value.cells] at hcs
    obtain ⟨rfl, rfl, rfl⟩ := hcs
    exact ⟨[], rfl, Kd.C_nil d W, by simp, by simp, by simp⟩
  · simp [Value.cells] at hcs
    obtain ⟨rfl, rfl, rfl⟩ := hcs
    obtain ⟨hx, _⟩ := Prod.mk.inj hx
    have hlm : len ≤ m := by rw [hmm]; split <;> omega
    have hne : ∀ i, i < len → ∃ x : α, Pr x ∧ ∃ cs, cs.length = d.sz ∧ d.K W x cs ∧ ∀ q u, cs[q]? = some u → W.cell? (a.add (i * d.sz + q)) = some u := by
      intro i hi
      obtain ⟨cs', h1, h2⟩ := hc i (by omega)
      rw [hsz] at h1
      obtain ⟨x, hK, hp⟩ := hel n cs' _ h2
      obtain ⟨hl1, hl2⟩ := cells_at h1
      exact ⟨x, hp, cs', hl1, hK, fun q u hq => by have := hl2 q u hq; rwa [Deep.add_add] at this⟩
    rcases Nat.eq_zero_or_pos len with h0 | h0
    · subst h0
      exact ⟨[], rfl, ⟨rfl, by simp, fun h => absurd h (Nat.lt_irrefl 0)⟩, by simp, by simp, by simp⟩
    · haveI : Inhabited α := ⟨Classical.choose (hne 0 h0)⟩
      obtain ⟨f, hfn⟩ := choose_lt hne
      have hlen : ((List.range len).map f).length = len := by simp
      refine ⟨(List.range len).map f, hlen.symm, ⟨rfl, by rw [hlen]; unfold maxLen at hm; omega, fun _ => ⟨a, rfl, fun i p hp => ?_⟩⟩, by rw [hlen]; exact hl, fun x hx => ?_, ?_⟩
      · have hi : i < len := by
          have := (List.getElem?_eq_some_iff.1 hp).1
          omega
        rw [List.getElem?_map, List.getElem?_range hi] at hp
        simp only [Option.map_some, Option.some.injEq] at hp
        subst hp
        obtain ⟨_, cs, h1, h2, h3⟩ := hfn i hi
        exact ⟨cs, h1, h2, h3⟩
      · obtain ⟨i, hi, rfl⟩ := List.mem_map.1 hx
        exact (hfn i (List.mem_range.1 hi)).1
      · rw [hlen]
        have hd' := hd
        rw [hx] at hd'
        have z := sized_slice hw ht hd' hu
        rw [hB] at z
        refine Nat.le_trans ?_ z
        refine Nat.mul_le_mul_right _ ?_
        simp only [List.length_map, List.length_range]
        omega
end

section
variable {H : Type} {enc : TypeId × Value → H} {P : Program} {W : World} {base : Nat} {sp : Nat → Bool} {held : Bool}
theorem C_of_trod' {α : Type} (d : Kd α) (Pr : α → Prop) {t e : TypeId} {A : Option Addr} {len cap fuel : Nat} {x : DataW H × List MemPlace}
    (hu : P.underlying t = some (.slice e)) (hsz : P.cellsOf e = d.sz)
    (hel : ∀ (n : Nat) (cs : List Value) (x : DataW H × List MemPlace), DataW.trod enc P W base sp held n e cs = some x → ∃ a : α, d.K W a cs ∧ Pr a)
    (hf : DataW.trod enc P W base sp held fuel t [.slice A len cap] = some x) :
    ∃ l : List α, len = l.length ∧ d.C W A l.length l ∧ l.length ≤ cap ∧ (∀ a ∈ l, Pr a) := by
  classical
  rcases open_slice hu hf with ⟨hcs, _⟩ | ⟨a, l, c, m, n, D, Pl, hcs, _, hl, hm, hmm, hx, hc⟩
  · simp at hcs
    obtain ⟨rfl, rfl, rfl⟩ := hcs
    exact ⟨[], rfl, Kd.C_nil d W, by simp, by simp⟩
  · simp at hcs
    obtain ⟨rfl, rfl, rfl⟩ := hcs
    have hne : ∀ i, i < len → ∃ x : α, Pr x ∧ ∃ cs, cs.length = d.sz ∧ d.K W x cs ∧ ∀ q u, cs[q]? = some u → W.cell? (a.add (i * d.sz + q)) = some u := by
      intro i hi
      have hlm : len ≤ m := by rw [hmm]; split <;> omega
      obtain ⟨cs', h1, h2⟩ := hc i (by omega)
      rw [hsz] at h1
      obtain ⟨x, hK, hp⟩ := hel n cs' _ h2
      obtain ⟨hl1, hl2⟩ := cells_at h1
      exact ⟨x, hp, cs', hl1, hK, fun q u hq => by have := hl2 q u hq; rwa [Deep.add_add] at this⟩
    rcases Nat.eq_zero_or_pos len with h0 | h0
    · subst h0
      exact ⟨[], rfl, ⟨rfl, by simp, fun h => absurd h (Nat.lt_irrefl 0)⟩, by simp, by simp⟩
    · haveI : Inhabited α := ⟨Classical.choose (hne 0 h0)⟩
      obtain ⟨f, hfn⟩ := choose_lt hne
      have hlen : ((List.range len).map f).length = len := by simp
      refine ⟨(List.range len).map f, hlen.symm, ⟨rfl, by rw [hlen]; unfold maxLen at hm; omega, fun _ => ⟨a, rfl, fun i p hp => ?_⟩⟩, by rw [hlen]; exact hl, fun x hx => ?_⟩
      · have hi : i < len := by
          have := (List.getElem?_eq_some_iff.1 hp).1
          omega
        rw [List.getElem?_map, List.getElem?_range hi] at hp
        simp only [Option.map_some, Option.some.injEq] at hp
        subst hp
        obtain ⟨_, cs, h1, h2, h3⟩ := hfn i hi
        exact ⟨cs, h1, h2, h3⟩
      · obtain ⟨i, hi, rfl⟩ := List.mem_map.1 hx
        exact (hfn i (List.mem_range.1 hi)).1
end
section
variable {H : Type} {enc : TypeId × Value → H} {W : World} {base : Nat} {sp : Nat → Bool} {held : Bool}
theorem u32_of_trod (n : Nat) (cs : List Value) (x : DataW H × List MemPlace) (h : DataW.trod enc Try.prog W base sp held n 22 cs = some x) : ∃ a : Int, (Kd.int .u32).K W a cs ∧ (0 ≤ a ∧ a < 4294967296) := by
  obtain ⟨a, ha, h2⟩ := DataW.trod_int Try.underlying22 h
  exact ⟨a, ha, u32_bounds h2.2⟩
end
section
variable {H : Type} {enc : TypeId × Value → H} {W : World} {base : Nat} {sp : Nat → Bool} {held : Bool}
theorem one_of_trod (n : Nat) (cs : List Value) (x : DataW H × List MemPlace) (h : DataW.trod enc Try.prog W base sp held n 39 cs = some x) : ∃ a : SOne, kO.K W a cs ∧ oneOk a := by
  obtain ⟨y0, y1, m, _, hl, h0, h1⟩ := trod_struct2 Try.underlying39 h
  have e1 : Try.prog.cellsOf 39 = 2 := by kernel_rfl
  have e2 : Try.prog.cellsOf 9 = 1 := by kernel_rfl
  have e3 : Try.prog.cellsOf 24 = 1 := by kernel_rfl
  rw [e1] at hl
  match cs, hl with
  | [c0, c1], _ =>
    simp only [e2, e3, List.drop_zero, List.take_succ_cons, List.take_zero, List.drop_succ_cons] at h0 h1
    obtain ⟨s, hs, _, hsz⟩ := DataW.trod_string Try.underlying9 h0
    obtain ⟨B, l, c, hc⟩ := Joins.slice_form Try.underlying24 h1
    cases hs; cases hc
    obtain ⟨l, rfl, hC, hlc, hp⟩ := C_of_trod' (Kd.int .u32) (fun a => 0 ≤ a ∧ a < 4294967296) Try.underlying24 (by kernel_rfl) u32_of_trod h1
    exact ⟨⟨s, l⟩, ⟨B, c, rfl, hC, hlc⟩, hsz, hp⟩
theorem open_ones {A : Option Addr} {len cap : Nat} {dd : DataW H} {ps : List MemPlace} {ts : List TypeId} {ds : List (DataW H)} (hw : (DataW.weightsEach Try.prog ts ds).all (· ≤ reachBytes) = true) {j : Nat} (ht : ts[j]? = some 48) (hd : ds[j]? = some dd)
    (h : DataW.Trod enc Try.prog W base sp held 48 (.slice A len cap) dd ps) :
    ∃ l : List SOne, len = l.length ∧ Kd.C kO W A l.length l ∧ l.length ≤ cap ∧ (∀ a ∈ l, oneOk a) ∧ l.length * 40 ≤ 140737488351232 :=
  C_of_trod kO oneOk Try.underlying48 (by kernel_rfl) (by kernel_rfl) one_of_trod hw ht hd h
end
theorem plays_any (a0 : Int) (A : Option Addr) (cp : Nat) (acts : List SOne) (w : World) (h0 : (Lit.int .u32 a0).wf = true) (hr : Kd.C kO w A acts.length acts) (hcp : acts.length ≤ cp) (hy : (∀ a ∈ acts, oneOk a) ∧ acts.length * 40 ≤ 140737488351232) :
    Calls Try.prog 7 #[.int .u32 a0, .slice A acts.length cp] w fun e w' => e = .returned (.bool true) ∧ Below w.heap.size w w' := by
  have p0 := u32_bounds h0
  have := plays_nat a0.toNat (by omega) w A cp acts hr hy.1 hcp (by have := hy.2; omega)
  rwa [Int.toNat_of_nonneg p0.1] at this
end Go.Proofs.Ytjlohmhmnghjkaa
