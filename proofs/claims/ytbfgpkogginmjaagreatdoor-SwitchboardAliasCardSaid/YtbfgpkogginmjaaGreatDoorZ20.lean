/- Parts of a proof about aliases: S2, S3, S4, S5, S6, S8, S10, S11, S12, S14, S15, S16, S17, S21, S22, S23, S24, S25, S28b, S29. -/
import Derived.Test.YtbfgpkogginmjaaGreatDoorZ1
import Derived.Test.YtbfgpkogginmjaaGreatDoorZ9
import Derived.Test.YtbfgpkogginmjaaGreatDoorZ11
import Derived.Test.YtbfgpkogginmjaaGreatDoorZ13
section
namespace Go.Proofs.YtbfgpkogginmjaaGreatDoor
open Go.RowKit Go.Lib Go.Proofs.YtbfgpkogginmjaaGreatDoorW.PrintWords Go.Proofs.YtbfgpkogginmjaaGreatDoor.PSwitchboardGreat
set_option linter.unusedVariables false
set_option linter.unusedSimpArgs false
theorem IN.drN {w : World} {g : Nat} {s : ByteArray} {er : Int} (h : IN w g s er) (n : Nat) : IN (w.drewN n) g s er := h
theorem chg_drN {S : Nat → Prop} {w w1 : World} (h : Chg S w w1) (n : Nat) : Chg S w (w1.drewN n) := ⟨h.os, h.tape, h.output, h.size, h.block⟩
set_option maxHeartbeats 1000000 in
set_option maxRecDepth 1000000 in
theorem err_same {w : World} {g : Nat} {s : ByteArray} {er : Int} (h : IN w g s er) : Calls Tryz.prog 66 #[.pointer (some ⟨g, 0, none⟩)] w fun e w' => e = .returned (.int .i64 er) ∧ w' = w := by
  have h1 := cell_in1 h
  clear h
  go_enter Tryz.func66, Tryz.ntmps66
  go_wp2
  go_ret
  exact ⟨rfl, rfl⟩
theorem IN.setc {w : World} {g : Nat} {s : ByteArray} {er : Int} (h : IN w g s er) (b i : Nat) (u : Value) (hg : g ≠ b) : IN (w.setCell ⟨b, i, none⟩ u) g s er := h.to (S := fun k => k = b) ⟨rfl, rfl, rfl, by simp [World.setCell], fun k _ hn => Below.heap_setCell w ⟨b, i, none⟩ u k hn⟩ hg
theorem blk_sfar {w : World} {i b : Nat} {o : Obj} (h : w.heap[i]? = some o) (j : Nat) (u : Value) (hne : i ≠ b) : (w.setCell ⟨b, j, none⟩ u).heap[i]? = some o := (Below.heap_setCell w ⟨b, j, none⟩ u i hne).trans h
theorem rcell {w : World} {bx : Nat} {t : TypeId} {a0 a1 a2 a3 a4 : Value} (h : w.heap[bx]? = some (.cells #[a0, a1, a2, a3, a4] t (0, 0))) : w.cell? ⟨bx, 0, none⟩ = some a0 ∧ w.cell? ⟨bx, 1, none⟩ = some a1 ∧ w.cell? ⟨bx, 2, none⟩ = some a2 ∧ w.cell? ⟨bx, 3, none⟩ = some a3 ∧ w.cell? ⟨bx, 4, none⟩ = some a4 :=
  ⟨(blk_cell h 0).trans rfl, (blk_cell h 1).trans rfl, (blk_cell h 2).trans rfl, (blk_cell h 3).trans rfl, (blk_cell h 4).trans rfl⟩
end Go.Proofs.YtbfgpkogginmjaaGreatDoor
end
section
namespace Go.Proofs.YtbfgpkogginmjaaGreatDoor
open Go.RowKit Go.Lib Go.Proofs.YtbfgpkogginmjaaGreatDoorW.PrintWords Go.Proofs.YtbfgpkogginmjaaGreatDoor.PSwitchboardGreat
set_option linter.unusedVariables false
set_option linter.unusedSimpArgs false
theorem info144 : (Tryz.prog.info? 38).map (fun i => (i.zero, i.size, i.bytes)) = some (some (.agg #[.int .i64 0, .int .u32 0, .string ⟨#[]⟩, .string ⟨#[]⟩]), 4, 48) := by kernel_rfl
def PO (w : World) (B : Nat) (ok : Nat → Prop) (v : Value) (L : List PR) : Prop := k144.R 38 w B ok v (L.map PR.m)
section
variable {w w' : World} {B : Nat} {ok ok' S : Nat → Prop} {v : Value} {L : List PR}
theorem PO.below (h : PO w B ok v L) (hb : Below w.heap.size w w') : PO w' B ok v L := Kd.R_below h hb
theorem PO.mono (h : PO w B ok v L) (hk : ∀ k, ok k → ok' k) : PO w B ok' v L := Kd.R_mono h hk
theorem PO.lim (h : PO w B ok v L) : PO w B (fun k => ok k ∧ k < w.heap.size) v L := Kd.R_mono (Kd.R_bound h) (fun k hk => ⟨hk.1, hk.2.2.1⟩)
theorem PO.to (h : PO w B ok v L) (hc : Chg S w w') (hS : ∀ k, S k → ¬ ok k ∨ ∃ cs t, w.heap[k]? = some (.cells cs t (0, 0)) ∧ t ≠ 38) : PO w' B ok v L := by
  refine Kd.R_mono (Kd.R_step (Kd.R_bound h) (fun k hk hlt => hc.block k hlt (fun hs => ?_))) (fun k hk => hk.1)
  rcases hS k hs with h1 | ⟨cs, t, h1, h2⟩
  · exact h1 hk.1
  · obtain ⟨q, hq, cells, hcl⟩ := hk.2.2.2
    have hq2 : q = 38 := by
      have : q ∈ [38] := hq
      simpa using this
    subst hq2
    rw [h1] at hcl
    injection hcl with hcl
    injection hcl with _ hcl _
    exact h2 hcl
theorem PO.form (h : PO w B ok v L) : ∃ A c, v = .slice A L.length c ∧ L.length ≤ c ∧ PL w A L := by
  obtain ⟨A, c, h1, h2, h3⟩ := Kd.R_reads h
  rw [List.length_map] at h1 h2 h3
  exact ⟨A, c, h1, h2, h3⟩
theorem PO.nil (w : World) (B : Nat) (ok : Nat → Prop) : PO w B ok (.slice none 0 0) [] := Kd.R_nil _ _ _ _ _
end
set_option maxHeartbeats 1000000 in
set_option maxRecDepth 1000000 in
theorem left_same {w : World} {g : Nat} {s : ByteArray} {er : Int} (h : IN w g s er) : Calls Tryz.prog 68 #[.pointer (some ⟨g, 0, none⟩)] w fun e w' => e = .returned (.int .i64 s.size) ∧ w' = w := by
  have h1 : w.cell? ⟨g, 0, none⟩ = some (.string s) := (blk_cell h 0).trans rfl
  clear h
  go_enter Tryz.func68, Tryz.ntmps68
  go_wp2
  go_ret
  exact ⟨rfl, rfl⟩
end Go.Proofs.YtbfgpkogginmjaaGreatDoor
end
section
namespace Go.Proofs.YtbfgpkogginmjaaGreatDoor
open Go.RowKit Go.Lib Go.Proofs.YtbfgpkogginmjaaGreatDoorW.PrintWords Go.Proofs.YtbfgpkogginmjaaGreatDoor.PSwitchboardGreat
set_option linter.unusedVariables false
set_option linter.unusedSimpArgs false
theorem PO.row {w : World} {B : Nat} {ok : Nat → Prop} {v : Value} {L : List PR} (h : PO w B ok v L) : ∀ k, v.ownBlock = some k → ∃ cs, w.heap[k]? = some (.cells cs 38 (0, 0)) := by
  intro k hk
  obtain ⟨q, hq, cells, hcl⟩ := ((Kd.R_bound h).1 k hk).2.2.2
  have hq2 : q = 38 := by
    have : q ∈ [38] := hq
    simpa using this
  exact ⟨cells, hq2 ▸ hcl⟩
theorem IN.row {w w1 : World} {g B : Nat} {s : ByteArray} {er : Int} {ok : Nat → Prop} {v : Value} {L : List PR} (h : IN w g s er) (hp : PO w B ok v L) (hg : w.grownBy w1 v.ownBlock) : IN w1 g s er := by
  refine h.to (S := fun k => v.ownBlock = some k) (Chg.of_grown hg (fun k hk => hk)) (fun hk => ?_)
  obtain ⟨cs, hc⟩ := hp.row g hk
  unfold IN at h
  rw [h] at hc
  injection hc with hc
  injection hc with _ hc _
  exact absurd hc (by decide)
theorem own_ge {w : World} {B : Nat} {ok : Nat → Prop} {v : Value} {L : List PR} (h : PO w B ok v L) : ∀ k, v.ownBlock = some k → B ≤ k := fun k hk => ((Kd.R_bound h).1 k hk).2.1
theorem PO.read {w : World} {B : Nat} {ok : Nat → Prop} {A : Option Addr} {n c : Nat} {L : List PR} (h : PO w B ok (.slice A n c) L) : PL w A L ∧ L.length ≤ c := by
  obtain ⟨h1, h2, h3⟩ := Kd.R_reads' h
  rw [List.length_map] at h1 h3
  exact ⟨h3, by omega⟩
theorem PO.zero {w : World} {B : Nat} {ok : Nat → Prop} {v : Value} {L : List PR} (h : PO w B ok v L) : PO w 0 ok v L := Kd.R_lower h (Nat.zero_le _)
theorem chg_setc {w : World} (b i : Nat) (u : Value) : Chg (fun k => k = b) w (w.setCell ⟨b, i, none⟩ u) := ⟨rfl, rfl, rfl, by simp [World.setCell], fun k _ hn => Below.heap_setCell w ⟨b, i, none⟩ u k hn⟩
theorem PO.setc {w : World} {B : Nat} {ok : Nat → Prop} {v : Value} {L : List PR} (h : PO w B ok v L) (b i : Nat) (u : Value) {cs : Array Value} {t : TypeId} (hb : w.heap[b]? = some (.cells cs t (0, 0))) (ht : t ≠ 38) : PO (w.setCell ⟨b, i, none⟩ u) B ok v L := h.to (chg_setc b i u) (fun k hk => .inr ⟨cs, t, hk ▸ hb, ht⟩)
theorem PO.rd {w w1 : World} {B g : Nat} {s : ByteArray} {er : Int} {ok : Nat → Prop} {v : Value} {L : List PR} (h : PO w B ok v L) (hi : IN w g s er) (hc : Chg (fun i => i = g) w w1) : PO w1 B ok v L := h.to hc (fun k hk => .inr ⟨_, _, hk ▸ hi, by decide⟩)
theorem bset {B : Nat} {w w' : World} (h : Below B w w') (b i : Nat) (u : Value) (hb : B ≤ b) : Below B w (w'.setCell ⟨b, i, none⟩ u) := h.setCell hb u
theorem lok_nil : LOk [] := ⟨fun p hp => (by cases hp), by show 0 ≤ 100000; decide, by show 0 ≤ 1000000; decide⟩
theorem qcell {w : World} {bx : Nat} {t : TypeId} {a0 a1 a2 a3 : Value} (h : w.heap[bx]? = some (.cells #[a0, a1, a2, a3] t (0, 0))) : w.cell? ⟨bx, 0, none⟩ = some a0 ∧ w.cell? ⟨bx, 1, none⟩ = some a1 ∧ w.cell? ⟨bx, 2, none⟩ = some a2 ∧ w.cell? ⟨bx, 3, none⟩ = some a3 :=
  ⟨(blk_cell h 0).trans rfl, (blk_cell h 1).trans rfl, (blk_cell h 2).trans rfl, (blk_cell h 3).trans rfl⟩
structure CD where
  p : Bool
  c : Nat
  L : List PR
structure CD.Ok (d : CD) : Prop where
  c : d.c < 256
  L : LOk d.L
def CD.v (d : CD) (A : Option Addr) (cc : Nat) : Value := .agg #[.bool d.p, .int .u8 (d.c : Nat), .slice A d.L.length cc]
def CD.body (d : CD) : List UInt8 := UInt8.ofNat (if d.p then 1 else 0) :: UInt8.ofNat d.c :: putB d.L
theorem ncell {w : World} {bx : Nat} {t : TypeId} {a0 a1 a2 a3 a4 a5 a6 a7 a8 a9 a10 a11 a12 a13 : Value} (h : w.heap[bx]? = some (.cells #[a0, a1, a2, a3, a4, a5, a6, a7, a8, a9, a10, a11, a12, a13] t (0, 0))) : w.cell? ⟨bx, 0, none⟩ = some a0 ∧ w.cell? ⟨bx, 1, none⟩ = some a1 ∧ w.cell? ⟨bx, 2, none⟩ = some a2 ∧ w.cell? ⟨bx, 3, none⟩ = some a3 ∧ w.cell? ⟨bx, 4, none⟩ = some a4 ∧ w.cell? ⟨bx, 5, none⟩ = some a5 ∧ w.cell? ⟨bx, 6, none⟩ = some a6 ∧ w.cell? ⟨bx, 7, none⟩ = some a7 ∧ w.cell? ⟨bx, 8, none⟩ = some a8 ∧ w.cell? ⟨bx, 9, none⟩ = some a9 ∧ w.cell? ⟨bx, 10, none⟩ = some a10 ∧ w.cell? ⟨bx, 11, none⟩ = some a11 ∧ w.cell? ⟨bx, 12, none⟩ = some a12 ∧ w.cell? ⟨bx, 13, none⟩ = some a13 :=
  ⟨(blk_cell h 0).trans rfl, (blk_cell h 1).trans rfl, (blk_cell h 2).trans rfl, (blk_cell h 3).trans rfl, (blk_cell h 4).trans rfl, (blk_cell h 5).trans rfl, (blk_cell h 6).trans rfl, (blk_cell h 7).trans rfl, (blk_cell h 8).trans rfl, (blk_cell h 9).trans rfl, (blk_cell h 10).trans rfl, (blk_cell h 11).trans rfl, (blk_cell h 12).trans rfl, (blk_cell h 13).trans rfl⟩
structure TD where
  id : ByteArray
  WL : List PR
  wt : ByteArray
  wp : ByteArray
  us : ByteArray
  pa : ByteArray
structure TD.Ok (d : TD) : Prop where
  id : d.id.size ≤ 65535
  WL : LOk d.WL
  wt : d.wt.size ≤ 65535
  wp : d.wp.size ≤ 65535
  us : d.us.size ≤ 65535
  pa : d.pa.size ≤ 65535
theorem chg_both {w W W' : World} {g bp : Nat} (h : Chg (fun i => i = g ∨ i = bp) w W) (hc : Chg (fun i => i = g) W W') (i : Nat) (u : Value) : Chg (fun i => i = g ∨ i = bp) w (W'.setCell ⟨bp, i, none⟩ u) :=
  (h.trans (hc.mono (fun k hk => .inl hk))).setCell (p := ⟨bp, i, none⟩) (.inl (.inr rfl)) u
structure ND where
  cl : Bool
  keep : Nat
  L : List PR
  hw : Bool
  q : Nat
  rt : Bool
  hu : Bool
  hp : Bool
  t : TD
structure ND.Ok (d : ND) : Prop where
  keep : d.keep < 65536
  L : LOk d.L
  q : d.q < 4
  t : d.t.Ok
theorem set14 {w : World} {b : Nat} {t : TypeId} {a0 a1 a2 a3 a4 a5 a6 a7 a8 a9 a10 a11 a12 a13 : Value} (h0 : w.heap[b]? = some (.cells #[a0, a1, a2, a3, a4, a5, a6, a7, a8, a9, a10, a11, a12, a13] t (0, 0))) (ht : t ≠ 38) (v0 v1 v2 v3 v4 v5 v6 v7 v8 v9 v10 v11 v12 v13 : Value) : ∃ W, W = ((((((((((((((w.setCell ⟨b, 0, none⟩ v0).setCell ⟨b, 1, none⟩ v1).setCell ⟨b, 2, none⟩ v2).setCell ⟨b, 3, none⟩ v3).setCell ⟨b, 4, none⟩ v4).setCell ⟨b, 5, none⟩ v5).setCell ⟨b, 6, none⟩ v6).setCell ⟨b, 7, none⟩ v7).setCell ⟨b, 8, none⟩ v8).setCell ⟨b, 9, none⟩ v9).setCell ⟨b, 10, none⟩ v10).setCell ⟨b, 11, none⟩ v11).setCell ⟨b, 12, none⟩ v12).setCell ⟨b, 13, none⟩ v13) ∧ W.heap[b]? = some (.cells #[v0, v1, v2, v3, v4, v5, v6, v7, v8, v9, v10, v11, v12, v13] t (0, 0)) ∧ (∀ B w0, Below B w0 w → B ≤ b → Below B w0 W) ∧ (∀ B ok v L, PO w B ok v L → PO W B ok v L) := by
  obtain ⟨w1, hw1⟩ : ∃ W, W = w.setCell ⟨b, 0, none⟩ v0 := ⟨_, rfl⟩
  have h1 : w1.heap[b]? = some (.cells #[v0, a1, a2, a3, a4, a5, a6, a7, a8, a9, a10, a11, a12, a13] t (0, 0)) := hw1 ▸ blk_put h0 0 v0 rfl
  obtain ⟨w2, hw2⟩ : ∃ W, W = w1.setCell ⟨b, 1, none⟩ v1 := ⟨_, rfl⟩
  have h2 : w2.heap[b]? = some (.cells #[v0, v1, a2, a3, a4, a5, a6, a7, a8, a9, a10, a11, a12, a13] t (0, 0)) := hw2 ▸ blk_put h1 1 v1 rfl
  obtain ⟨w3, hw3⟩ : ∃ W, W = w2.setCell ⟨b, 2, none⟩ v2 := ⟨_, rfl⟩
  have h3 : w3.heap[b]? = some (.cells #[v0, v1, v2, a3, a4, a5, a6, a7, a8, a9, a10, a11, a12, a13] t (0, 0)) := hw3 ▸ blk_put h2 2 v2 rfl
  obtain ⟨w4, hw4⟩ : ∃ W, W = w3.setCell ⟨b, 3, none⟩ v3 := ⟨_, rfl⟩
  have h4 : w4.heap[b]? = some (.cells #[v0, v1, v2, v3, a4, a5, a6, a7, a8, a9, a10, a11, a12, a13] t (0, 0)) := hw4 ▸ blk_put h3 3 v3 rfl
  obtain ⟨w5, hw5⟩ : ∃ W, W = w4.setCell ⟨b, 4, none⟩ v4 := ⟨_, rfl⟩
  have h5 : w5.heap[b]? = some (.cells #[v0, v1, v2, v3, v4, a5, a6, a7, a8, a9, a10, a11, a12, a13] t (0, 0)) := hw5 ▸ blk_put h4 4 v4 rfl
  obtain ⟨w6, hw6⟩ : ∃ W, W = w5.setCell ⟨b, 5, none⟩ v5 := ⟨_, rfl⟩
  have h6 : w6.heap[b]? = some (.cells #[v0, v1, v2, v3, v4, v5, a6, a7, a8, a9, a10, a11, a12, a13] t (0, 0)) := hw6 ▸ blk_put h5 5 v5 rfl
  obtain ⟨w7, hw7⟩ : ∃ W, W = w6.setCell ⟨b, 6, none⟩ v6 := ⟨_, rfl⟩
  have h7 : w7.heap[b]? = some (.cells #[v0, v1, v2, v3, v4, v5, v6, a7, a8, a9, a10, a11, a12, a13] t (0, 0)) := hw7 ▸ blk_put h6 6 v6 rfl
  obtain ⟨w8, hw8⟩ : ∃ W, W = w7.setCell ⟨b, 7, none⟩ v7 := ⟨_, rfl⟩
  have h8 : w8.heap[b]? = some (.cells #[v0, v1, v2, v3, v4, v5, v6, v7, a8, a9, a10, a11, a12, a13] t (0, 0)) := hw8 ▸ blk_put h7 7 v7 rfl
  obtain ⟨w9, hw9⟩ : ∃ W, W = w8.setCell ⟨b, 8, none⟩ v8 := ⟨_, rfl⟩
  have h9 : w9.heap[b]? = some (.cells #[v0, v1, v2, v3, v4, v5, v6, v7, v8, a9, a10, a11, a12, a13] t (0, 0)) := hw9 ▸ blk_put h8 8 v8 rfl
  obtain ⟨w10, hw10⟩ : ∃ W, W = w9.setCell ⟨b, 9, none⟩ v9 := ⟨_, rfl⟩
  have h10 : w10.heap[b]? = some (.cells #[v0, v1, v2, v3, v4, v5, v6, v7, v8, v9, a10, a11, a12, a13] t (0, 0)) := hw10 ▸ blk_put h9 9 v9 rfl
  obtain ⟨w11, hw11⟩ : ∃ W, W = w10.setCell ⟨b, 10, none⟩ v10 := ⟨_, rfl⟩
  have h11 : w11.heap[b]? = some (.cells #[v0, v1, v2, v3, v4, v5, v6, v7, v8, v9, v10, a11, a12, a13] t (0, 0)) := hw11 ▸ blk_put h10 10 v10 rfl
  obtain ⟨w12, hw12⟩ : ∃ W, W = w11.setCell ⟨b, 11, none⟩ v11 := ⟨_, rfl⟩
  have h12 : w12.heap[b]? = some (.cells #[v0, v1, v2, v3, v4, v5, v6, v7, v8, v9, v10, v11, a12, a13] t (0, 0)) := hw12 ▸ blk_put h11 11 v11 rfl
  obtain ⟨w13, hw13⟩ : ∃ W, W = w12.setCell ⟨b, 12, none⟩ v12 := ⟨_, rfl⟩
  have h13 : w13.heap[b]? = some (.cells #[v0, v1, v2, v3, v4, v5, v6, v7, v8, v9, v10, v11, v12, a13] t (0, 0)) := hw13 ▸ blk_put h12 12 v12 rfl
  obtain ⟨w14, hw14⟩ : ∃ W, W = w13.setCell ⟨b, 13, none⟩ v13 := ⟨_, rfl⟩
  have h14 : w14.heap[b]? = some (.cells #[v0, v1, v2, v3, v4, v5, v6, v7, v8, v9, v10, v11, v12, v13] t (0, 0)) := hw14 ▸ blk_put h13 13 v13 rfl
  refine ⟨w14, ?_, h14, fun B w0 hb hB => ?_, fun B ok v L hp => ?_⟩
  · rw [hw14, hw13, hw12, hw11, hw10, hw9, hw8, hw7, hw6, hw5, hw4, hw3, hw2, hw1]
  · rw [hw14, hw13, hw12, hw11, hw10, hw9, hw8, hw7, hw6, hw5, hw4, hw3, hw2, hw1]
    exact (bset (bset (bset (bset (bset (bset (bset (bset (bset (bset (bset (bset (bset (bset hb b 0 _ hB) b 1 _ hB) b 2 _ hB) b 3 _ hB) b 4 _ hB) b 5 _ hB) b 6 _ hB) b 7 _ hB) b 8 _ hB) b 9 _ hB) b 10 _ hB) b 11 _ hB) b 12 _ hB) b 13 _ hB)
  · have p1 : PO w1 B ok v L := hw1 ▸ PO.setc hp b 0 v0 h0 ht
    have p2 : PO w2 B ok v L := hw2 ▸ PO.setc p1 b 1 v1 h1 ht
    have p3 : PO w3 B ok v L := hw3 ▸ PO.setc p2 b 2 v2 h2 ht
    have p4 : PO w4 B ok v L := hw4 ▸ PO.setc p3 b 3 v3 h3 ht
    have p5 : PO w5 B ok v L := hw5 ▸ PO.setc p4 b 4 v4 h4 ht
    have p6 : PO w6 B ok v L := hw6 ▸ PO.setc p5 b 5 v5 h5 ht
    have p7 : PO w7 B ok v L := hw7 ▸ PO.setc p6 b 6 v6 h6 ht
    have p8 : PO w8 B ok v L := hw8 ▸ PO.setc p7 b 7 v7 h7 ht
    have p9 : PO w9 B ok v L := hw9 ▸ PO.setc p8 b 8 v8 h8 ht
    have p10 : PO w10 B ok v L := hw10 ▸ PO.setc p9 b 9 v9 h9 ht
    have p11 : PO w11 B ok v L := hw11 ▸ PO.setc p10 b 10 v10 h10 ht
    have p12 : PO w12 B ok v L := hw12 ▸ PO.setc p11 b 11 v11 h11 ht
    have p13 : PO w13 B ok v L := hw13 ▸ PO.setc p12 b 12 v12 h12 ht
    have p14 : PO w14 B ok v L := hw14 ▸ PO.setc p13 b 13 v13 h13 ht
    exact p14
set_option maxHeartbeats 1000000 in
set_option maxRecDepth 1000000 in
theorem bit_calls (b : Bool) (m : Nat) (w : World) : Calls Tryz.prog 391 #[.bool b, .int .u8 (m : Nat)] w fun e w' => e = .returned (.int .u8 ((if b then m else 0 : Nat) : Nat)) ∧ w' = w := by
  cases b
  all_goals
    go_enter Tryz.func391, Tryz.ntmps391
    go_wp2
    go_ret
    exact ⟨rfl, rfl⟩
set_option maxHeartbeats 4000000 in
set_option maxRecDepth 1000000 in
theorem cktext_calls {w : World} (d : CD) (A : Option Addr) (c : Nat) (hd : d.Ok) (hc : d.L.length ≤ c) (hL : PL w A d.L) : Calls Tryz.prog 392 #[d.v A c] w fun e w' => e = .returned (.string (toB d.body)) ∧ Below w.heap.size w w' := by
  obtain ⟨p, cd, L⟩ := d
  obtain ⟨hcd, hok, hsz, hll⟩ := hd
  unfold CD.v
  simp only at hcd hok hsz hll hc hL ⊢
  have HBIT := Lib.hid (fun W => bit_calls p 1 W)
  rw [show ((1 : Nat) : Int) = 1 from rfl] at HBIT
  have hy1 : (if p then 1 else 0 : Nat) < 256 := by cases p <;> decide
  have HBODY := Lib.hid (show CD.body ⟨p, cd, L⟩ = UInt8.ofNat (if p then 1 else 0) :: UInt8.ofNat cd :: putB L from rfl)
  generalize (if p then 1 else 0 : Nat) = y at HBIT hy1 HBODY
  have HY := Lib.hid hy1
  generalize CD.body ⟨p, cd, L⟩ = BODY at HBODY ⊢
  have HOK := Lib.hid hok
  have HSZ := Lib.hid hsz
  have HPL := Lib.hid hL
  have HCD := Lib.hid hcd
  have HX := Lib.hid (show ((w.alloc (.cells #[.bool p, .int .u8 (cd : Nat), .slice A L.length c] 76)).alloc (.cells #[.slice none 0 0] 59)).heap[w.heap.size]? = some (.cells #[.bool p, .int .u8 (cd : Nat), .slice A L.length c] 76 (0, 0)) from blk_alloc (heap_alloc_new w _) _)
  have HN := Lib.hid (show OW ((w.alloc (.cells #[.bool p, .int .u8 (cd : Nat), .slice A L.length c] 76)).alloc (.cells #[.slice none 0 0] 59)) (w.heap.size + 1) (fun k => w.heap.size ≤ k) [] by
    have := OW.new (w.alloc (.cells #[.bool p, .int .u8 (cd : Nat), .slice A L.length c] 76)) (fun k => w.heap.size ≤ k)
    rw [World.size_alloc] at this
    exact this)
  have HB := Lib.hid (show Below w.heap.size w ((w.alloc (.cells #[.bool p, .int .u8 (cd : Nat), .slice A L.length c] 76)).alloc (.cells #[.slice none 0 0] 59)) from ((Below.refl _ _).alloc (Nat.le_refl _) _).alloc (by rw [World.size_alloc]; omega) _)
  have HL0 := Lib.hid (show ([] : List UInt8).length ≤ 1000000 by show 0 ≤ 1000000; omega)
  have HL1 := Lib.hid (show (([] : List UInt8) ++ [UInt8.ofNat y]).length ≤ 1000000 by show 1 ≤ 1000000; omega)
  clear hok hsz hL hcd hy1
  go_enter Tryz.func392, Tryz.ntmps392
  go_upto_region 2 with (fail)
  generalize ((w.alloc (.cells #[.bool p, .int .u8 (cd : Nat), .slice A L.length c] 76)).alloc (.cells #[.slice none 0 0] 59)) = W0 at HX HB HN ⊢
  obtain ⟨x0, x1, x2⟩ := frcell HX.out
  have HXd := Lib.hid (blk_drew HX.out)
  have HNd := Lib.hid (HN.out.drew)
  have HBd := Lib.hid (below_dr HB.out)
  clear HX HN HB
  go_region_held3 (fun w' => w'.cell? ⟨w.heap.size, 0, none⟩ = some (.bool p) ∧ w'.cell? ⟨w.heap.size, 1, none⟩ = some (.int .u8 (cd : Nat))) (first | exact ⟨x0, x1⟩ | exact ⟨y0, y1⟩ | exact ⟨z0, z1⟩ | go_keep) (first
    | (go_at_call 391; (with_reducible refine (HBIT.out _).mono ?_); rintro e w1 ⟨rfl, rfl⟩)
    | (go_at_call 32; (with_reducible refine (byte_calls HNd.out (fun k hk => Nat.le_trans HBd.out.size hk) HL0.out y HY.out).mono ?_); rintro e w2 ⟨rfl, ho, hc1⟩; have HO2 := Lib.hid ho; have hx := Ch5.blk hc1 HXd.out (by omega) (by decide); have HX2 := Lib.hid hx; have HB2 := Lib.hid (HBd.out.trans (hc1.to_below HBd.out.size (by omega) (fun _ h => h))); obtain ⟨y0, y1, y2⟩ := frcell hx; clear ho hc1 hx)
    | (go_at_call 32; (with_reducible refine (byte_calls HO2.out (fun k hk => Nat.le_trans HB2.out.size hk) HL1.out cd HCD.out).mono ?_); rintro e w3 ⟨rfl, ho, hc1⟩; have HO3 := Lib.hid ho; have hx := Ch5.blk hc1 HX2.out (by omega) (by decide); have HX3 := Lib.hid hx; have HB3 := Lib.hid (HB2.out.trans (hc1.to_below HB2.out.size (by omega) (fun _ h => h))); obtain ⟨z0, z1, z2⟩ := frcell hx; clear ho hc1 hx))
  go_wp2_with (first
      | (go_at_call 385; refine (Put_calls HO3.out HB3.out.size (by show 2 ≤ 400000; omega) A c L hc (HPL.out.to HB3.out) HOK.out HSZ.out hll).mono ?_; rintro e w4 ⟨rfl, ho, hc1⟩; have HO4 := Lib.hid ho; have HB4 := Lib.hid (HB3.out.trans (hc1.to_below HB3.out.size (by omega) (fun _ h => h))); clear ho hc1)
      | (go_at_call 16; refine (text_calls HO4.out).mono ?_; rintro e w5 ⟨rfl, hb2⟩; have HB5 := Lib.hid (HB4.out.trans (hb2.mono HB4.out.size)); clear hb2))
  go_ret
  exact ⟨by rw [HBODY.out]; simp only [List.nil_append, List.append_assoc]; rfl, HB5.out⟩
theorem method_89 (v : Value) (w : World) : (method 611 74 v "Frame").run Tryz.prog w = .ok (389, v) w := by kernel_rfl
set_option maxHeartbeats 4000000 in
set_option maxRecDepth 1000000 in
theorem text_89 {w : World} (v : Value) (k f : Nat) (body : ByteArray) (hk : k < 16) (hf : f < 16) (hb : body.size ≤ 500000) (h : FrameIs w 74 v k f body 389) : Calls Tryz.prog 22 #[.iface 74 v] w fun e w' => e = .returned (.string (toB (frB k f body))) ∧ Below w.heap.size w w' := by
  have HF := Lib.hid h
  go_enter Tryz.func22, Tryz.ntmps22
  have hm := method_89 v
  have HT := Lib.hid (fun W => frtext_calls (w := W) k f body hk hf hb)
  clear hk hf hb h
  go_wp2_with (first
    | (go_at_call 389; refine (HF.out _ (Below.refl _ _)).mono ?_; rintro e w1 ⟨rfl, hb1⟩; have HB1 := Lib.hid hb1; clear hb1)
    | (go_at_call 40; refine (HT.out _).mono ?_; rintro e w2 ⟨rfl, hb1⟩; have HB2 := Lib.hid hb1; clear hb1))
  go_ret
  exact ⟨rfl, HB1.out.trans (HB2.out.mono HB1.out.size)⟩
theorem method_95 (v : Value) (w : World) : (method 611 78 v "Frame").run Tryz.prog w = .ok (393, v) w := by kernel_rfl
set_option maxHeartbeats 4000000 in
set_option maxRecDepth 1000000 in
theorem text_95 {w : World} (v : Value) (k f : Nat) (body : ByteArray) (hk : k < 16) (hf : f < 16) (hb : body.size ≤ 500000) (h : FrameIs w 78 v k f body 393) : Calls Tryz.prog 22 #[.iface 78 v] w fun e w' => e = .returned (.string (toB (frB k f body))) ∧ Below w.heap.size w w' := by
  have HF := Lib.hid h
  go_enter Tryz.func22, Tryz.ntmps22
  have hm := method_95 v
  have HT := Lib.hid (fun W => frtext_calls (w := W) k f body hk hf hb)
  clear hk hf hb h
  go_wp2_with (first
    | (go_at_call 393; refine (HF.out _ (Below.refl _ _)).mono ?_; rintro e w1 ⟨rfl, hb1⟩; have HB1 := Lib.hid hb1; clear hb1)
    | (go_at_call 40; refine (HT.out _).mono ?_; rintro e w2 ⟨rfl, hb1⟩; have HB2 := Lib.hid hb1; clear hb1))
  go_ret
  exact ⟨rfl, HB1.out.trans (HB2.out.mono HB1.out.size)⟩
theorem method_128 (v : Value) (w : World) : (method 611 88 v "Frame").run Tryz.prog w = .ok (396, v) w := by kernel_rfl
set_option maxHeartbeats 4000000 in
set_option maxRecDepth 1000000 in
theorem text_128 {w : World} (v : Value) (k f : Nat) (body : ByteArray) (hk : k < 16) (hf : f < 16) (hb : body.size ≤ 500000) (h : FrameIs w 88 v k f body 396) : Calls Tryz.prog 22 #[.iface 88 v] w fun e w' => e = .returned (.string (toB (frB k f body))) ∧ Below w.heap.size w w' := by
  have HF := Lib.hid h
  go_enter Tryz.func22, Tryz.ntmps22
  have hm := method_128 v
  have HT := Lib.hid (fun W => frtext_calls (w := W) k f body hk hf hb)
  clear hk hf hb h
  go_wp2_with (first
    | (go_at_call 396; refine (HF.out _ (Below.refl _ _)).mono ?_; rintro e w1 ⟨rfl, hb1⟩; have HB1 := Lib.hid hb1; clear hb1)
    | (go_at_call 40; refine (HT.out _).mono ?_; rintro e w2 ⟨rfl, hb1⟩; have HB2 := Lib.hid hb1; clear hb1))
  go_ret
  exact ⟨rfl, HB1.out.trans (HB2.out.mono HB1.out.size)⟩
theorem method_140 (v : Value) (w : World) : (method 611 270 v "Frame").run Tryz.prog w = .ok (414, v) w := by kernel_rfl
set_option maxHeartbeats 4000000 in
set_option maxRecDepth 1000000 in
theorem text_140 {w : World} (v : Value) (k f : Nat) (body : ByteArray) (hk : k < 16) (hf : f < 16) (hb : body.size ≤ 500000) (h : FrameIs w 270 v k f body 414) : Calls Tryz.prog 22 #[.iface 270 v] w fun e w' => e = .returned (.string (toB (frB k f body))) ∧ Below w.heap.size w w' := by
  have HF := Lib.hid h
  go_enter Tryz.func22, Tryz.ntmps22
  have hm := method_140 v
  have HT := Lib.hid (fun W => frtext_calls (w := W) k f body hk hf hb)
  clear hk hf hb h
  go_wp2_with (first
    | (go_at_call 414; refine (HF.out _ (Below.refl _ _)).mono ?_; rintro e w1 ⟨rfl, hb1⟩; have HB1 := Lib.hid hb1; clear hb1)
    | (go_at_call 40; refine (HT.out _).mono ?_; rintro e w2 ⟨rfl, hb1⟩; have HB2 := Lib.hid hb1; clear hb1))
  go_ret
  exact ⟨rfl, HB1.out.trans (HB2.out.mono HB1.out.size)⟩
set_option maxHeartbeats 4000000 in
set_option maxRecDepth 1000000 in
theorem ckframe {w : World} {p : Bool} {cd n c : Nat} {A : Option Addr} {B : ByteArray} (HT : Hid (∀ W, Below w.heap.size w W → Calls Tryz.prog 392 #[.agg #[.bool p, .int .u8 (cd : Nat), .slice A n c]] W fun e w' => e = .returned (.string B) ∧ Below W.heap.size W w')) : Calls Tryz.prog 393 #[.agg #[.bool p, .int .u8 (cd : Nat), .slice A n c]] w (FrPost w 2 0 B) := by
  have HX := Lib.hid (show ((w.alloc (.cells #[.bool p, .int .u8 (cd : Nat), .slice A n c] 78)).alloc (.cells #[.int .i64 0, .int .i64 0, .string ⟨#[]⟩] 128)).heap[w.heap.size]? = some (.cells #[.bool p, .int .u8 (cd : Nat), .slice A n c] 78 (0, 0)) from blk_alloc (heap_alloc_new w _) _)
  have HB := Lib.hid (show Below w.heap.size w ((w.alloc (.cells #[.bool p, .int .u8 (cd : Nat), .slice A n c] 78)).alloc (.cells #[.int .i64 0, .int .i64 0, .string ⟨#[]⟩] 128)) from ((Below.refl _ _).alloc (Nat.le_refl _) _).alloc (by rw [World.size_alloc]; omega) _)
  have HR := Lib.hid (show ((w.alloc (.cells #[.bool p, .int .u8 (cd : Nat), .slice A n c] 78)).alloc (.cells #[.int .i64 0, .int .i64 0, .string ⟨#[]⟩] 128)).heap[w.heap.size + 1]? = some (.cells #[.int .i64 0, .int .i64 0, .string ⟨#[]⟩] 128 (0, 0)) by
    have := heap_alloc_new (w.alloc (.cells #[.bool p, .int .u8 (cd : Nat), .slice A n c] 78)) (.cells #[.int .i64 0, .int .i64 0, .string ⟨#[]⟩] 128)
    rw [World.size_alloc] at this
    exact this)
  go_enter Tryz.func393, Tryz.ntmps393
  go_upto_region 1 with fail
  generalize ((w.alloc (.cells #[.bool p, .int .u8 (cd : Nat), .slice A n c] 78)).alloc (.cells #[.int .i64 0, .int .i64 0, .string ⟨#[]⟩] 128)) = W0 at HX HB HR ⊢
  obtain ⟨x0, x1, x2⟩ := frcell HX.out
  go_wp2_with (first
    | (go_at_call 392; (with_reducible refine (HT.out _ HB.out).mono ?_); rintro e w2 ⟨rfl, hb⟩; have HR2 := Lib.hid (hb.block _ (blk_lt HR.out) |>.trans HR.out); have HB2 := Lib.hid (HB.out.trans (hb.mono HB.out.size)); obtain ⟨r0, r1, r2⟩ := frcell HR2.out; have f0 := blk_frozen HR2.out 0; have f1 := blk_frozen HR2.out 1; have f2 := blk_frozen HR2.out 2; clear hb))
  refine bodyPost_ret (v := fr 2 0 B) (by unfold fr; simp [results, Tryz.results393, go_sem, r0, r1, r2]) rfl ⟨rfl, ?_⟩
  exact ((HB2.out.setCell (by simp; done) _).setCell (by simp; done) _).setCell (by simp; done) _
set_option maxHeartbeats 4000000 in
set_option maxRecDepth 1000000 in
theorem coframe {w : World} {b0 b4 b9 b10 b11 : Bool} {n1 n2 c2 n5 c5 n8 : Nat} {A2 A5 : Option Addr} {s3 s6 s7 s12 s13 : ByteArray} {B : ByteArray} (HT : Hid (∀ W, Below w.heap.size w W → Calls Tryz.prog 388 #[.agg #[.bool b0, .int .u32 (n1 : Nat), .slice A2 n2 c2, .string s3, .bool b4, .slice A5 n5 c5, .string s6, .string s7, .int .u8 (n8 : Nat), .bool b9, .bool b10, .bool b11, .string s12, .string s13]] W fun e w' => e = .returned (.string B) ∧ Below W.heap.size W w')) : Calls Tryz.prog 389 #[.agg #[.bool b0, .int .u32 (n1 : Nat), .slice A2 n2 c2, .string s3, .bool b4, .slice A5 n5 c5, .string s6, .string s7, .int .u8 (n8 : Nat), .bool b9, .bool b10, .bool b11, .string s12, .string s13]] w (FrPost w 1 0 B) := by
  have HX := Lib.hid (show ((w.alloc (.cells #[.bool b0, .int .u32 (n1 : Nat), .slice A2 n2 c2, .string s3, .bool b4, .slice A5 n5 c5, .string s6, .string s7, .int .u8 (n8 : Nat), .bool b9, .bool b10, .bool b11, .string s12, .string s13] 74)).alloc (.cells #[.int .i64 0, .int .i64 0, .string ⟨#[]⟩] 128)).heap[w.heap.size]? = some (.cells #[.bool b0, .int .u32 (n1 : Nat), .slice A2 n2 c2, .string s3, .bool b4, .slice A5 n5 c5, .string s6, .string s7, .int .u8 (n8 : Nat), .bool b9, .bool b10, .bool b11, .string s12, .string s13] 74 (0, 0)) from blk_alloc (heap_alloc_new w _) _)
  have HB := Lib.hid (show Below w.heap.size w ((w.alloc (.cells #[.bool b0, .int .u32 (n1 : Nat), .slice A2 n2 c2, .string s3, .bool b4, .slice A5 n5 c5, .string s6, .string s7, .int .u8 (n8 : Nat), .bool b9, .bool b10, .bool b11, .string s12, .string s13] 74)).alloc (.cells #[.int .i64 0, .int .i64 0, .string ⟨#[]⟩] 128)) from ((Below.refl _ _).alloc (Nat.le_refl _) _).alloc (by rw [World.size_alloc]; omega) _)
  have HR := Lib.hid (show ((w.alloc (.cells #[.bool b0, .int .u32 (n1 : Nat), .slice A2 n2 c2, .string s3, .bool b4, .slice A5 n5 c5, .string s6, .string s7, .int .u8 (n8 : Nat), .bool b9, .bool b10, .bool b11, .string s12, .string s13] 74)).alloc (.cells #[.int .i64 0, .int .i64 0, .string ⟨#[]⟩] 128)).heap[w.heap.size + 1]? = some (.cells #[.int .i64 0, .int .i64 0, .string ⟨#[]⟩] 128 (0, 0)) by
    have := heap_alloc_new (w.alloc (.cells #[.bool b0, .int .u32 (n1 : Nat), .slice A2 n2 c2, .string s3, .bool b4, .slice A5 n5 c5, .string s6, .string s7, .int .u8 (n8 : Nat), .bool b9, .bool b10, .bool b11, .string s12, .string s13] 74)) (.cells #[.int .i64 0, .int .i64 0, .string ⟨#[]⟩] 128)
    rw [World.size_alloc] at this
    exact this)
  go_enter Tryz.func389, Tryz.ntmps389
  go_upto_region 1 with fail
  generalize ((w.alloc (.cells #[.bool b0, .int .u32 (n1 : Nat), .slice A2 n2 c2, .string s3, .bool b4, .slice A5 n5 c5, .string s6, .string s7, .int .u8 (n8 : Nat), .bool b9, .bool b10, .bool b11, .string s12, .string s13] 74)).alloc (.cells #[.int .i64 0, .int .i64 0, .string ⟨#[]⟩] 128)) = W0 at HX HB HR ⊢
  obtain ⟨x0, x1, x2, x3, x4, x5, x6, x7, x8, x9, x10, x11, x12, x13⟩ := ncell HX.out
  go_wp2_with (first
    | (go_at_call 388; (with_reducible refine (HT.out _ HB.out).mono ?_); rintro e w2 ⟨rfl, hb⟩; have HR2 := Lib.hid (hb.block _ (blk_lt HR.out) |>.trans HR.out); have HB2 := Lib.hid (HB.out.trans (hb.mono HB.out.size)); obtain ⟨r0, r1, r2⟩ := frcell HR2.out; have f0 := blk_frozen HR2.out 0; have f1 := blk_frozen HR2.out 1; have f2 := blk_frozen HR2.out 2; clear hb))
  refine bodyPost_ret (v := fr 1 0 B) (by unfold fr; simp [results, Tryz.results389, go_sem, r0, r1, r2]) rfl ⟨rfl, ?_⟩
  exact ((HB2.out.setCell (by simp; done) _).setCell (by simp; done) _).setCell (by simp; done) _
def flU (cl hw hu hp rt : Bool) (q : Nat) : Nat := (if cl then 2 else 0) + (if hw then 4 else 0) + (if hp then 64 else 0) + (if hu then 128 else 0) + (if hw then q * 8 + (if rt then 32 else 0) else 0)
theorem flU_lt (cl hw hu hp rt : Bool) (q : Nat) (h : q < 4) : flU cl hw hu hp rt q < 256 := by
  unfold flU
  cases cl <;> cases hw <;> cases hu <;> cases hp <;> cases rt <;> simp <;> omega
set_option maxHeartbeats 4000000 in
set_option maxRecDepth 1000000 in
theorem coflags_calls {w : World} {cl hw hu hp rt : Bool} {kp n c n' c' q : Nat} {A A' : Option Addr} {s3 s6 s7 s12 s13 : ByteArray} (hq : q < 4) : Calls Tryz.prog 390 #[.agg #[.bool cl, .int .u32 (kp : Nat), .slice A n c, .string s3, .bool hw, .slice A' n' c', .string s6, .string s7, .int .u8 (q : Nat), .bool rt, .bool hu, .bool hp, .string s12, .string s13]] w fun e w' => e = .returned (.int .u8 (flU cl hw hu hp rt q : Nat)) ∧ Below w.heap.size w w' := by
  have HX := Lib.hid (heap_alloc_new w (.cells #[.bool cl, .int .u32 (kp : Nat), .slice A n c, .string s3, .bool hw, .slice A' n' c', .string s6, .string s7, .int .u8 (q : Nat), .bool rt, .bool hu, .bool hp, .string s12, .string s13] 72))
  have HB := Lib.hid (show Below w.heap.size w (w.alloc (.cells #[.bool cl, .int .u32 (kp : Nat), .slice A n c, .string s3, .bool hw, .slice A' n' c', .string s6, .string s7, .int .u8 (q : Nat), .bool rt, .bool hu, .bool hp, .string s12, .string s13] 72)) from (Below.refl _ _).alloc (Nat.le_refl _) _)
  have HB2 := Lib.hid (fun W => bit_calls cl 2 W)
  have HB4 := Lib.hid (fun W => bit_calls hw 4 W)
  have HB64 := Lib.hid (fun W => bit_calls hp 64 W)
  have HB128 := Lib.hid (fun W => bit_calls hu 128 W)
  have HB32 := Lib.hid (fun W => bit_calls rt 32 W)
  rw [show ((2 : Nat) : Int) = 2 from rfl] at HB2
  rw [show ((4 : Nat) : Int) = 4 from rfl] at HB4
  rw [show ((64 : Nat) : Int) = 64 from rfl] at HB64
  rw [show ((128 : Nat) : Int) = 128 from rfl] at HB128
  rw [show ((32 : Nat) : Int) = 32 from rfl] at HB32
  have HFL := Lib.hid (show flU cl hw hu hp rt q = (if cl then 2 else 0) + (if hw then 4 else 0) + (if hp then 64 else 0) + (if hu then 128 else 0) + (if hw then q * 8 + (if rt then 32 else 0) else 0) from rfl)
  obtain ⟨y1, hy1⟩ : ∃ y, y = (if cl then 2 else 0 : Nat) := ⟨_, rfl⟩
  obtain ⟨y2, hy2⟩ : ∃ y, y = (if hw then 4 else 0 : Nat) := ⟨_, rfl⟩
  obtain ⟨y3, hy3⟩ : ∃ y, y = (if hp then 64 else 0 : Nat) := ⟨_, rfl⟩
  obtain ⟨y4, hy4⟩ : ∃ y, y = (if hu then 128 else 0 : Nat) := ⟨_, rfl⟩
  obtain ⟨y5, hy5⟩ : ∃ y, y = (if rt then 32 else 0 : Nat) := ⟨_, rfl⟩
  rw [← hy1] at HB2
  rw [← hy2] at HB4
  rw [← hy3] at HB64
  rw [← hy4] at HB128
  rw [← hy5] at HB32
  have HY1 := Lib.hid hy1
  have HY2 := Lib.hid hy2
  have HY3 := Lib.hid hy3
  have HY4 := Lib.hid hy4
  have HY5 := Lib.hid hy5
  have HQ := Lib.hid hq
  generalize flU cl hw hu hp rt q = F at HFL ⊢
  clear hy1 hy2 hy3 hy4 hy5 hq
  go_enter Tryz.func390, Tryz.ntmps390
  go_upto_region 1 with (fail)
  generalize (w.alloc (.cells #[.bool cl, .int .u32 (kp : Nat), .slice A n c, .string s3, .bool hw, .slice A' n' c', .string s6, .string s7, .int .u8 (q : Nat), .bool rt, .bool hu, .bool hp, .string s12, .string s13] 72)) = W0 at HX HB ⊢
  obtain ⟨x0, x1, x2, x3, x4, x5, x6, x7, x8, x9, x10, x11, x12, x13⟩ := ncell HX.out
  go_quiet (first
    | (go_at_call 391; exact Calls.quiet_of_same (HB2.out _))
    | (go_at_call 391; exact Calls.quiet_of_same (HB4.out _))
    | (go_at_call 391; exact Calls.quiet_of_same (HB64.out _))
    | (go_at_call 391; exact Calls.quiet_of_same (HB128.out _)))
  rename_i nq
  obtain ⟨z, hz, hzq⟩ : ∃ z : Nat, z = y1 + y2 + y3 + y4 ∧ Go.bits .or .u8 (Go.bits .or .u8 (Go.bits .or .u8 (y1 : Nat) (y2 : Nat)) (y3 : Nat)) (y4 : Nat) = (z : Nat) := by
    refine ⟨_, rfl, ?_⟩
    rw [HY1.out, HY2.out, HY3.out, HY4.out]
    cases cl <;> cases hw <;> cases hp <;> cases hu <;> decide +kernel
  have HZ := Lib.hid hz
  rw [hzq]
  clear hz hzq x0 x1 x2 x3 x4 x5 x6 x7 x8 x9 x10 x11 x12 x13
  have HX1 := Lib.hid (show (W0.drewN nq).heap[w.heap.size]? = some (.cells #[.bool cl, .int .u32 (kp : Nat), .slice A n c, .string s3, .bool hw, .slice A' n' c', .string s6, .string s7, .int .u8 (q : Nat), .bool rt, .bool hu, .bool hp, .string s12, .string s13] 72 (0, 0)) from HX.out)
  have HB1 := Lib.hid (show Below w.heap.size w (W0.drewN nq) from ⟨HB.out.os, HB.out.tape, HB.out.output, HB.out.size, HB.out.block⟩)
  clear HX HB
  generalize W0.drewN nq = W1 at HX1 HB1 ⊢
  obtain ⟨x0, x1, x2, x3, x4, x5, x6, x7, x8, x9, x10, x11, x12, x13⟩ := ncell HX1.out
  cases hw with
  | false =>
    have HF2 := Lib.hid (show F = z by rw [HFL.out, HZ.out, HY1.out, HY2.out, HY3.out, HY4.out]; simp)
    go_wp2
    go_ret
    exact ⟨by rw [HF2.out]; rfl, HB1.out⟩
  | true =>
    have hq3 := (fl_bits q HQ.out).1
    go_upto_region 3 with (fail)
    go_quiet (first
      | (go_at_call 391; exact Calls.quiet_of_same (HB32.out _)))
    have hfin : Go.bits .or .u8 (z : Nat) (Go.bits .or .u8 (((q : Nat) : Int) * 8 % 256) (y5 : Nat)) = (F : Nat) := by
      rw [HFL.out, HZ.out, HY1.out, HY2.out, HY3.out, HY4.out, HY5.out]
      have hq4 := HQ.out
      rcases (show q = 0 ∨ q = 1 ∨ q = 2 ∨ q = 3 by omega) with rfl | rfl | rfl | rfl <;> cases cl <;> cases hp <;> cases hu <;> cases rt <;> decide +kernel
    rw [hfin]
    have HB2 := Lib.hid (show ∀ m, Below w.heap.size w (W1.drewN m) from fun m => ⟨HB1.out.os, HB1.out.tape, HB1.out.output, HB1.out.size, HB1.out.block⟩)
    go_wp2
    go_ret
    exact ⟨rfl, HB2.out _⟩
def ND.body (d : ND) : List UInt8 := (((((([] ++ dat ⟨#[77, 81, 84, 84]⟩) ++ [UInt8.ofNat 5]) ++ [UInt8.ofNat (flU d.cl d.hw d.hu d.hp d.rt d.q)]) ++ be2 (d.keep % 65536)) ++ putB d.L) ++ dat d.t.id) ++ (if d.hw then putB d.t.WL ++ (dat d.t.wt ++ dat d.t.wp) else []) ++ (if d.hu then dat d.t.us else []) ++ (if d.hp then dat d.t.pa else [])
theorem dat_size (s : ByteArray) : (dat s).length = 2 + s.size := by
  unfold dat
  rw [List.length_append]
  show 2 + s.data.toList.length = _
  rw [← Lib.size_eq]
theorem dat_calls {w : World} {base b : Nat} {l : List UInt8} (h : OW w b (fun k => base ≤ k) l) (hb : base ≤ w.heap.size) (hl : l.length ≤ 900000) (s : ByteArray) (hs : s.size ≤ 65535) : Calls Tryz.prog 383 #[.pointer (some ⟨b, 0, none⟩), .string s] w (OPost w b (fun k => base ≤ k) (l ++ dat s)) := data_calls h hb hl s hs
set_option maxHeartbeats 4000000 in
set_option maxRecDepth 1000000 in
theorem cotext_calls {w : World} {cl hw hu hp rt : Bool} {kp c c' q : Nat} {A A' : Option Addr} {L : List PR} {d : TD} (hd : (⟨cl, kp, L, hw, q, rt, hu, hp, d⟩ : ND).Ok) (hc : L.length ≤ c) (hL : PL w A L) (hc' : d.WL.length ≤ c') (hL' : PL w A' d.WL) : Calls Tryz.prog 388 #[.agg #[.bool cl, .int .u32 (kp : Nat), .slice A L.length c, .string d.id, .bool hw, .slice A' d.WL.length c', .string d.wt, .string d.wp, .int .u8 (q : Nat), .bool rt, .bool hu, .bool hp, .string d.us, .string d.pa]] w fun e w' => e = .returned (.string (toB (ND.body ⟨cl, kp, L, hw, q, rt, hu, hp, d⟩))) ∧ Below w.heap.size w w' := by
  obtain ⟨hkp, hlk, hq, ⟨hid, hwl, hwt, hwp, hus, hpa⟩⟩ := hd
  simp only at hkp hlk hq
  have HFLC := Lib.hid (fun (W : World) => coflags_calls (w := W) (cl := cl) (hw := hw) (hu := hu) (hp := hp) (rt := rt) (kp := kp) (n := L.length) (c := c) (n' := d.WL.length) (c' := c') (q := q) (A := A) (A' := A') (s3 := d.id) (s6 := d.wt) (s7 := d.wp) (s12 := d.us) (s13 := d.pa) hq)
  have hfl := flU_lt cl hw hu hp rt q hq
  have HBODY := Lib.hid (show ND.body ⟨cl, kp, L, hw, q, rt, hu, hp, d⟩ = (((((([] ++ dat ⟨#[77, 81, 84, 84]⟩) ++ [UInt8.ofNat 5]) ++ [UInt8.ofNat (flU cl hw hu hp rt q)]) ++ be2 (kp % 65536)) ++ putB L) ++ dat d.id) ++ (if hw then putB d.WL ++ (dat d.wt ++ dat d.wp) else []) ++ (if hu then dat d.us else []) ++ (if hp then dat d.pa else []) from rfl)
  generalize flU cl hw hu hp rt q = fl at HFLC hfl HBODY
  generalize ND.body ⟨cl, kp, L, hw, q, rt, hu, hp, d⟩ = BODY at HBODY ⊢
  have HFL := Lib.hid hfl
  have HLK := Lib.hid hlk
  have HWL := Lib.hid hwl
  have HKP := Lib.hid (show kp ≤ 4294967295 by omega)
  have HID := Lib.hid hid
  have HWT := Lib.hid hwt
  have HWP := Lib.hid hwp
  have HUS := Lib.hid hus
  have HPA := Lib.hid hpa
  have HPL := Lib.hid hL
  have HPL' := Lib.hid hL'
  have HC := Lib.hid hc
  have HC' := Lib.hid hc'
  have HPUT := Lib.hid (putB_len L hlk.sz)
  have HPUT' := Lib.hid (putB_len d.WL hwl.sz)
  clear hfl hlk hwl hkp hid hwt hwp hus hpa hL hL' hc hc' hq
  have HX0 := Lib.hid (show ((w.alloc (.cells #[.bool cl, .int .u32 (kp : Nat), .slice A L.length c, .string d.id, .bool hw, .slice A' d.WL.length c', .string d.wt, .string d.wp, .int .u8 (q : Nat), .bool rt, .bool hu, .bool hp, .string d.us, .string d.pa] 72)).alloc (.cells #[.slice none 0 0] 59)).heap[w.heap.size]? = some (.cells #[.bool cl, .int .u32 (kp : Nat), .slice A L.length c, .string d.id, .bool hw, .slice A' d.WL.length c', .string d.wt, .string d.wp, .int .u8 (q : Nat), .bool rt, .bool hu, .bool hp, .string d.us, .string d.pa] 72 (0, 0)) from blk_alloc (heap_alloc_new w _) _)
  have HO0 := Lib.hid (show OW ((w.alloc (.cells #[.bool cl, .int .u32 (kp : Nat), .slice A L.length c, .string d.id, .bool hw, .slice A' d.WL.length c', .string d.wt, .string d.wp, .int .u8 (q : Nat), .bool rt, .bool hu, .bool hp, .string d.us, .string d.pa] 72)).alloc (.cells #[.slice none 0 0] 59)) (w.heap.size + 1) (fun k => w.heap.size ≤ k) [] by
    have := OW.new (w.alloc (.cells #[.bool cl, .int .u32 (kp : Nat), .slice A L.length c, .string d.id, .bool hw, .slice A' d.WL.length c', .string d.wt, .string d.wp, .int .u8 (q : Nat), .bool rt, .bool hu, .bool hp, .string d.us, .string d.pa] 72)) (fun k => w.heap.size ≤ k)
    rw [World.size_alloc] at this
    exact this)
  have HB0 := Lib.hid (show Below w.heap.size w ((w.alloc (.cells #[.bool cl, .int .u32 (kp : Nat), .slice A L.length c, .string d.id, .bool hw, .slice A' d.WL.length c', .string d.wt, .string d.wp, .int .u8 (q : Nat), .bool rt, .bool hu, .bool hp, .string d.us, .string d.pa] 72)).alloc (.cells #[.slice none 0 0] 59)) from ((Below.refl _ _).alloc (Nat.le_refl _) _).alloc (by rw [World.size_alloc]; omega) _)
  have HNB := Lib.hid (show w.heap.size ≠ w.heap.size + 1 by omega)
  have HLB := Lib.hid (show w.heap.size ≤ w.heap.size + 1 by omega)
  go_enter Tryz.func388, Tryz.ntmps388
  go_upto_region 2 with (fail)
  generalize ((w.alloc (.cells #[.bool cl, .int .u32 (kp : Nat), .slice A L.length c, .string d.id, .bool hw, .slice A' d.WL.length c', .string d.wt, .string d.wp, .int .u8 (q : Nat), .bool rt, .bool hu, .bool hp, .string d.us, .string d.pa] 72)).alloc (.cells #[.slice none 0 0] 59)) = W0 at HX0 HB0 HO0 ⊢
  obtain ⟨p0_0, p0_1, p0_2, p0_3, p0_4, p0_5, p0_6, p0_7, p0_8, p0_9, p0_10, p0_11, p0_12, p0_13⟩ := ncell HX0.out
  have HXd := Lib.hid (blk_drew HX0.out)
  have HOd := Lib.hid (HO0.out.drew)
  have HBd := Lib.hid (below_dr HB0.out)
  have HLd := Lib.hid (show ([] : List UInt8).length ≤ 0 from Nat.le_refl _)
  have HLd9 := Lib.hid (show ([] : List UInt8).length ≤ 900000 by show 0 ≤ 900000; omega)
  have HMS := Lib.hid (show (⟨#[77, 81, 84, 84]⟩ : ByteArray).size ≤ 65535 by decide)
  have HMD := Lib.hid (show (dat ⟨#[77, 81, 84, 84]⟩).length = 6 from rfl)
  clear HX0 HO0 HB0
  have HB5 := Lib.hid (fun (w : World) (h : OW w (w.heap.size) (fun k => True) []) => h)
  clear HB5
  go_region_held3 (fun w' => w'.cell? ⟨w.heap.size, 0, none⟩ = some (.bool cl) ∧ w'.cell? ⟨w.heap.size, 1, none⟩ = some (.int .u32 (kp : Nat)) ∧ w'.cell? ⟨w.heap.size, 2, none⟩ = some (.slice A L.length c) ∧ w'.cell? ⟨w.heap.size, 3, none⟩ = some (.string d.id) ∧ w'.cell? ⟨w.heap.size, 4, none⟩ = some (.bool hw) ∧ w'.cell? ⟨w.heap.size, 5, none⟩ = some (.slice A' d.WL.length c') ∧ w'.cell? ⟨w.heap.size, 6, none⟩ = some (.string d.wt) ∧ w'.cell? ⟨w.heap.size, 7, none⟩ = some (.string d.wp) ∧ w'.cell? ⟨w.heap.size, 8, none⟩ = some (.int .u8 (q : Nat)) ∧ w'.cell? ⟨w.heap.size, 9, none⟩ = some (.bool rt) ∧ w'.cell? ⟨w.heap.size, 10, none⟩ = some (.bool hu) ∧ w'.cell? ⟨w.heap.size, 11, none⟩ = some (.bool hp) ∧ w'.cell? ⟨w.heap.size, 12, none⟩ = some (.string d.us) ∧ w'.cell? ⟨w.heap.size, 13, none⟩ = some (.string d.pa)) (first | exact ⟨p0_0, p0_1, p0_2, p0_3, p0_4, p0_5, p0_6, p0_7, p0_8, p0_9, p0_10, p0_11, p0_12, p0_13⟩ | exact ⟨p1_0, p1_1, p1_2, p1_3, p1_4, p1_5, p1_6, p1_7, p1_8, p1_9, p1_10, p1_11, p1_12, p1_13⟩ | exact ⟨p2_0, p2_1, p2_2, p2_3, p2_4, p2_5, p2_6, p2_7, p2_8, p2_9, p2_10, p2_11, p2_12, p2_13⟩ | exact ⟨p3_0, p3_1, p3_2, p3_3, p3_4, p3_5, p3_6, p3_7, p3_8, p3_9, p3_10, p3_11, p3_12, p3_13⟩ | exact ⟨p4_0, p4_1, p4_2, p4_3, p4_4, p4_5, p4_6, p4_7, p4_8, p4_9, p4_10, p4_11, p4_12, p4_13⟩ | exact ⟨p5_0, p5_1, p5_2, p5_3, p5_4, p5_5, p5_6, p5_7, p5_8, p5_9, p5_10, p5_11, p5_12, p5_13⟩ | go_keep) (first
    | (go_at_call 383; (with_reducible refine (dat_calls HOd.out HBd.out.size HLd9.out (⟨#[77, 81, 84, 84]⟩ : ByteArray) HMS.out).mono ?_); rintro e w1 ⟨rfl, ho, hc1⟩; have HO1 := Lib.hid ho; have hx := Ch5.blk hc1 HXd.out HNB.out (by decide); have HX1 := Lib.hid hx; have HB1 := Lib.hid (HBd.out.trans (hc1.to_below HBd.out.size HLB.out (fun _ h => h))); have HL1 := Lib.hid (show ([] ++ dat ⟨#[77, 81, 84, 84]⟩).length ≤ 6 by rw [List.length_append]; have h1 := HLd.out; rw [HMD.out]; omega); obtain ⟨p1_0, p1_1, p1_2, p1_3, p1_4, p1_5, p1_6, p1_7, p1_8, p1_9, p1_10, p1_11, p1_12, p1_13⟩ := ncell hx; clear ho hc1 hx)
    | (go_at_call 32; (with_reducible refine (byte_calls HO3.out (fun k hk => Nat.le_trans HB3.out.size hk) (Nat.le_trans HL2.out (by decide)) fl HFL.out).mono ?_); rintro e w4 ⟨rfl, ho, hc1⟩; have HO4 := Lib.hid ho; have hx := Ch5.blk hc1 HX3.out HNB.out (by decide); have HX4 := Lib.hid hx; have HB4 := Lib.hid (HB3.out.trans (hc1.to_below HB3.out.size HLB.out (fun _ h => h))); have HL4 := Lib.hid (show ((([] ++ dat ⟨#[77, 81, 84, 84]⟩) ++ [UInt8.ofNat 5]) ++ [UInt8.ofNat fl]).length ≤ 8 by rw [List.length_append]; have h1 := HL2.out; show _ + 1 ≤ 8; omega); obtain ⟨p4_0, p4_1, p4_2, p4_3, p4_4, p4_5, p4_6, p4_7, p4_8, p4_9, p4_10, p4_11, p4_12, p4_13⟩ := ncell hx; clear ho hc1 hx)
    | (go_at_call 32; (refine (byte_calls HO1.out (fun k hk => Nat.le_trans HB1.out.size hk) (Nat.le_trans HL1.out (by decide)) 5 (by decide)).mono ?_); rintro e w2 ⟨rfl, ho, hc1⟩; have HO2 := Lib.hid ho; have hx := Ch5.blk hc1 HX1.out HNB.out (by decide); have HX2 := Lib.hid hx; have HB2 := Lib.hid (HB1.out.trans (hc1.to_below HB1.out.size HLB.out (fun _ h => h))); have HL2 := Lib.hid (show (([] ++ dat ⟨#[77, 81, 84, 84]⟩) ++ [UInt8.ofNat 5]).length ≤ 7 by rw [List.length_append]; have h1 := HL1.out; show _ + 1 ≤ 7; omega); obtain ⟨p2_0, p2_1, p2_2, p2_3, p2_4, p2_5, p2_6, p2_7, p2_8, p2_9, p2_10, p2_11, p2_12, p2_13⟩ := ncell hx; clear ho hc1 hx)
    | (go_at_call 390; (with_reducible refine (HFLC.out _).mono ?_); rintro e w3 ⟨rfl, hb⟩; have HO3 := Lib.hid (HO2.out.below hb); have HX3 := Lib.hid (blk_below HX2.out hb); have HB3 := Lib.hid (HB2.out.trans (hb.mono HB2.out.size)); obtain ⟨p3_0, p3_1, p3_2, p3_3, p3_4, p3_5, p3_6, p3_7, p3_8, p3_9, p3_10, p3_11, p3_12, p3_13⟩ := ncell HX3.out; clear hb)
    | (go_at_call 384; (with_reducible refine (two_calls HO4.out (fun k hk => Nat.le_trans HB4.out.size hk) (Nat.le_trans HL4.out (by decide)) kp HKP.out).mono ?_); rintro e w5 ⟨rfl, ho, hc1⟩; have HO5 := Lib.hid ho; have hx := Ch5.blk hc1 HX4.out HNB.out (by decide); have HX5 := Lib.hid hx; have HB5 := Lib.hid (HB4.out.trans (hc1.to_below HB4.out.size HLB.out (fun _ h => h))); have HL5 := Lib.hid (show (((([] ++ dat ⟨#[77, 81, 84, 84]⟩) ++ [UInt8.ofNat 5]) ++ [UInt8.ofNat fl]) ++ be2 (kp % 65536)).length ≤ 10 by rw [List.length_append]; have h1 := HL4.out; show _ + 2 ≤ 10; omega); obtain ⟨p5_0, p5_1, p5_2, p5_3, p5_4, p5_5, p5_6, p5_7, p5_8, p5_9, p5_10, p5_11, p5_12, p5_13⟩ := ncell hx; clear ho hc1 hx))
  clear p0_0 p0_1 p0_2 p0_3 p0_4 p0_5 p0_6 p0_7 p0_8 p0_9 p0_10 p0_11 p0_12 p0_13 p1_0 p1_1 p1_2 p1_3 p1_4 p1_5 p1_6 p1_7 p1_8 p1_9 p1_10 p1_11 p1_12 p1_13 p2_0 p2_1 p2_2 p2_3 p2_4 p2_5 p2_6 p2_7 p2_8 p2_9 p2_10 p2_11 p2_12 p2_13 p3_0 p3_1 p3_2 p3_3 p3_4 p3_5 p3_6 p3_7 p3_8 p3_9 p3_10 p3_11 p3_12 p3_13 p4_0 p4_1 p4_2 p4_3 p4_4 p4_5 p4_6 p4_7 p4_8 p4_9 p4_10 p4_11 p4_12 p4_13 HXd HOd HBd HO1 HX1 HB1 HL1 HO2 HX2 HB2 HL2 HO3 HX3 HB3 HO4 HX4 HB4 HL4
  go_upto_if 19 with (first | (go_at_call 385; (with_reducible refine (Put_calls HO5.out HB5.out.size (Nat.le_trans HL5.out (by decide)) A c L HC.out (HPL.out.to HB5.out) HLK.out.ok HLK.out.sz HLK.out.len).mono ?_); rintro e w6 ⟨rfl, ho, hc1⟩; have HO6 := Lib.hid ho; have hx := Ch5.blk hc1 HX5.out HNB.out (by decide); have HX6 := Lib.hid hx; have HB6 := Lib.hid (HB5.out.trans (hc1.to_below HB5.out.size HLB.out (fun _ h => h))); have HL6 := Lib.hid (show ((((([] ++ dat ⟨#[77, 81, 84, 84]⟩) ++ [UInt8.ofNat 5]) ++ [UInt8.ofNat fl]) ++ be2 (kp % 65536)) ++ putB L).length ≤ 100014 by rw [List.length_append]; have h1 := HL5.out; have h2 := HPUT.out; omega); obtain ⟨p6_0, p6_1, p6_2, p6_3, p6_4, p6_5, p6_6, p6_7, p6_8, p6_9, p6_10, p6_11, p6_12, p6_13⟩ := ncell hx; clear ho hc1 hx) | (go_at_call 383; (with_reducible refine (dat_calls HO6.out HB6.out.size (Nat.le_trans HL6.out (by decide)) d.id HID.out).mono ?_); rintro e w7 ⟨rfl, ho, hc1⟩; have HO7 := Lib.hid ho; have hx := Ch5.blk hc1 HX6.out HNB.out (by decide); have HX7 := Lib.hid hx; have HB7 := Lib.hid (HB6.out.trans (hc1.to_below HB6.out.size HLB.out (fun _ h => h))); have HL7 := Lib.hid (show (((((([] ++ dat ⟨#[77, 81, 84, 84]⟩) ++ [UInt8.ofNat 5]) ++ [UInt8.ofNat fl]) ++ be2 (kp % 65536)) ++ putB L) ++ dat d.id).length ≤ 165551 by rw [List.length_append, dat_size]; have h1 := HL6.out; have h2 := HID.out; omega); obtain ⟨p7_0, p7_1, p7_2, p7_3, p7_4, p7_5, p7_6, p7_7, p7_8, p7_9, p7_10, p7_11, p7_12, p7_13⟩ := ncell hx; clear ho hc1 hx))
  clear HO5 HX5 HB5 HL5 HO6 HX6 HB6 HL6
  generalize (((((([] ++ dat ⟨#[77, 81, 84, 84]⟩) ++ [UInt8.ofNat 5]) ++ [UInt8.ofNat fl]) ++ be2 (kp % 65536)) ++ putB L) ++ dat d.id) = l7 at HO7 HL7 HBODY
  go_cut [] (fun wx => ∃ l : List UInt8, Hid (l = l7 ++ (if hw then putB d.WL ++ (dat d.wt ++ dat d.wp) else [])) ∧ Hid (OW wx (w.heap.size + 1) (fun k => w.heap.size ≤ k) l) ∧ Hid (l.length ≤ 396629) ∧ Hid (wx.heap[w.heap.size]? = some (.cells #[.bool cl, .int .u32 (kp : Nat), .slice A L.length c, .string d.id, .bool hw, .slice A' d.WL.length c', .string d.wt, .string d.wp, .int .u8 (q : Nat), .bool rt, .bool hu, .bool hp, .string d.us, .string d.pa] 72 (0, 0))) ∧ Hid (Below w.heap.size w wx))
  case first =>
    cases hw with
    | false =>
      go_wp2
      go_meet
      exact ⟨l7, Lib.hid (by simp), HO7, Lib.hid (Nat.le_trans HL7.out (by decide)), HX7, HB7⟩
    | true =>
      obtain ⟨p7_0, p7_1, p7_2, p7_3, p7_4, p7_5, p7_6, p7_7, p7_8, p7_9, p7_10, p7_11, p7_12, p7_13⟩ := ncell HX7.out
      go_upto_region 7 with (first | (go_at_call 385; (with_reducible refine (Put_calls HO7.out HB7.out.size (Nat.le_trans HL7.out (by decide)) A' c' d.WL HC'.out (HPL'.out.to HB7.out) HWL.out.ok HWL.out.sz HWL.out.len).mono ?_); rintro e w8 ⟨rfl, ho, hc1⟩; have HO8 := Lib.hid ho; have hx := Ch5.blk hc1 HX7.out HNB.out (by decide); have HX8 := Lib.hid hx; have HB8 := Lib.hid (HB7.out.trans (hc1.to_below HB7.out.size HLB.out (fun _ h => h))); have HL8 := Lib.hid (show (l7 ++ putB d.WL).length ≤ 265555 by rw [List.length_append]; have h1 := HL7.out; have h2 := HPUT'.out; omega); obtain ⟨p8_0, p8_1, p8_2, p8_3, p8_4, p8_5, p8_6, p8_7, p8_8, p8_9, p8_10, p8_11, p8_12, p8_13⟩ := ncell hx; clear ho hc1 hx))
      have HXd := Lib.hid (blk_drew HX8.out)
      have HOd := Lib.hid (HO8.out.drew)
      have HBd := Lib.hid (below_dr HB8.out)
      go_region_held3 (fun w' => w'.cell? ⟨w.heap.size, 6, none⟩ = some (.string d.wt) ∧ w'.cell? ⟨w.heap.size, 7, none⟩ = some (.string d.wp)) (first | exact ⟨p8_6, p8_7⟩ | exact ⟨p9_6, p9_7⟩ | exact ⟨p10_6, p10_7⟩ | go_keep) (first
        | (go_at_call 383; (with_reducible refine (dat_calls HO9.out HB9.out.size (Nat.le_trans HL9.out (by decide)) d.wp HWP.out).mono ?_); rintro e w10 ⟨rfl, ho, hc1⟩; have HO10 := Lib.hid ho; have hx := Ch5.blk hc1 HX9.out HNB.out (by decide); have HX10 := Lib.hid hx; have HB10 := Lib.hid (HB9.out.trans (hc1.to_below HB9.out.size HLB.out (fun _ h => h))); have HL10 := Lib.hid (show (((l7 ++ putB d.WL) ++ dat d.wt) ++ dat d.wp).length ≤ 396629 by rw [List.length_append, dat_size]; have h1 := HL9.out; have h2 := HWP.out; omega); obtain ⟨p10_0, p10_1, p10_2, p10_3, p10_4, p10_5, p10_6, p10_7, p10_8, p10_9, p10_10, p10_11, p10_12, p10_13⟩ := ncell hx; clear ho hc1 hx)
        | (go_at_call 383; (with_reducible refine (dat_calls HOd.out HBd.out.size (Nat.le_trans HL8.out (by decide)) d.wt HWT.out).mono ?_); rintro e w9 ⟨rfl, ho, hc1⟩; have HO9 := Lib.hid ho; have hx := Ch5.blk hc1 HXd.out HNB.out (by decide); have HX9 := Lib.hid hx; have HB9 := Lib.hid (HBd.out.trans (hc1.to_below HBd.out.size HLB.out (fun _ h => h))); have HL9 := Lib.hid (show ((l7 ++ putB d.WL) ++ dat d.wt).length ≤ 331092 by rw [List.length_append, dat_size]; have h1 := HL8.out; have h2 := HWT.out; omega); obtain ⟨p9_0, p9_1, p9_2, p9_3, p9_4, p9_5, p9_6, p9_7, p9_8, p9_9, p9_10, p9_11, p9_12, p9_13⟩ := ncell hx; clear ho hc1 hx))
      go_wp2
      go_meet
      exact ⟨((l7 ++ putB d.WL) ++ dat d.wt) ++ dat d.wp, Lib.hid (by simp only [if_true, List.append_assoc]), HO10, HL10, HX10, HB10⟩
  case rest =>
    clear HO7 HX7 HB7 HL7
    obtain ⟨l8, HE8, HO7, HL7, HX7, HB7⟩ := hcut
    obtain ⟨p7_0, p7_1, p7_2, p7_3, p7_4, p7_5, p7_6, p7_7, p7_8, p7_9, p7_10, p7_11, p7_12, p7_13⟩ := ncell HX7.out
    go_upto_if 33 with (fail)
    go_cut [] (fun wx => ∃ l : List UInt8, Hid (l = l8 ++ (if hu then dat d.us else [])) ∧ Hid (OW wx (w.heap.size + 1) (fun k => w.heap.size ≤ k) l) ∧ Hid (l.length ≤ 462166) ∧ Hid (wx.heap[w.heap.size]? = some (.cells #[.bool cl, .int .u32 (kp : Nat), .slice A L.length c, .string d.id, .bool hw, .slice A' d.WL.length c', .string d.wt, .string d.wp, .int .u8 (q : Nat), .bool rt, .bool hu, .bool hp, .string d.us, .string d.pa] 72 (0, 0))) ∧ Hid (Below w.heap.size w wx))
    case first =>
      cases hu with
      | false =>
        go_wp2
        go_meet
        exact ⟨l8, Lib.hid (by simp), HO7, Lib.hid (Nat.le_trans HL7.out (by decide)), HX7, HB7⟩
      | true =>
        go_wp2_with (first | (go_at_call 383; (with_reducible refine (dat_calls HO7.out HB7.out.size (Nat.le_trans HL7.out (by decide)) d.us HUS.out).mono ?_); rintro e w8 ⟨rfl, ho, hc1⟩; have HO8 := Lib.hid ho; have hx := Ch5.blk hc1 HX7.out HNB.out (by decide); have HX8 := Lib.hid hx; have HB8 := Lib.hid (HB7.out.trans (hc1.to_below HB7.out.size HLB.out (fun _ h => h))); have HL8 := Lib.hid (show (l8 ++ dat d.us).length ≤ 462166 by rw [List.length_append, dat_size]; have h1 := HL7.out; have h2 := HUS.out; omega); obtain ⟨p8_0, p8_1, p8_2, p8_3, p8_4, p8_5, p8_6, p8_7, p8_8, p8_9, p8_10, p8_11, p8_12, p8_13⟩ := ncell hx; clear ho hc1 hx))
        go_meet
        exact ⟨l8 ++ dat d.us, Lib.hid (by simp only [if_true]), HO8, HL8, HX8, HB8⟩
    case rest =>
      clear HO7 HX7 HB7 HL7 p7_0 p7_1 p7_2 p7_3 p7_4 p7_5 p7_6 p7_7 p7_8 p7_9 p7_10 p7_11 p7_12 p7_13
      obtain ⟨l9, HE9, HO7, HL7, HX7, HB7⟩ := hcut
      obtain ⟨p7_0, p7_1, p7_2, p7_3, p7_4, p7_5, p7_6, p7_7, p7_8, p7_9, p7_10, p7_11, p7_12, p7_13⟩ := ncell HX7.out
      go_upto_if 38 with (fail)
      go_cut [] (fun wx => ∃ l : List UInt8, Hid (l = l9 ++ (if hp then dat d.pa else [])) ∧ Hid (OW wx (w.heap.size + 1) (fun k => w.heap.size ≤ k) l) ∧ Hid (Below w.heap.size w wx))
      case first =>
        cases hp with
        | false =>
          go_wp2
          go_meet
          exact ⟨l9, Lib.hid (by simp), HO7, HB7⟩
        | true =>
          go_wp2_with (first | (go_at_call 383; (with_reducible refine (dat_calls HO7.out HB7.out.size (Nat.le_trans HL7.out (by decide)) d.pa HPA.out).mono ?_); rintro e w8 ⟨rfl, ho, hc1⟩; have HO8 := Lib.hid ho; have hx := Ch5.blk hc1 HX7.out HNB.out (by decide); have HX8 := Lib.hid hx; have HB8 := Lib.hid (HB7.out.trans (hc1.to_below HB7.out.size HLB.out (fun _ h => h))); have HL8 := Lib.hid (show (l9 ++ dat d.pa).length ≤ 527703 by rw [List.length_append, dat_size]; have h1 := HL7.out; have h2 := HPA.out; omega); obtain ⟨p8_0, p8_1, p8_2, p8_3, p8_4, p8_5, p8_6, p8_7, p8_8, p8_9, p8_10, p8_11, p8_12, p8_13⟩ := ncell hx; clear ho hc1 hx))
          go_meet
          exact ⟨l9 ++ dat d.pa, Lib.hid (by simp only [if_true]), HO8, HB8⟩
      case rest =>
        clear HO7 HX7 HB7 HL7 p7_0 p7_1 p7_2 p7_3 p7_4 p7_5 p7_6 p7_7 p7_8 p7_9 p7_10 p7_11 p7_12 p7_13
        obtain ⟨l10, HE10, HO7, HB7⟩ := hcut
        go_wp2_with (first | (go_at_call 16; refine (text_calls HO7.out).mono ?_; rintro e w5 ⟨rfl, hb2⟩; have HB8 := Lib.hid (HB7.out.trans (hb2.mono HB7.out.size)); clear hb2))
        go_ret
        exact ⟨by rw [HBODY.out, HE10.out, HE9.out, HE8.out]; rfl, HB8.out⟩
def HeadP (w : World) (id : Nat) (L : List PR) (e : Ending) (w' : World) : Prop := ∃ b, e = .returned (.pointer (some ⟨b, 0, none⟩)) ∧ w.heap.size ≤ b ∧ OW w' b (fun k => w.heap.size ≤ k) (([] ++ be2 (id % 65536)) ++ putB L) ∧ Below w.heap.size w w'
set_option maxHeartbeats 4000000 in
set_option maxRecDepth 1000000 in
theorem head_calls {w : World} {id c : Nat} {A : Option Addr} {L : List PR} (hid : id ≤ 4294967295) (hlk : LOk L) (hc : L.length ≤ c) (hL : PL w A L) : Calls Tryz.prog 397 #[.int .u32 (id : Nat), .slice A L.length c] w (HeadP w id L) := by
  have HLK := Lib.hid hlk
  have HPL := Lib.hid hL
  have HC := Lib.hid hc
  have HID := Lib.hid hid
  have HO0 := Lib.hid (OW.new w (fun k => w.heap.size ≤ k))
  have HB0 := Lib.hid (show Below w.heap.size w (w.alloc (.cells #[.slice none 0 0] 59)) from (Below.refl _ _).alloc (Nat.le_refl _) _)
  have HL0 := Lib.hid (show ([] : List UInt8).length ≤ 0 from Nat.le_refl _)
  have HLB := Lib.hid (Nat.le_refl w.heap.size)
  clear hlk hL hc hid
  go_enter Tryz.func397, Tryz.ntmps397
  go_upto_region 2 with (fail)
  generalize (w.alloc (.cells #[.slice none 0 0] 59)) = W0 at HB0 HO0 ⊢
  go_wp2_with (first
    | (go_at_call 384; (with_reducible refine (two_calls HO0.out (fun k hk => Nat.le_trans HB0.out.size hk) (Nat.le_trans HL0.out (by decide)) id HID.out).mono ?_); rintro e w1 ⟨rfl, ho, hc1⟩; have HO1 := Lib.hid ho; have HB1 := Lib.hid (HB0.out.trans (hc1.to_below HB0.out.size HLB.out (fun _ h => h))); have HL1 := Lib.hid (show ([] ++ be2 (id % 65536)).length ≤ 2 from Nat.le_refl _); clear ho hc1)
    | (go_at_call 385; (with_reducible refine (Put_calls HO1.out HB1.out.size (Nat.le_trans HL1.out (by decide)) A c L HC.out (HPL.out.to HB1.out) HLK.out.ok HLK.out.sz HLK.out.len).mono ?_); rintro e w3 ⟨rfl, ho, hc1⟩; have HO3 := Lib.hid ho; have HB3 := Lib.hid (HB1.out.trans (hc1.to_below HB1.out.size HLB.out (fun _ h => h))); clear ho hc1))
  go_ret
  exact ⟨w.heap.size, rfl, HLB.out, HO3.out, HB3.out⟩
set_option maxHeartbeats 4000000 in
set_option maxRecDepth 1000000 in
theorem subacktext_calls {w : World} {k id c : Nat} {A : Option Addr} {L : List PR} {s : ByteArray} (hid : id ≤ 4294967295) (hlk : LOk L) (hc : L.length ≤ c) (hL : PL w A L) (hs : s.size ≤ 100000) : Calls Tryz.prog 413 #[.agg #[.int .i64 (k : Nat), .int .u32 (id : Nat), .slice A L.length c, .string s]] w fun e w' => e = .returned (.string (toB ((([] ++ be2 (id % 65536)) ++ putB L) ++ s.data.toList))) ∧ Below w.heap.size w w' := by
  have HHD := Lib.hid (fun W (hb : Below w.heap.size w W) => head_calls (w := W) hid hlk hc (hL.to hb))
  have HS := Lib.hid (show s.size ≤ 1000000 by omega)
  have HPUT := Lib.hid (show ((([] : List UInt8) ++ be2 (id % 65536)) ++ putB L).length ≤ 1000000 by
    have := putB_len L hlk.sz
    rw [List.length_append]
    show 2 + _ ≤ 1000000
    omega)
  have HX := Lib.hid (heap_alloc_new w (.cells #[.int .i64 (k : Nat), .int .u32 (id : Nat), .slice A L.length c, .string s] 266))
  have HB := Lib.hid (show Below w.heap.size w (w.alloc (.cells #[.int .i64 (k : Nat), .int .u32 (id : Nat), .slice A L.length c, .string s] 266)) from (Below.refl _ _).alloc (Nat.le_refl _) _)
  clear hid hlk hc hL hs
  go_enter Tryz.func413, Tryz.ntmps413
  go_upto_region 1 with (fail)
  generalize (w.alloc (.cells #[.int .i64 (k : Nat), .int .u32 (id : Nat), .slice A L.length c, .string s] 266)) = W0 at HX HB ⊢
  obtain ⟨p0_0, p0_1, p0_2, p0_3⟩ := qcell HX.out
  have HXd := Lib.hid (blk_drew HX.out)
  have HBd := Lib.hid (below_dr HB.out)
  clear HX HB
  have HLT := Lib.hid (blk_lt HXd.out)
  go_region_held3 (fun w' => w'.cell? ⟨w.heap.size, 1, none⟩ = some (.int .u32 (id : Nat)) ∧ w'.cell? ⟨w.heap.size, 2, none⟩ = some (.slice A L.length c) ∧ w'.cell? ⟨w.heap.size, 3, none⟩ = some (.string s)) (first | exact ⟨p0_1, p0_2, p0_3⟩ | exact ⟨p1_1, p1_2, p1_3⟩ | exact ⟨p2_1, p2_2, p2_3⟩ | exact ⟨p3_1, p3_2, p3_3⟩ | go_keep) (first
    | (go_at_call 397; (with_reducible refine (HHD.out _ HBd.out).mono ?_); rintro e w1 ⟨b, rfl, hbb, ho, hb⟩; have HO1 := Lib.hid ho; have HX1 := Lib.hid (blk_below HXd.out hb); have HB1 := Lib.hid (HBd.out.trans (hb.mono HBd.out.size)); have HBS := Lib.hid hb.size; have HNB := Lib.hid (show w.heap.size ≠ b by have := HLT.out; omega); have HBB := Lib.hid (show w.heap.size ≤ b by have := HLT.out; omega); obtain ⟨p1_0, p1_1, p1_2, p1_3⟩ := qcell HX1.out; clear hb ho hbb)
    | (go_at_call 59; (with_reducible refine (raw_calls HO1.out HBS.out HPUT.out s HS.out).mono ?_); rintro e w2 ⟨rfl, ho, hc1⟩; have HO2 := Lib.hid ho; have HX2 := Lib.hid (Ch5.blk hc1 HX1.out HNB.out (by decide)); have HB2 := Lib.hid (HB1.out.trans (hc1.to_below HB1.out.size HBB.out (fun k h => by have := HBd.out.size; omega))); obtain ⟨p2_0, p2_1, p2_2, p2_3⟩ := qcell HX2.out; clear ho hc1)
    | (go_at_call 16; (with_reducible refine (text_calls HO2.out).mono ?_); rintro e w3 ⟨rfl, hb⟩; have HX3 := Lib.hid (blk_below HX2.out hb); have HB3 := Lib.hid (HB2.out.trans (hb.mono HB2.out.size)); obtain ⟨p3_0, p3_1, p3_2, p3_3⟩ := qcell HX3.out; clear hb))
  go_wp2
  go_ret
  exact ⟨rfl, HB3.out⟩
set_option maxHeartbeats 4000000 in
set_option maxRecDepth 1000000 in
theorem subackframe_calls {w : World} {k id c : Nat} {A : Option Addr} {L : List PR} {s : ByteArray} {B : ByteArray} (HT : Hid (∀ W, Below w.heap.size w W → Calls Tryz.prog 413 #[.agg #[.int .i64 (k : Nat), .int .u32 (id : Nat), .slice A L.length c, .string s]] W fun e w' => e = .returned (.string B) ∧ Below W.heap.size W w')) : Calls Tryz.prog 414 #[.agg #[.int .i64 (k : Nat), .int .u32 (id : Nat), .slice A L.length c, .string s]] w (FrPost w k 0 B) := by
  have HX := Lib.hid (show ((w.alloc (.cells #[.int .i64 (k : Nat), .int .u32 (id : Nat), .slice A L.length c, .string s] 270)).alloc (.cells #[.int .i64 0, .int .i64 0, .string ⟨#[]⟩] 128)).heap[w.heap.size]? = some (.cells #[.int .i64 (k : Nat), .int .u32 (id : Nat), .slice A L.length c, .string s] 270 (0, 0)) from blk_alloc (heap_alloc_new w _) _)
  have HB := Lib.hid (show Below w.heap.size w ((w.alloc (.cells #[.int .i64 (k : Nat), .int .u32 (id : Nat), .slice A L.length c, .string s] 270)).alloc (.cells #[.int .i64 0, .int .i64 0, .string ⟨#[]⟩] 128)) from ((Below.refl _ _).alloc (Nat.le_refl _) _).alloc (by rw [World.size_alloc]; omega) _)
  have HR := Lib.hid (show ((w.alloc (.cells #[.int .i64 (k : Nat), .int .u32 (id : Nat), .slice A L.length c, .string s] 270)).alloc (.cells #[.int .i64 0, .int .i64 0, .string ⟨#[]⟩] 128)).heap[w.heap.size + 1]? = some (.cells #[.int .i64 0, .int .i64 0, .string ⟨#[]⟩] 128 (0, 0)) by
    have := heap_alloc_new (w.alloc (.cells #[.int .i64 (k : Nat), .int .u32 (id : Nat), .slice A L.length c, .string s] 270)) (.cells #[.int .i64 0, .int .i64 0, .string ⟨#[]⟩] 128)
    rw [World.size_alloc] at this
    exact this)
  go_enter Tryz.func414, Tryz.ntmps414
  go_upto_region 1 with (fail)
  generalize ((w.alloc (.cells #[.int .i64 (k : Nat), .int .u32 (id : Nat), .slice A L.length c, .string s] 270)).alloc (.cells #[.int .i64 0, .int .i64 0, .string ⟨#[]⟩] 128)) = W0 at HX HB HR ⊢
  obtain ⟨p0_0, p0_1, p0_2, p0_3⟩ := qcell HX.out
  have HXd := Lib.hid (blk_drew HX.out)
  have HRd := Lib.hid (blk_drew HR.out)
  have HBd := Lib.hid (below_dr HB.out)
  clear HX HR HB
  go_region_held3 (fun w' => w'.cell? ⟨w.heap.size, 0, none⟩ = some (.int .i64 (k : Nat)) ∧ w'.cell? ⟨w.heap.size, 1, none⟩ = some (.int .u32 (id : Nat)) ∧ w'.cell? ⟨w.heap.size, 2, none⟩ = some (.slice A L.length c) ∧ w'.cell? ⟨w.heap.size, 3, none⟩ = some (.string s)) (first | exact ⟨p0_0, p0_1, p0_2, p0_3⟩ | exact ⟨p1_0, p1_1, p1_2, p1_3⟩ | exact ⟨p2_0, p2_1, p2_2, p2_3⟩ | go_keep) (first
    | (go_at_call 413; (with_reducible refine (HT.out _ HBd.out).mono ?_); rintro e w1 ⟨rfl, hb⟩; have HX1 := Lib.hid (blk_below HXd.out hb); have HR1 := Lib.hid (blk_below HRd.out hb); have HB1 := Lib.hid (HBd.out.trans (hb.mono HBd.out.size)); obtain ⟨p1_0, p1_1, p1_2, p1_3⟩ := qcell HX1.out; obtain ⟨r0, r1, r2⟩ := frcell HR1.out; have f0 := blk_frozen HR1.out 0; have f1 := blk_frozen HR1.out 1; have f2 := blk_frozen HR1.out 2; clear hb))
  go_wp2
  refine bodyPost_ret (v := fr k 0 B) (by unfold fr; simp [results, Tryz.results414, go_sem, r0, r1, r2]) rfl ⟨rfl, ?_⟩
  exact ((HB1.out.setCell (by simp; done) _).setCell (by simp; done) _).setCell (by simp; done) _
theorem w64n (j : Nat) (h : j < 1000000) : wrap64 ((j : Int) + 1) = ((j + 1 : Nat) : Int) := by
  unfold wrap64
  push_cast
  omega
set_option maxHeartbeats 4000000 in
set_option maxRecDepth 1000000 in
theorem suframe {w : World} {id n c n2 c2 : Nat} {A A2 : Option Addr} {B : ByteArray} (HT : Hid (∀ W, Below w.heap.size w W → Calls Tryz.prog 395 #[.agg #[.int .u32 (id : Nat), .slice A n c, .slice A2 n2 c2]] W fun e w' => e = .returned (.string B) ∧ Below W.heap.size W w')) : Calls Tryz.prog 396 #[.agg #[.int .u32 (id : Nat), .slice A n c, .slice A2 n2 c2]] w (FrPost w 8 2 B) := by
  have HX := Lib.hid (show ((w.alloc (.cells #[.int .u32 (id : Nat), .slice A n c, .slice A2 n2 c2] 88)).alloc (.cells #[.int .i64 0, .int .i64 0, .string ⟨#[]⟩] 128)).heap[w.heap.size]? = some (.cells #[.int .u32 (id : Nat), .slice A n c, .slice A2 n2 c2] 88 (0, 0)) from blk_alloc (heap_alloc_new w _) _)
  have HB := Lib.hid (show Below w.heap.size w ((w.alloc (.cells #[.int .u32 (id : Nat), .slice A n c, .slice A2 n2 c2] 88)).alloc (.cells #[.int .i64 0, .int .i64 0, .string ⟨#[]⟩] 128)) from ((Below.refl _ _).alloc (Nat.le_refl _) _).alloc (by rw [World.size_alloc]; omega) _)
  have HR := Lib.hid (show ((w.alloc (.cells #[.int .u32 (id : Nat), .slice A n c, .slice A2 n2 c2] 88)).alloc (.cells #[.int .i64 0, .int .i64 0, .string ⟨#[]⟩] 128)).heap[w.heap.size + 1]? = some (.cells #[.int .i64 0, .int .i64 0, .string ⟨#[]⟩] 128 (0, 0)) by
    have := heap_alloc_new (w.alloc (.cells #[.int .u32 (id : Nat), .slice A n c, .slice A2 n2 c2] 88)) (.cells #[.int .i64 0, .int .i64 0, .string ⟨#[]⟩] 128)
    rw [World.size_alloc] at this
    exact this)
  go_enter Tryz.func396, Tryz.ntmps396
  go_upto_region 1 with fail
  generalize ((w.alloc (.cells #[.int .u32 (id : Nat), .slice A n c, .slice A2 n2 c2] 88)).alloc (.cells #[.int .i64 0, .int .i64 0, .string ⟨#[]⟩] 128)) = W0 at HX HB HR ⊢
  obtain ⟨x0, x1, x2⟩ := frcell HX.out
  go_wp2_with (first
    | (go_at_call 395; (with_reducible refine (HT.out _ HB.out).mono ?_); rintro e w2 ⟨rfl, hb⟩; have HR2 := Lib.hid (hb.block _ (blk_lt HR.out) |>.trans HR.out); have HB2 := Lib.hid (HB.out.trans (hb.mono HB.out.size)); obtain ⟨r0, r1, r2⟩ := frcell HR2.out; have f0 := blk_frozen HR2.out 0; have f1 := blk_frozen HR2.out 1; have f2 := blk_frozen HR2.out 2; clear hb))
  refine bodyPost_ret (v := fr 8 2 B) (by unfold fr; simp [results, Tryz.results396, go_sem, r0, r1, r2]) rfl ⟨rfl, ?_⟩
  exact ((HB2.out.setCell (by simp; done) _).setCell (by simp; done) _).setCell (by simp; done) _
def opU (q : Nat) (nl ap : Bool) (h : Nat) : Nat := q + (if nl then 4 else 0) + (if ap then 8 else 0) + h * 16
theorem opU_lt (q : Nat) (nl ap : Bool) (h : Nat) (hq : q < 4) (hh : h < 4) : opU q nl ap h < 256 := by
  unfold opU
  cases nl <;> cases ap <;> simp <;> omega
theorem opbits (q h : Nat) (hq : q < 4) (hh : h < 4) : Go.bits .or .u8 (q : Int) ((h : Int) * 16 % 256) = ((q + h * 16 : Nat) : Int) ∧ Go.bits .or .u8 ((q + h * 16 : Nat) : Int) 4 = ((q + 4 + h * 16 : Nat) : Int) ∧ Go.bits .or .u8 ((q + h * 16 : Nat) : Int) 8 = ((q + 8 + h * 16 : Nat) : Int) ∧ Go.bits .or .u8 ((q + 4 + h * 16 : Nat) : Int) 8 = ((q + 4 + 8 + h * 16 : Nat) : Int) := by
  have H : ∀ (q h : Fin 4), Go.bits .or .u8 ((q.1 : Nat) : Int) (((h.1 : Nat) : Int) * 16 % 256) = ((q.1 + h.1 * 16 : Nat) : Int) ∧ Go.bits .or .u8 ((q.1 + h.1 * 16 : Nat) : Int) 4 = ((q.1 + 4 + h.1 * 16 : Nat) : Int) ∧ Go.bits .or .u8 ((q.1 + h.1 * 16 : Nat) : Int) 8 = ((q.1 + 8 + h.1 * 16 : Nat) : Int) ∧ Go.bits .or .u8 ((q.1 + 4 + h.1 * 16 : Nat) : Int) 8 = ((q.1 + 4 + 8 + h.1 * 16 : Nat) : Int) := by decide +kernel
  exact H ⟨q, hq⟩ ⟨h, hh⟩
set_option maxHeartbeats 4000000 in
set_option maxRecDepth 1000000 in
theorem options_calls {w : World} {s : ByteArray} {q h : Nat} {nl ap : Bool} (hq : q < 4) (hh : h < 4) : Calls Tryz.prog 394 #[.agg #[.string s, .int .u8 (q : Nat), .bool nl, .bool ap, .int .u8 (h : Nat)]] w fun e w' => e = .returned (.int .u8 (opU q nl ap h : Nat)) ∧ Below w.heap.size w w' := by
  have HX := Lib.hid (heap_alloc_new w (.cells #[.string s, .int .u8 (q : Nat), .bool nl, .bool ap, .int .u8 (h : Nat)] 83))
  have HB := Lib.hid (show Below w.heap.size w (w.alloc (.cells #[.string s, .int .u8 (q : Nat), .bool nl, .bool ap, .int .u8 (h : Nat)] 83)) from (Below.refl _ _).alloc (Nat.le_refl _) _)
  have HQ := Lib.hid hq
  have HH := Lib.hid hh
  have hb1 := (opbits q h hq hh).1
  have HB2 := Lib.hid (opbits q h hq hh).2
  have hq3 := (fl_bits q hq).1
  have hh3 := (fl_bits h hh).1
  clear hq hh
  go_enter Tryz.func394, Tryz.ntmps394
  go_upto_region 1 with (fail)
  generalize (w.alloc (.cells #[.string s, .int .u8 (q : Nat), .bool nl, .bool ap, .int .u8 (h : Nat)] 83)) = W0 at HX HB ⊢
  obtain ⟨x0, x1, x2, x3, x4⟩ := rcell HX.out
  go_upto_region 2 with (fail)
  rw [show ((q : Int) + (h : Int) * 16) = ((q + h * 16 : Nat) : Int) by push_cast; rfl]
  obtain ⟨z, hz⟩ : ∃ z, z = q + h * 16 := ⟨_, rfl⟩
  obtain ⟨z4, hz4⟩ : ∃ z, z = q + 4 + h * 16 := ⟨_, rfl⟩
  obtain ⟨z8, hz8⟩ : ∃ z, z = q + 8 + h * 16 := ⟨_, rfl⟩
  obtain ⟨z48, hz48⟩ : ∃ z, z = q + 4 + 8 + h * 16 := ⟨_, rfl⟩
  obtain ⟨b4, b8, b48⟩ := HB2.out
  rw [← hz, ← hz4] at b4
  rw [← hz, ← hz8] at b8
  rw [← hz4, ← hz48] at b48
  rw [← hz]
  have HZ := Lib.hid hz
  have HZ4 := Lib.hid hz4
  have HZ8 := Lib.hid hz8
  have HZ48 := Lib.hid hz48
  clear hz hz4 hz8 hz48 hb1 hq3 hh3 HB2
  cases nl <;> cases ap
  · have HF := Lib.hid (show opU q false false h = z by rw [HZ.out]; simp [opU])
    go_wp2
    go_ret
    exact ⟨by first | rfl | (rw [HF.out]; rfl), HB.out⟩
  · have HF := Lib.hid (show opU q false true h = z8 by rw [HZ8.out]; simp [opU])
    go_wp2
    go_ret
    exact ⟨by first | rfl | (rw [HF.out]; rfl), HB.out⟩
  · have HF := Lib.hid (show opU q true false h = z4 by rw [HZ4.out]; simp [opU])
    go_wp2
    go_ret
    exact ⟨by first | rfl | (rw [HF.out]; rfl), HB.out⟩
  · have HF := Lib.hid (show opU q true true h = z48 by rw [HZ48.out]; simp [opU])
    go_wp2
    go_ret
    exact ⟨by first | rfl | (rw [HF.out]; rfl), HB.out⟩
def FL (w : World) (A : Option Addr) (l : List ByteArray) : Prop := Kd.C Kd.string w A l.length l
theorem FL.to {w w1 : World} {A : Option Addr} {l : List ByteArray} (h : FL w A l) (hb : Below w.heap.size w w1) : FL w1 A l := Kd.C_below h hb
theorem FL.at {w : World} {A : Option Addr} {l : List ByteArray} (h : FL w A l) (j : Nat) (hj : j < l.length) : ∃ ad, A = some ad ∧ w.cell? (ad.add j) = some (.string l[j]) := by
  obtain ⟨ad, c, e, _, hK, hc0⟩ := Kd.C_get h ⟨#[]⟩ (j : Int) (by omega) (by omega)
  have hK2 : c = [.string (l.getD j ⟨#[]⟩)] := hK
  subst hK2
  have h2 := hc0 0 _ rfl
  have h3 : l.getD j ⟨#[]⟩ = l[j] := by simp [List.getD_eq_getElem?_getD, List.getElem?_eq_getElem hj]
  rw [h3] at h2
  refine ⟨ad, e, ?_⟩
  have h4 : (j : Int).toNat * Kd.string.sz + 0 = j := by
    show j * 1 + 0 = j
    omega
  rw [h4] at h2
  exact h2
structure SB where
  f : ByteArray
  q : Nat
  nl : Bool
  ap : Bool
  h : Nat
structure SB.Ok (x : SB) : Prop where
  f : x.f.size ≤ 65535
  q : x.q < 4
  h : x.h < 4
def k155 : Kd SB := Kd.iso (Kd.pair Kd.string (Kd.pair (Kd.int .u8) (Kd.pair Kd.bool (Kd.pair Kd.bool (Kd.int .u8))))) (fun x : SB => (x.f, (x.q : Int), x.nl, x.ap, (x.h : Int)))
theorem k155_open {w : World} {x : SB} {cs : List Value} (h : k155.K w x cs) : cs = [.string x.f, .int .u8 (x.q : Nat), .bool x.nl, .bool x.ap, .int .u8 (x.h : Nat)] := by
  obtain ⟨_, _, rfl, rfl, ⟨_, _, rfl, rfl, ⟨_, _, rfl, rfl, ⟨_, _, rfl, rfl, rfl⟩⟩⟩⟩ := h
  exact rfl
theorem k155_mk (w : World) (x : SB) : k155.K w x [.string x.f, .int .u8 (x.q : Nat), .bool x.nl, .bool x.ap, .int .u8 (x.h : Nat)] := ⟨[.string x.f], [.int .u8 (x.q : Nat), .bool x.nl, .bool x.ap, .int .u8 (x.h : Nat)], rfl, rfl, ⟨[.int .u8 (x.q : Nat)], [.bool x.nl, .bool x.ap, .int .u8 (x.h : Nat)], rfl, rfl, ⟨[.bool x.nl], [.bool x.ap, .int .u8 (x.h : Nat)], rfl, rfl, ⟨[.bool x.ap], [.int .u8 (x.h : Nat)], rfl, rfl, rfl⟩⟩⟩⟩
def SL (w : World) (A : Option Addr) (l : List SB) : Prop := Kd.C k155 w A l.length l
theorem SL.to {w w1 : World} {A : Option Addr} {l : List SB} (h : SL w A l) (hb : Below w.heap.size w w1) : SL w1 A l := Kd.C_below h hb
theorem SL.at {w : World} {A : Option Addr} {l : List SB} (h : SL w A l) (j : Nat) (hj : j < l.length) : ∃ ad, A = some ad ∧ w.cell? (ad.add (j * 5)) = some (.string l[j].f) ∧ w.cell? ⟨(ad.add (j * 5)).block, (ad.add (j * 5)).off + 1, none⟩ = some (.int .u8 (l[j].q : Nat)) ∧ w.cell? ⟨(ad.add (j * 5)).block, (ad.add (j * 5)).off + 2, none⟩ = some (.bool l[j].nl) ∧ w.cell? ⟨(ad.add (j * 5)).block, (ad.add (j * 5)).off + 3, none⟩ = some (.bool l[j].ap) ∧ w.cell? ⟨(ad.add (j * 5)).block, (ad.add (j * 5)).off + 4, none⟩ = some (.int .u8 (l[j].h : Nat)) := by
  obtain ⟨ad, c, e, _, hK, hc0⟩ := Kd.C_get h ⟨⟨#[]⟩, 0, false, false, 0⟩ (j : Int) (by omega) (by omega)
  have h3 : l.getD (j : Int).toNat ⟨⟨#[]⟩, 0, false, false, 0⟩ = l[j] := by simp [List.getD_eq_getElem?_getD, List.getElem?_eq_getElem hj]
  rw [h3] at hK
  obtain rfl := k155_open hK
  have hc : ∀ i u, ([.string l[j].f, .int .u8 (l[j].q : Nat), .bool l[j].nl, .bool l[j].ap, .int .u8 (l[j].h : Nat)] : List Value)[i]? = some u → w.cell? (ad.add (j * 5 + i)) = some u := hc0
  exact ⟨ad, e, hc 0 _ rfl, by rw [← add_field _ _ 1 (by omega)]; exact hc 1 _ rfl, by rw [← add_field _ _ 2 (by omega)]; exact hc 2 _ rfl, by rw [← add_field _ _ 3 (by omega)]; exact hc 3 _ rfl, by rw [← add_field _ _ 4 (by omega)]; exact hc 4 _ rfl⟩
def subB (x : SB) : List UInt8 := dat x.f ++ [UInt8.ofNat (opU x.q x.nl x.ap x.h)]
def subsB (l : List SB) : List UInt8 := l.flatMap subB
theorem subsB_snoc (l : List SB) (k : Nat) (hk : k < l.length) : subsB (l.take (k + 1)) = subsB (l.take k) ++ subB l[k] := by
  unfold subsB
  rw [List.take_succ_eq_append_getElem hk, List.flatMap_append]
  simp
theorem subsB_take (l : List SB) (k : Nat) : (subsB (l.take k)).length ≤ (subsB l).length := by
  have h : subsB l = subsB (l.take k) ++ subsB (l.drop k) := by
    unfold subsB
    rw [← List.flatMap_append, List.take_append_drop]
  rw [h, List.length_append]
  omega
set_option maxHeartbeats 4000000 in
set_option maxRecDepth 1000000 in
theorem sutext_calls {w : World} {id c c2 : Nat} {A A2 : Option Addr} {L : List PR} {fs : List SB} (hid : id ≤ 4294967295) (hlk : LOk L) (hc : L.length ≤ c) (hL : PL w A L) (hF : SL w A2 fs) (hfs : ∀ x ∈ fs, x.Ok) (hln : (subsB fs).length ≤ 100000) (hn : fs.length ≤ 100000) : Calls Tryz.prog 395 #[.agg #[.int .u32 (id : Nat), .slice A L.length c, .slice A2 fs.length c2]] w fun e w' => e = .returned (.string (toB ((([] ++ be2 (id % 65536)) ++ putB L) ++ subsB fs))) ∧ Below w.heap.size w w' := by
  have HHD := Lib.hid (fun W (hb : Below w.heap.size w W) => head_calls (w := W) hid hlk hc (hL.to hb))
  have HFL := Lib.hid hF
  have HFS := Lib.hid hfs
  have HLN := Lib.hid hln
  have HN := Lib.hid hn
  have HPUT := Lib.hid (show ((([] : List UInt8) ++ be2 (id % 65536)) ++ putB L).length ≤ 200000 by
    have := putB_len L hlk.sz
    rw [List.length_append]
    show 2 + _ ≤ 200000
    omega)
  have HX := Lib.hid (heap_alloc_new w (.cells #[.int .u32 (id : Nat), .slice A L.length c, .slice A2 fs.length c2] 86))
  have HB := Lib.hid (show Below w.heap.size w (w.alloc (.cells #[.int .u32 (id : Nat), .slice A L.length c, .slice A2 fs.length c2] 86)) from (Below.refl _ _).alloc (Nat.le_refl _) _)
  clear hid hlk hc hL hF hfs hln hn
  go_enter Tryz.func395, Tryz.ntmps395
  go_upto_region 1 with (fail)
  generalize (w.alloc (.cells #[.int .u32 (id : Nat), .slice A L.length c, .slice A2 fs.length c2] 86)) = W0 at HX HB ⊢
  obtain ⟨x0, x1, x2⟩ := frcell HX.out
  obtain ⟨N, hN⟩ : ∃ N, N = W0.heap.size := ⟨_, rfl⟩
  have HLT := Lib.hid (show w.heap.size < N from hN ▸ blk_lt HX.out)
  have HNE := Lib.hid hN
  clear hN
  go_upto_region 3 with (first
    | (go_at_call 397; (with_reducible refine (HHD.out _ HB.out).mono ?_); rintro e w1 ⟨b, rfl, hbb, ho, hb⟩; have HO1 := Lib.hid (show OW w1 b (fun k => N ≤ k) _ from HNE.out ▸ ho); have HX1 := Lib.hid (blk_below HX.out hb); have HB1 := Lib.hid (HB.out.trans (hb.mono HB.out.size)); have HBS := Lib.hid (show N ≤ w1.heap.size from HNE.out ▸ hb.size); have HBB := Lib.hid (show N ≤ b from HNE.out ▸ hbb); obtain ⟨y0, y1, y2⟩ := frcell HX1.out; clear hb ho hbb))
  clear x0 x1 x2 y0 y1 y2 HX HB
  obtain ⟨HEAD, hhd⟩ : ∃ l : List UInt8, l = (([] ++ be2 (id % 65536)) ++ putB L) := ⟨_, rfl⟩
  rw [← hhd] at HPUT HO1
  have HHE := Lib.hid hhd
  clear hhd
  have HO2 := Lib.hid (show OW w1 b (fun k => N ≤ k) (HEAD ++ subsB (fs.take 0)) by
    have h := HO1.out
    rw [List.take_zero]
    show OW w1 b _ (HEAD ++ [])
    rw [List.append_nil]
    exact h)
  clear HO1
  go_loopg [14] fs.length (fun gh v14 wx => ∃ j : Nat, Hid (j + gh = fs.length) ∧ v14 = .int .i64 j ∧ Hid (OW wx b (fun k => N ≤ k) (HEAD ++ subsB (fs.take j))) ∧ Hid (Below w.heap.size w wx) ∧ Hid (N ≤ wx.heap.size))
  case atStart => exact ⟨0, Lib.hid (Nat.zero_add _), rfl, HO2, HB1, HBS⟩
  case round =>
    clear HO2 HB1 HBS
    obtain ⟨j, hj, rfl, HO2, HB1, HBS⟩ := hrel
    cases gk with
    | zero =>
      have hkb := hj.out
      obtain rfl : j = fs.length := by omega
      rw [List.take_length] at HO2
      clear hkb hj
      go_wp2_with (first | (go_at_call 16; (with_reducible refine (text_calls HO2.out).mono ?_); rintro e w3 ⟨rfl, hb⟩; have HB3 := Lib.hid (HB1.out.trans (hb.mono HB1.out.size)); clear hb))
      go_ret
      exact ⟨by rw [HHE.out]; simp, HB3.out⟩
    | succ g1 =>
      have hkb := hj.out
      have hlt2 : j < fs.length := by omega
      have hlt : (j : Int) < (fs.length : Int) := by omega
      have HJ := Lib.hid (show j + g1 + 1 = fs.length by omega)
      obtain ⟨ad, rfl, e0, e1, e2, e3, e4⟩ := (HFL.out.to HB1.out).at j hlt2
      have HSN := Lib.hid (subsB_snoc fs j hlt2)
      have HSZ := Lib.hid (HFS.out fs[j] (List.getElem_mem hlt2))
      have HTK := Lib.hid (show (HEAD ++ subsB (fs.take j)).length ≤ 800000 by
        have h1 := subsB_take fs j
        have h2 := HLN.out
        have h3 := HPUT.out
        rw [List.length_append]
        omega)
      generalize fs[j] = x at HSN HSZ e0 e1 e2 e3 e4
      obtain ⟨f, q, nl, ap, h⟩ := x
      simp only at e0 e1 e2 e3 e4
      have HFZ := Lib.hid (show f.size ≤ 65535 from HSZ.out.f)
      have HOPT := Lib.hid (fun W => options_calls (w := W) (s := f) (q := q) (h := h) (nl := nl) (ap := ap) HSZ.out.q HSZ.out.h)
      have HOL := Lib.hid (opU_lt q nl ap h HSZ.out.q HSZ.out.h)
      have HSB := Lib.hid (show subB ⟨f, q, nl, ap, h⟩ = dat f ++ [UInt8.ofNat (opU q nl ap h)] from rfl)
      clear hkb hj
      go_upto_region 5 with (fail)
      have hba := (Below.refl wr.heap.size wr).alloc (Nat.le_refl _) (.cells #[.string f, .int .u8 (q : Nat), .bool nl, .bool ap, .int .u8 (h : Nat)] 83)
      have HXn := Lib.hid (blk_drew (heap_alloc_new wr (.cells #[.string f, .int .u8 (q : Nat), .bool nl, .bool ap, .int .u8 (h : Nat)] 83)))
      have HOd := Lib.hid ((HO2.out.below hba).drew)
      have HBd := Lib.hid (below_dr (HB1.out.trans (hba.mono HB1.out.size)))
      have HNX := Lib.hid (show wr.heap.size ≠ b by have := HO2.out.lt; omega)
      have HBSd := Lib.hid (show N ≤ (wr.alloc (.cells #[.string f, .int .u8 (q : Nat), .bool nl, .bool ap, .int .u8 (h : Nat)] 83)).drew.heap.size from Nat.le_trans HBS.out hba.size)
      obtain ⟨p0, p1, p2, p3, p4⟩ := rcell (heap_alloc_new wr (.cells #[.string f, .int .u8 (q : Nat), .bool nl, .bool ap, .int .u8 (h : Nat)] 83))
      clear hba e0 e1 e2 e3 e4 HO2 HB1 HBS
      generalize (wr.alloc (.cells #[.string f, .int .u8 (q : Nat), .bool nl, .bool ap, .int .u8 (h : Nat)] 83)) = W2 at HXn HOd HBd HBSd p0 p1 p2 p3 p4 ⊢
      generalize wr.heap.size = bx at HXn HNX p0 p1 p2 p3 p4 ⊢
      have HTK9 := Lib.hid (Nat.le_trans HTK.out (show 800000 ≤ 900000 by omega))
      have HTK2 := Lib.hid (show ((HEAD ++ subsB (fs.take j)) ++ dat f).length ≤ 1000000 by rw [List.length_append, dat_size]; have h1 := HTK.out; have h2 := HFZ.out; omega)
      go_region_held3 (fun w' => w'.cell? ⟨bx, 0, none⟩ = some (.string f) ∧ w'.cell? ⟨bx, 1, none⟩ = some (.int .u8 (q : Nat)) ∧ w'.cell? ⟨bx, 2, none⟩ = some (.bool nl) ∧ w'.cell? ⟨bx, 3, none⟩ = some (.bool ap) ∧ w'.cell? ⟨bx, 4, none⟩ = some (.int .u8 (h : Nat))) (first | exact ⟨p0, p1, p2, p3, p4⟩ | exact ⟨q0, q1, q2, q3, q4⟩ | exact ⟨r0, r1, r2, r3, r4⟩ | exact ⟨s0, s1, s2, s3, s4⟩ | go_keep) (first
        | (go_at_call 383; (with_reducible refine (dat_calls HOd.out HBSd.out HTK9.out f HFZ.out).mono ?_); rintro e w2 ⟨rfl, ho, hc1⟩; have HO3 := Lib.hid ho; have HX3 := Lib.hid (Ch5.blk hc1 HXn.out HNX.out (by decide)); have HB3 := Lib.hid (HBd.out.trans (hc1.to_below HBd.out.size (by have h1 := HBB.out; have h2 := HLT.out; omega) (fun k hk => by have h2 := HLT.out; omega))); have HBS3 := Lib.hid (Nat.le_trans HBSd.out hc1.size); obtain ⟨q0, q1, q2, q3, q4⟩ := rcell HX3.out; clear ho hc1)
        | (go_at_call 394; (with_reducible refine (HOPT.out _).mono ?_); rintro e w3 ⟨rfl, hb⟩; have HO4 := Lib.hid (HO3.out.below hb); have HX4 := Lib.hid (blk_below HX3.out hb); have HB4 := Lib.hid (HB3.out.trans (hb.mono HB3.out.size)); have HBS4 := Lib.hid (Nat.le_trans HBS3.out hb.size); obtain ⟨r0, r1, r2, r3, r4⟩ := rcell HX4.out; clear hb)
        | (go_at_call 32; (with_reducible refine (byte_calls HO4.out (fun k hk => Nat.le_trans HBS4.out hk) HTK2.out (opU q nl ap h) HOL.out).mono ?_); rintro e w4 ⟨rfl, ho, hc1⟩; have HO5 := Lib.hid (show OW w4 b (fun k => N ≤ k) (HEAD ++ subsB (fs.take (j + 1))) by rw [HSN.out, HSB.out, ← List.append_assoc, ← List.append_assoc]; exact ho); have HX5 := Lib.hid (Ch5.blk hc1 HX4.out HNX.out (by decide)); have HB5 := Lib.hid (HB4.out.trans (hc1.to_below HB4.out.size (by have h1 := HBB.out; have h2 := HLT.out; omega) (fun k hk => by have h2 := HLT.out; omega))); have HBS5 := Lib.hid (Nat.le_trans HBS4.out hc1.size); obtain ⟨s0, s1, s2, s3, s4⟩ := rcell HX5.out; clear ho hc1))
      go_wp2
      go_roundg g1
      case measure => omega
      case rel => exact ⟨j + 1, Lib.hid (by have := HJ.out; omega), by have hb1 := HJ.out; have hb2 := HN.out; rw [w64n j (by omega)], HO5, HB5, HBS5⟩
end Go.Proofs.YtbfgpkogginmjaaGreatDoor
end
section
namespace Go.Proofs.YtbfgpkogginmjaaGreatDoor
open Go.RowKit Go.Lib Go.Proofs.YtbfgpkogginmjaaGreatDoorW.PrintWords Go.Proofs.YtbfgpkogginmjaaGreatDoor.PSwitchboardGreat
set_option linter.unusedVariables false
set_option linter.unusedSimpArgs false
section
variable {α : Type} {d : Kd α} {q0 : Nat} {w w' : World} {B : Nat} {ok ok' S : Nat → Prop} {v : Value} {l : List α}
theorem ro_row (hE : d.E = []) (h : d.R q0 w B ok v l) : ∀ k, v.ownBlock = some k → ∃ cs, w.heap[k]? = some (.cells cs q0 (0, 0)) := by
  intro k hk
  obtain ⟨q, hq, cells, hcl⟩ := ((Kd.R_bound h).1 k hk).2.2.2
  have hq2 : q = q0 := by
    have : q ∈ q0 :: d.E := hq
    rw [hE] at this
    simpa using this
  exact ⟨cells, hq2 ▸ hcl⟩
theorem ro_to (hE : d.E = []) (h : d.R q0 w B ok v l) (hc : Chg S w w') (hS : ∀ k, S k → ¬ ok k ∨ ∃ cs t, w.heap[k]? = some (.cells cs t (0, 0)) ∧ t ≠ q0) : d.R q0 w' B ok v l := by
  refine Kd.R_mono (Kd.R_step (Kd.R_bound h) (fun k hk hlt => hc.block k hlt (fun hs => ?_))) (fun k hk => hk.1)
  rcases hS k hs with h1 | ⟨cs, t, h1, h2⟩
  · exact h1 hk.1
  · obtain ⟨q, hq, cells, hcl⟩ := hk.2.2.2
    have hq2 : q = q0 := by
      have : q ∈ q0 :: d.E := hq
      rw [hE] at this
      simpa using this
    subst hq2
    rw [h1] at hcl
    injection hcl with hcl
    injection hcl with _ hcl _
    exact h2 hcl
theorem ro_form (h : d.R q0 w B ok v l) : ∃ A c, v = .slice A l.length c ∧ l.length ≤ c ∧ d.C w A l.length l := by
  obtain ⟨A, c, h1, h2, h3⟩ := Kd.R_reads h
  exact ⟨A, c, h1, h2, h3⟩
theorem ro_grown (hE : d.E = []) (h : d.R q0 w B ok v l) (hg : w.grownBy w' v.ownBlock) {b : Nat} {cs : Array Value} {t : TypeId} (hb : w.heap[b]? = some (.cells cs t (0, 0))) (ht : t ≠ q0) : w'.heap[b]? = some (.cells cs t (0, 0)) := by
  refine (Chg.of_grown (S := fun k => v.ownBlock = some k) hg (fun k hk => hk)).blk hb (fun hk => ?_)
  obtain ⟨cs2, hc⟩ := ro_row hE h b hk
  rw [hb] at hc
  injection hc with hc
  injection hc with _ hc _
  exact ht hc
end
theorem k155_E : k155.E = [] := rfl
end Go.Proofs.YtbfgpkogginmjaaGreatDoor
end
section
namespace Go.Proofs.YtbfgpkogginmjaaGreatDoor
open Go.RowKit Go.Lib Go.Proofs.YtbfgpkogginmjaaGreatDoorW.PrintWords Go.Proofs.YtbfgpkogginmjaaGreatDoor.PSwitchboardGreat
set_option linter.unusedVariables false
set_option linter.unusedSimpArgs false
theorem info155 : (Tryz.prog.info? 83).map (fun i => (i.zero, i.size, i.bytes)) = some (some (.agg #[.string ⟨#[]⟩, .int .u8 0, .bool false, .bool false, .int .u8 0]), 5, 24) := by kernel_rfl
theorem k155_mkM (w : World) (base : Nat) (ok : Nat → Prop) (x : SB) : k155.M w base ok x [.string x.f, .int .u8 (x.q : Nat), .bool x.nl, .bool x.ap, .int .u8 (x.h : Nat)] := ⟨[.string x.f], [.int .u8 (x.q : Nat), .bool x.nl, .bool x.ap, .int .u8 (x.h : Nat)], rfl, rfl, ⟨[.int .u8 (x.q : Nat)], [.bool x.nl, .bool x.ap, .int .u8 (x.h : Nat)], rfl, rfl, ⟨[.bool x.nl], [.bool x.ap, .int .u8 (x.h : Nat)], rfl, rfl, ⟨[.bool x.ap], [.int .u8 (x.h : Nat)], rfl, rfl, rfl⟩⟩⟩⟩
theorem so_sl {w : World} {B : Nat} {ok : Nat → Prop} {A : Option Addr} {c : Nat} {l : List SB} (h : k155.R 83 w B ok (.slice A l.length c) l) : SL w A l := by
  obtain ⟨A', c', hv, _, hC⟩ := ro_form h
  injection hv with h1 h2 h3
  subst h1
  exact hC
theorem ro_setc {α : Type} {d : Kd α} {q0 : Nat} {w : World} {B : Nat} {ok : Nat → Prop} {v : Value} {l : List α} (hE : d.E = []) (h : d.R q0 w B ok v l) (b i : Nat) (u : Value) {cs : Array Value} {t : TypeId} (hb : w.heap[b]? = some (.cells cs t (0, 0))) (ht : t ≠ q0) : d.R q0 (w.setCell ⟨b, i, none⟩ u) B ok v l := ro_to hE h (chg_setc b i u) (fun k hk => .inr ⟨cs, t, hk ▸ hb, ht⟩)
theorem ro_sl {α : Type} {d : Kd α} {q0 : Nat} {w : World} {B : Nat} {ok : Nat → Prop} {v : Value} {l : List α} (h : d.R q0 w B ok v l) : ∃ A n c, v = .slice A n c := by
  obtain ⟨A, c, h1, _⟩ := ro_form h
  exact ⟨A, _, c, h1⟩
def SO (w : World) (B : Nat) (v : Value) (l : List SB) : Prop := k155.R 83 w B (fun _ => True) v l
end Go.Proofs.YtbfgpkogginmjaaGreatDoor
end
