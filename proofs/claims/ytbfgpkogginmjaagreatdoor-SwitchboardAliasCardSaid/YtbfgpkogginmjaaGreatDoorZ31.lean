/- Parts of a proof about aliases: D1. -/
import Derived.Test.YtbfgpkogginmjaaGreatDoorZ13
import Derived.Test.YtbfgpkogginmjaaGreatDoorZ20
import Derived.Test.YtbfgpkogginmjaaGreatDoorZ21
section
namespace Go.Proofs.YtbfgpkogginmjaaGreatDoor
open Go.RowKit Go.Lib Go.Proofs.YtbfgpkogginmjaaGreatDoorW.PrintWords Go.Proofs.YtbfgpkogginmjaaGreatDoor.PSwitchboardGreat
set_option linter.unusedVariables false
set_option linter.unusedSimpArgs false
abbrev FR := Nat × Nat × ByteArray
def FR.bs (x : FR) : List UInt8 := frB x.1 x.2.1 x.2.2
def frsB (L : List FR) : List UInt8 := (L.map FR.bs).flatten
theorem frsB_cons (x : FR) (L : List FR) : frsB (x :: L) = x.bs ++ frsB L := rfl
theorem frsB_app (L M : List FR) : frsB (L ++ M) = frsB L ++ frsB M := by unfold frsB; rw [List.map_append, List.flatten_append]
theorem FR.bs_pos (x : FR) : 0 < x.bs.length := by unfold FR.bs frB; rw [List.length_cons]; omega
theorem frsB_len (L : List FR) : L.length ≤ (frsB L).length := by
  induction L with
  | nil => exact Nat.le_refl _
  | cons x L ih => rw [frsB_cons, List.length_append, List.length_cons]; have := x.bs_pos; omega
def FR.Ok (most : Int) (x : FR) : Prop := x.1 < 16 ∧ x.2.1 < 16 ∧ chk x.1 x.2.1 = 0 ∧ x.2.2.size ≤ 268435455 ∧ ¬ most < ((x.bs.length : Nat) : Int)
def ParsesX (R : FR → Value → Prop) (x : FR) : Prop := ∀ W, Calls Tryz.prog 50 #[fr x.1 x.2.1 x.2.2] W fun e w' => ∃ t u, R x (.iface t u) ∧ e = .returned (.tuple #[.iface t u, .int .i64 0]) ∧ Below W.heap.size W w'
def All2 (R : FR → Value → Prop) : List FR → List Value → Prop
  | [], [] => True
  | x :: L, v :: Vs => R x v ∧ All2 R L Vs
  | [], _ :: _ => False
  | _ :: _, [] => False
theorem All2.snoc {R : FR → Value → Prop} : ∀ {L : List FR} {Vs : List Value} {x : FR} {v : Value}, All2 R L Vs → R x v → All2 R (L ++ [x]) (Vs ++ [v])
  | [], [], _, _, _, h => ⟨h, trivial⟩
  | _ :: _, _ :: _, _, _, h, k => ⟨h.1, All2.snoc h.2 k⟩
  | [], _ :: _, _, _, h, _ => h.elim
  | _ :: _, [], _, _, h, _ => h.elim
theorem All2.len {R : FR → Value → Prop} : ∀ {L : List FR} {Vs : List Value}, All2 R L Vs → L.length = Vs.length
  | [], [], _ => rfl
  | _ :: _, _ :: _, h => by rw [List.length_cons, List.length_cons, All2.len h.2]
  | [], _ :: _, h => h.elim
  | _ :: _, [], h => h.elim
def RV (w : World) (B : Nat) (v : Value) (Vs : List Value) : Prop := w.ownsRow B 81 1 v Vs.length Vs
theorem RV.below {w w1 : World} {B : Nat} {v : Value} {ps : List Value} (h : RV w B v ps) (hb : Below w.heap.size w w1) : RV w1 B v ps := own_to h (fun k hk => hb.block k (own_lt h k hk))
theorem RV.rd {w w1 : World} {B : Nat} {v : Value} {ps : List Value} {g : Nat} {most er : Int} {s : ByteArray} (h : RV w B v ps) (hr : RD w g most s er) (hc : Chg (fun i => i = g) w w1) : RV w1 B v ps := own_to h (fun k hk => hc.block k (own_lt h k hk) (fun e => own_not h hr k hk e))
def AllX (R : FR → Value → Prop) (L : List FR) (w : World) (e : Ending) (w' : World) : Prop := ∃ (Vs : List Value) (A : Option Addr) (c : Nat), e = .returned (.tuple #[.slice A Vs.length c, .int .i64 0]) ∧ Below w.heap.size w w' ∧ RV w' w.heap.size (.slice A Vs.length c) Vs ∧ All2 R L Vs
set_option maxHeartbeats 4000000 in
set_option maxRecDepth 1000000 in
theorem all_ex {w : World} (R : FR → Value → Prop) (L : List FR) (most : Int) (hok : ∀ x ∈ L, FR.Ok most x ∧ ParsesX R x) (hs : (frsB L).length ≤ 100000) : Calls Tryz.prog 25 #[.string (toB (frsB L)), .int .i64 most] w (AllX R L w) := by
  have HSS := Lib.hid hs
  have HOK := Lib.hid hok
  have HF : Hid (∀ W g, RD W g most ⟨#[]⟩ 0 → Calls Tryz.prog 42 #[.pointer (some ⟨g, 0, none⟩), .string (toB (frsB L))] W (RPost W g (.tuple #[]) most (toB (frsB L)) 0)) := Lib.hid (fun W g hR => by
    have h := feed_rd hR (toB (frsB L)) (by show 0 + _ ≤ _; rw [toB_size]; omega)
    rw [empty_app] at h
    exact h)
  clear hs hok
  generalize hS : toB (frsB L) = s at HF ⊢
  go_enter Tryz.func25, Tryz.ntmps25
  go_wp2_with (first
    | (go_at_call 37; refine (new_rd most).mono ?_; rintro e w1 ⟨g, rfl, hr, hg, hb⟩; have HR1 := Lib.hid hr; have HG := Lib.hid hg; have HB1 := Lib.hid hb; clear hr hg hb)
    | (go_at_call 42; refine (HF.out _ _ HR1.out).mono ?_; rintro e w2 ⟨rfl, hr, hc⟩; have HR2 := Lib.hid hr; have HB2 := Lib.hid (HB1.out.trans (hc.to_below HB1.out.size (fun k hk => hk ▸ HG.out))); clear hr hc))
  go_loopg [7] L.length (fun gh v7 wx => ∃ (M N : List FR) (Vs : List Value), Hid (L = M ++ N) ∧ Hid (RV wx w.heap.size v7 Vs) ∧ Hid (All2 R M Vs) ∧ Hid (gh = N.length) ∧ Hid (RD wx g most (toB (frsB N)) 0) ∧ Hid (Below w.heap.size w wx))
  case atStart =>
    exact ⟨[], L, [], Lib.hid rfl, Lib.hid (own_nil0 _ _ _), Lib.hid trivial, Lib.hid rfl, by rw [hS]; exact HR2, HB2⟩
  case round =>
    clear HR1 HB1 HR2 HB2 HF
    obtain ⟨M, N, Vs, HL, HV, HA, HT, HR, HW⟩ := hrel
    obtain ⟨A7, n7, c7, rfl, hn7⟩ : ∃ A n c, u7 = .slice A n c ∧ n = Vs.length := by obtain ⟨A, c, h⟩ := own_slice1 HV.out; exact ⟨A, _, c, h, rfl⟩
    have HLN := Lib.hid (show Vs.length = M.length from (HA.out.len).symm)
    cases N with
    | nil =>
      rw [show toB (frsB []) = ⟨#[]⟩ from rfl] at HR
      go_wp2_with (first
        | (go_at_call 43; refine (next_nil HR.out).mono ?_; unfold fr; rintro e w3 ⟨rfl, hr, hc⟩; have HR3 := Lib.hid (hr.below ((Below.refl w3.heap.size w3).alloc (Nat.le_refl _) (.cells #[.int .i64 0, .int .i64 0, .string ⟨#[]⟩] 128))); have hv := HV.out.rd HR.out hc; have hw := HW.out.trans (hc.to_below HW.out.size (fun k hk => hk ▸ HG.out)); have HV3 := Lib.hid (hv.below ((Below.refl w3.heap.size w3).alloc (Nat.le_refl _) (.cells #[.int .i64 0, .int .i64 0, .string ⟨#[]⟩] 128))); have HW3 := Lib.hid (hw.alloc hw.size (.cells #[.int .i64 0, .int .i64 0, .string ⟨#[]⟩] 128)); clear hr hc hv hw)
        | (go_at_call 49; refine (waits_rd HR3.out).mono ?_; rintro e w7 ⟨rfl, hr, hc⟩; have HV7 := Lib.hid (HV3.out.rd HR3.out hc); have HW7 := Lib.hid (HW3.out.trans (hc.to_below HW3.out.size (fun k hk => hk ▸ HG.out))); clear hr hc))
      go_ret2
      subst hn7
      have e1 : L = M := by rw [HL.out, List.append_nil]
      exact ⟨Vs, _, _, rfl, HW7.out, HV7.out, by rw [e1]; exact HA.out⟩
    | cons x N =>
      cases gk with
      | zero => exact absurd HT.out (by rw [List.length_cons]; omega)
      | succ g1 =>
        have hx := HOK.out x (by rw [HL.out]; exact List.mem_append_right _ (List.mem_cons_self ..))
        have hpos : 0 < (toB (frsB (x :: N))).size := by rw [toB_size, frsB_cons, List.length_append]; have := x.bs_pos; omega
        have HNX := Lib.hid (next_calls HR.out hpos)
        have HPC := Lib.hid hx.2
        have hnf := nextF_fr most x.1 x.2.1 x.2.2 (frsB N) hx.1.1 hx.1.2.1 hx.1.2.2.1 hx.1.2.2.2.1
        have hmm : ¬ most < (((frB x.1 x.2.1 x.2.2).length : Nat) : Int) := hx.1.2.2.2.2
        rw [if_neg hmm] at hnf
        have HNM := Lib.hid (show M.length ≤ 100000 by have h1 := frsB_len L; have h2 := HSS.out; have h3 := congrArg List.length HL.out; rw [List.length_append] at h3; omega)
        rw [frsB_cons] at HNX
        unfold FR.bs NextP at HNX
        rw [hnf] at HNX
        have HXX := Lib.hid (show x = (x.1, x.2.1, x.2.2) from rfl)
        clear hnf hpos hx hmm
        have HRX := Lib.hid (fun V (h : R x V) => HA.out.snoc (x := x) h)
        unfold ParsesX at HPC
        simp only at HNX HPC
        generalize x.1 = k at HNX HPC
        generalize x.2.1 = f at HNX HPC
        generalize x.2.2 = B at HNX HPC
        unfold fr at HNX HPC
        go_upto_region 10 with (first
          | (go_at_call 43; refine (HNX.out).mono ?_; rintro e w3 ⟨rfl, hr, hc⟩; have HR3 := Lib.hid (hr.below ((Below.refl w3.heap.size w3).alloc (Nat.le_refl _) (.cells #[.int .i64 (k : Nat), .int .i64 (f : Nat), .string B] 128))); have hv := HV.out.rd HR.out hc; have hw := HW.out.trans (hc.to_below HW.out.size (fun k hk => hk ▸ HG.out)); have HV3 := Lib.hid (hv.below ((Below.refl w3.heap.size w3).alloc (Nat.le_refl _) (.cells #[.int .i64 (k : Nat), .int .i64 (f : Nat), .string B] 128))); have HW3 := Lib.hid (hw.alloc hw.size (.cells #[.int .i64 (k : Nat), .int .i64 (f : Nat), .string B] 128)); clear hr hc hv hw)
          | (go_at_call 50; (with_reducible refine (HPC.out _).mono ?_); rintro e w4 ⟨ty, u, hrv, rfl, hb⟩; have HR4 := Lib.hid (HR3.out.below hb); have HV4 := Lib.hid (HV3.out.below hb); have HW4 := Lib.hid (HW3.out.trans (hb.mono HW3.out.size)); have HRV := Lib.hid hrv; clear hb hrv))
        clear HR HV HW HR3 HV3 HW3 HNX HPC
        have HONE := Lib.hid (show (Value.iface ty u).oneCell' = true from rfl)
        have HLL := Lib.hid (show (Vs.length + 1) * 16 ≤ 140737488355328 by have h1 := HNM.out; have h2 := HLN.out; omega)
        subst hn7
        go_wp2_with ((with_reducible refine gate_builtin (b := .append) (xs := #[.tmp 42, .tmp 44]) rfl ?_); at_builtin; refine print_append (w0 := w) w.heap.size rfl (.tmp 42) (.tmp 44) 48 81 .nilIface 16 rfl Tryz.underlying48 info30 rfl (by decide) (.slice A7 Vs.length c7) Vs (.iface ty u) rfl rfl HONE.out HV4.out HW4.out HW4.out.size HLL.out ?_; intro v1 w5 ho hb hg _; have HV5 := Lib.hid ho; have HR5 := Lib.hid (HR4.out.to (Chg.of_grown (S := fun k => Value.ownBlock (.slice A7 Vs.length c7) = some k) hg (fun k hk => hk)) (fun hk => own_not HV4.out HR4.out g hk rfl)); have HW5 := Lib.hid hb; clear ho hb hg)
        go_roundg g1
        case measure => omega
        case rel => exact ⟨M ++ [x], N, Vs ++ [Value.iface ty u], Lib.hid (by rw [HL.out, List.append_assoc]; rfl), Lib.hid HV5.out, Lib.hid (HRX.out _ HRV.out), Lib.hid (by have := HT.out; rw [List.length_cons] at this; omega), HR5, HW5⟩
end Go.Proofs.YtbfgpkogginmjaaGreatDoor
end
