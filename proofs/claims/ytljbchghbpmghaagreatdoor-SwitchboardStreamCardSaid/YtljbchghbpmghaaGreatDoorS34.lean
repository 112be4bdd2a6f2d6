/- packet.All: the packets of a stream, each with its frame. -/
import Derived.Test.YtljbchghbpmghaaGreatDoorS33
import Derived.Test.YtljbchghbpmghaaGreatDoorNA
import Derived.Test.YtljbchghbpmghaaGreatDoorHG
namespace Go.Proofs.YtljbchghbpmghaaGreatDoor
open Go.RowKit Go.Lib Go.Proofs.YtljbchghbpmghaaGreatDoorW.PrintWords Go.Proofs.YtljbchghbpmghaaGreatDoor.PSwitchboardGreat
set_option linter.unusedVariables false
set_option linter.unusedSimpArgs false
/-- A packet V, the bytes of its frame, for good. -/
def PF (w : World) (p : Value × List UInt8) : Prop := (∃ t u, p.1 = .iface t u) ∧ (∃ (k f : Nat) (body : List UInt8), k < 16 ∧ f < 16 ∧ chk k f = 0 ∧ body.length ≤ 268435455 ∧ p.2 = frB k f (toB body)) ∧ ∀ S W, Oth w S → Chg S w W → Calls Tryz.prog 8 #[p.1] W (fun e w' => e = .returned (.string (toB p.2)) ∧ Below W.heap.size W w')
theorem PF.to {w w1 : World} {p : Value × List UInt8} {S : Nat → Prop} (h : PF w p) (hS : Oth w S) (hb : Chg S w w1) : PF w1 p := by
  obtain ⟨h0, h1, h5⟩ := h
  exact ⟨h0, h1, fun T W hT hW => by obtain ⟨R, hR, hc⟩ := oth_join hS hb hT hW; exact h5 R W hR hc⟩
theorem pf_of {w : World} {V : Value} {n : Nat} (hn : n ≤ 100000) (h : PkS w V n) : ∃ F, PF w (V, F) ∧ F.length ≤ 1 + (varU n).length + n := by
  obtain ⟨h0, k, f, body, h1, h2, h3, h4, h5⟩ := h
  refine ⟨frB k f (toB body), ⟨h0, ⟨k, f, body, h1, h2, h3, by omega, rfl⟩, h5⟩, ?_⟩
  rw [frB_size, toB_size]
  have := varU_mono h4
  omega
def PFs (w : World) (ps : List (Value × List UInt8)) : Prop := ∀ p ∈ ps, PF w p
theorem PFs.to {w w1 : World} {ps : List (Value × List UInt8)} {S : Nat → Prop} (h : PFs w ps) (hS : Oth w S) (hb : Chg S w w1) : PFs w1 ps := fun p hp => (h p hp).to hS hb
theorem PFs.below {w w1 : World} {ps : List (Value × List UInt8)} (h : PFs w ps) (hb : Below w.heap.size w w1) : PFs w1 ps := h.to (S := fun _ => False) (fun k hk => hk.elim) (Chg.of_below hb)
theorem PFs.rd {w w1 : World} {ps : List (Value × List UInt8)} {g : Nat} {most er : Int} {s : ByteArray} (h : PFs w ps) (hr : RD w g most s er) (hb : Chg (fun i => i = g) w w1) : PFs w1 ps := h.to (S := fun i => i = g) (fun k hk => ⟨_, 64, (show k = g from hk) ▸ hr, by decide⟩) hb
/-- The bytes of all. -/
def tot (ps : List (Value × List UInt8)) : List UInt8 := (ps.map (·.2)).flatten
theorem tot_snoc (ps : List (Value × List UInt8)) (p : Value × List UInt8) : tot (ps ++ [p]) = tot ps ++ p.2 := by
  unfold tot
  rw [List.map_append, List.flatten_append]
  simp
/-- A list of packets in memory. -/
def RO (w : World) (B : Nat) (v : Value) (ps : List (Value × List UInt8)) : Prop := w.ownsRow B 30 1 v (ps.map (·.1)).length (ps.map (·.1))
theorem RO.below {w w1 : World} {B : Nat} {v : Value} {ps : List (Value × List UInt8)} (h : RO w B v ps) (hb : Below w.heap.size w w1) : RO w1 B v ps := own_to h (fun k hk => hb.block k (own_lt h k hk))
theorem RO.rd {w w1 : World} {B : Nat} {v : Value} {ps : List (Value × List UInt8)} {g : Nat} {most er : Int} {s : ByteArray} (h : RO w B v ps) (hr : RD w g most s er) (hc : Chg (fun i => i = g) w w1) : RO w1 B v ps := own_to h (fun k hk => hc.block k (own_lt h k hk) (fun e => own_not h hr k hk e))
def AllP (w : World) (s : ByteArray) (e : Ending) (w' : World) : Prop := ∃ (ps : List (Value × List UInt8)) (v : Value) (er : Int), e = .returned (.tuple #[v, .int .i64 er]) ∧ Below w.heap.size w w' ∧ RO w' w.heap.size v ps ∧ PFs w' ps ∧ (tot ps).length ≤ s.size
set_option maxHeartbeats 4000000 in
set_option maxRecDepth 1000000 in
theorem all_calls {w : World} (s : ByteArray) (hs : s.size ≤ 100000) (most : Int) : Calls Tryz.prog 7 #[.string s, .int .i64 most] w (AllP w s) := by
  have HSS := Lib.hid hs
  have HF : Hid (∀ W g, RD W g most ⟨#[]⟩ 0 → Calls Tryz.prog 10 #[.pointer (some ⟨g, 0, none⟩), .string s] W (RPost W g (.tuple #[]) most s 0)) := Lib.hid (fun W g hR => by
    have h := feed_rd hR s (by show 0 + _ ≤ _; omega)
    rw [empty_app] at h
    exact h)
  clear hs
  go_enter Tryz.func7, Tryz.ntmps7
  go_wp2_with (first
    | (go_at_call 9; refine (new_rd most).mono ?_; rintro e w1 ⟨g, rfl, hr, hg, hb⟩; have HR1 := Lib.hid hr; have HG := Lib.hid hg; have HB1 := Lib.hid hb; clear hr hg hb)
    | (go_at_call 10; refine (HF.out _ _ HR1.out).mono ?_; rintro e w2 ⟨rfl, hr, hc⟩; have HR2 := Lib.hid hr; have HB2 := Lib.hid (HB1.out.trans (hc.to_below HB1.out.size (fun k hk => hk ▸ HG.out))); clear hr hc))
  go_loopg [7] s.size (fun gh v7 wx => ∃ (ps : List (Value × List UInt8)) (t : ByteArray), Hid (RO wx w.heap.size v7 ps) ∧ Hid (PFs wx ps) ∧ Hid ((tot ps).length + t.size ≤ s.size ∧ t.size ≤ gh ∧ ps.length + gh ≤ s.size) ∧ Hid (RD wx g most t 0) ∧ Hid (Below w.heap.size w wx))
  case atStart =>
    exact ⟨[], s, Lib.hid (own_nil0 _ _ _), Lib.hid (fun p hp => by cases hp), Lib.hid ⟨by show 0 + _ ≤ _; omega, Nat.le_refl _, by show 0 + _ ≤ _; omega⟩, HR2, HB2⟩
  case round =>
    clear HR1 HB1 HR2 HB2 HF
    obtain ⟨ps, t, HV, HP, HT, HR, HW⟩ := hrel
    obtain ⟨A7, n7, c7, rfl⟩ : ∃ A n c, u7 = .slice A n c := by obtain ⟨A, c, h⟩ := own_slice1 HV.out; exact ⟨A, _, c, h⟩
    by_cases h0 : t.size = 0
    · have ht : t = ⟨#[]⟩ := no_left g t h0
      subst ht
      clear h0
      go_wp2_with (first
        | (go_at_call 11; refine (next_nil HR.out).mono ?_; unfold fr; rintro e w3 ⟨rfl, hr, hc⟩; have HR3 := Lib.hid (hr.below ((Below.refl w3.heap.size w3).alloc (Nat.le_refl _) (.cells #[.int .i64 0, .int .i64 0, .string ⟨#[]⟩] 36))); have hv := HV.out.rd HR.out hc; have hp := HP.out.rd HR.out hc; have hw := HW.out.trans (hc.to_below HW.out.size (fun k hk => hk ▸ HG.out)); have HV3 := Lib.hid (hv.below ((Below.refl w3.heap.size w3).alloc (Nat.le_refl _) (.cells #[.int .i64 0, .int .i64 0, .string ⟨#[]⟩] 36))); have HP3 := Lib.hid (hp.below ((Below.refl w3.heap.size w3).alloc (Nat.le_refl _) (.cells #[.int .i64 0, .int .i64 0, .string ⟨#[]⟩] 36))); have HW3 := Lib.hid (hw.alloc hw.size (.cells #[.int .i64 0, .int .i64 0, .string ⟨#[]⟩] 36)); clear hr hc hv hp hw)
        | (go_at_call 13; refine (waits_rd HR3.out).mono ?_; rintro e w7 ⟨rfl, hr, hc⟩; have HV7 := Lib.hid (HV3.out.rd HR3.out hc); have HP7 := Lib.hid (HP3.out.rd HR3.out hc); have HW7 := Lib.hid (HW3.out.trans (hc.to_below HW3.out.size (fun k hk => hk ▸ HG.out))); clear hr hc))
      go_ret2
      exact ⟨ps, _, 0, rfl, HW7.out, HV7.out, HP7.out, by have := HT.out; omega⟩
    · have hpos : 0 < t.size := Nat.pos_of_ne_zero h0
      cases gk with
      | zero => exact absurd HT.out.2.1 (by omega)
      | succ g1 =>
        have HNX := Lib.hid (next_calls HR.out hpos)
        have HTK := Lib.hid (fun h => nextF_take most t hpos h)
        unfold NextP at HNX
        clear h0 hpos
        generalize nextF most t = R at HNX HTK
        obtain ⟨⟨k, f, B, er⟩, t', er'⟩ := R
        simp only at HNX HTK
        unfold fr at HNX
        by_cases he : er = 0
        · obtain rfl := he
          obtain ⟨hk, hf, rfl, hsz⟩ := HTK.out rfl
          have HPC := Lib.hid (fun W => parse_calls (w := W) k f hk hf B (by have h1 := HT.out; have h2 := HSS.out; omega))
          have HSZ := Lib.hid hsz
          clear hk hf hsz HTK
          go_upto_region 10 with (first
            | (go_at_call 11; refine (HNX.out).mono ?_; rintro e w3 ⟨rfl, hr, hc⟩; have HR3 := Lib.hid (hr.below ((Below.refl w3.heap.size w3).alloc (Nat.le_refl _) (.cells #[.int .i64 (k : Nat), .int .i64 (f : Nat), .string B] 36))); have hv := HV.out.rd HR.out hc; have hp := HP.out.rd HR.out hc; have hw := HW.out.trans (hc.to_below HW.out.size (fun k hk => hk ▸ HG.out)); have HV3 := Lib.hid (hv.below ((Below.refl w3.heap.size w3).alloc (Nat.le_refl _) (.cells #[.int .i64 (k : Nat), .int .i64 (f : Nat), .string B] 36))); have HP3 := Lib.hid (hp.below ((Below.refl w3.heap.size w3).alloc (Nat.le_refl _) (.cells #[.int .i64 (k : Nat), .int .i64 (f : Nat), .string B] 36))); have HW3 := Lib.hid (hw.alloc hw.size (.cells #[.int .i64 (k : Nat), .int .i64 (f : Nat), .string B] 36)); clear hr hc hv hp hw)
            | (go_at_call 20; (with_reducible refine (HPC.out _).mono ?_); rintro e w4 ⟨V, ep, rfl, hb, hpk⟩; have HR4 := Lib.hid (HR3.out.below hb); have HV4 := Lib.hid (HV3.out.below hb); have HP4 := Lib.hid (HP3.out.below hb); have HW4 := Lib.hid (HW3.out.trans (hb.mono HW3.out.size)); have HPK := Lib.hid hpk; clear hb hpk))
          clear HR HV HP HW HR3 HV3 HP3 HW3 HNX HPC
          by_cases hep : ep = 0
          · obtain rfl := hep
            obtain ⟨F, hpf, hF⟩ := pf_of (by have h1 := HT.out; have h2 := HSS.out; have h3 := HSZ.out; omega) (HPK.out rfl)
            obtain ⟨ty, u, hvu⟩ := hpf.1
            have hvu : V = .iface ty u := hvu
            subst hvu
            have HPF := Lib.hid hpf
            have HFL := Lib.hid hF
            have HONE := Lib.hid (show (Value.iface ty u).oneCell' = true from rfl)
            clear hpf hF HPK
            have HLL := Lib.hid (show ((ps.map (·.1)).length + 1) * 16 ≤ 140737488355328 by rw [List.length_map]; have h1 := HT.out; have h2 := HSS.out; omega)
            go_wp2_with ((with_reducible refine gate_builtin (b := .append) (xs := #[.tmp 42, .tmp 44]) rfl ?_); at_builtin; refine print_append (w0 := w) w.heap.size rfl (.tmp 42) (.tmp 44) 25 30 .nilIface 16 rfl Tryz.underlying25 info30 rfl (by decide) (.slice A7 n7 c7) (List.map (fun p : Value × List UInt8 => p.1) ps) (.iface ty u) rfl rfl HONE.out HV4.out HW4.out HW4.out.size HLL.out ?_; intro v1 w5 ho hb hg _; have HV5 := Lib.hid ho; have HR5 := Lib.hid (HR4.out.to (Chg.of_grown (S := fun k => Value.ownBlock (.slice A7 n7 c7) = some k) hg (fun k hk => hk)) (fun hk => own_not HV4.out HR4.out g hk rfl)); have HP5 := Lib.hid (PFs.to (ps := ps ++ [(.iface ty u, F)]) (fun p hp => (List.mem_append.1 hp).elim (HP4.out p) (fun h => by obtain rfl := List.mem_singleton.1 h; exact HPF.out)) (S := fun k => Value.ownBlock (.slice A7 n7 c7) = some k) (fun k hk => by obtain ⟨cs, hcs⟩ := own_typed HV4.out k hk; exact ⟨cs, 30, hcs, by decide⟩) (Chg.of_grown (S := fun k => Value.ownBlock (.slice A7 n7 c7) = some k) hg (fun k hk => hk))); have HW5 := Lib.hid hb; clear ho hb hg)
            go_roundg g1
            case measure => omega
            case rel => exact ⟨ps ++ [(.iface ty u, F)], t', Lib.hid (show World.ownsRow _ _ _ _ _ _ _ by rw [List.map_append]; exact HV5.out), HP5, Lib.hid (by rw [tot_snoc, List.length_append, List.length_append]; have h1 := HT.out; have h2 := HSZ.out; have h3 := HFL.out; show _ ∧ _ ∧ ps.length + 1 + g1 ≤ s.size; dsimp only at h3 ⊢; omega), HR5, HW5⟩
          · have hq : (ep != 0) = true := by simpa [bne_iff_ne] using hep
            go_wp2
            go_ret2
            exact ⟨ps, _, ep, rfl, HW4.out, HV4.out, HP4.out, by have := HT.out; omega⟩
        · have hq : (er != 0) = true := by simpa [bne_iff_ne] using he
          clear he HTK
          by_cases h1 : er = 1
          · obtain rfl := h1
            have hps : ∀ n : Nat, ((n : Int) == 0) = true ∨ ((n : Int) == 0) = false := fun n => (Bool.eq_false_or_eq_true _)
            rcases hps t'.size with hz | hz
            · go_wp2_with (first
                | (go_at_call 11; refine (HNX.out).mono ?_; rintro e w3 ⟨rfl, hr, hc⟩; have HR3 := Lib.hid (hr.below ((Below.refl w3.heap.size w3).alloc (Nat.le_refl _) (.cells #[.int .i64 (k : Nat), .int .i64 (f : Nat), .string B] 36))); have hv := HV.out.rd HR.out hc; have hp := HP.out.rd HR.out hc; have hw := HW.out.trans (hc.to_below HW.out.size (fun k hk => hk ▸ HG.out)); have HV3 := Lib.hid (hv.below ((Below.refl w3.heap.size w3).alloc (Nat.le_refl _) (.cells #[.int .i64 (k : Nat), .int .i64 (f : Nat), .string B] 36))); have HP3 := Lib.hid (hp.below ((Below.refl w3.heap.size w3).alloc (Nat.le_refl _) (.cells #[.int .i64 (k : Nat), .int .i64 (f : Nat), .string B] 36))); have HW3 := Lib.hid (hw.alloc hw.size (.cells #[.int .i64 (k : Nat), .int .i64 (f : Nat), .string B] 36)); clear hr hc hv hp hw)
                | (go_at_call 13; refine (waits_rd HR3.out).mono ?_; rintro e w7 ⟨rfl, hr, hc⟩; have HV7 := Lib.hid (HV3.out.rd HR3.out hc); have HP7 := Lib.hid (HP3.out.rd HR3.out hc); have HW7 := Lib.hid (HW3.out.trans (hc.to_below HW3.out.size (fun k hk => hk ▸ HG.out))); clear hr hc))
              go_ret2
              exact ⟨ps, _, 0, rfl, HW7.out, HV7.out, HP7.out, by have := HT.out; omega⟩
            · go_wp2_with (first
                | (go_at_call 11; refine (HNX.out).mono ?_; rintro e w3 ⟨rfl, hr, hc⟩; have HR3 := Lib.hid (hr.below ((Below.refl w3.heap.size w3).alloc (Nat.le_refl _) (.cells #[.int .i64 (k : Nat), .int .i64 (f : Nat), .string B] 36))); have hv := HV.out.rd HR.out hc; have hp := HP.out.rd HR.out hc; have hw := HW.out.trans (hc.to_below HW.out.size (fun k hk => hk ▸ HG.out)); have HV3 := Lib.hid (hv.below ((Below.refl w3.heap.size w3).alloc (Nat.le_refl _) (.cells #[.int .i64 (k : Nat), .int .i64 (f : Nat), .string B] 36))); have HP3 := Lib.hid (hp.below ((Below.refl w3.heap.size w3).alloc (Nat.le_refl _) (.cells #[.int .i64 (k : Nat), .int .i64 (f : Nat), .string B] 36))); have HW3 := Lib.hid (hw.alloc hw.size (.cells #[.int .i64 (k : Nat), .int .i64 (f : Nat), .string B] 36)); clear hr hc hv hp hw)
                | (go_at_call 13; refine (waits_rd HR3.out).mono ?_; rintro e w7 ⟨rfl, hr, hc⟩; have HV7 := Lib.hid (HV3.out.rd HR3.out hc); have HP7 := Lib.hid (HP3.out.rd HR3.out hc); have HW7 := Lib.hid (HW3.out.trans (hc.to_below HW3.out.size (fun k hk => hk ▸ HG.out))); clear hr hc))
              go_ret2
              exact ⟨ps, _, 1, rfl, HW7.out, HV7.out, HP7.out, by have := HT.out; omega⟩
          · have hq1 : (er == 1) = false := beq_eq_false_iff_ne.2 h1
            clear h1
            go_wp2_with (first
              | (go_at_call 11; refine (HNX.out).mono ?_; rintro e w3 ⟨rfl, hr, hc⟩; have HR3 := Lib.hid (hr.below ((Below.refl w3.heap.size w3).alloc (Nat.le_refl _) (.cells #[.int .i64 (k : Nat), .int .i64 (f : Nat), .string B] 36))); have hv := HV.out.rd HR.out hc; have hp := HP.out.rd HR.out hc; have hw := HW.out.trans (hc.to_below HW.out.size (fun k hk => hk ▸ HG.out)); have HV3 := Lib.hid (hv.below ((Below.refl w3.heap.size w3).alloc (Nat.le_refl _) (.cells #[.int .i64 (k : Nat), .int .i64 (f : Nat), .string B] 36))); have HP3 := Lib.hid (hp.below ((Below.refl w3.heap.size w3).alloc (Nat.le_refl _) (.cells #[.int .i64 (k : Nat), .int .i64 (f : Nat), .string B] 36))); have HW3 := Lib.hid (hw.alloc hw.size (.cells #[.int .i64 (k : Nat), .int .i64 (f : Nat), .string B] 36)); clear hr hc hv hp hw))
            go_ret2
            exact ⟨ps, _, er, rfl, HW3.out, HV3.out, HP3.out, by have := HT.out; omega⟩
end Go.Proofs.YtljbchghbpmghaaGreatDoor
