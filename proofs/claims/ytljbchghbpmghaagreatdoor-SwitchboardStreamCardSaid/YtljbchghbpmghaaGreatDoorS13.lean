/- subscribe.begin. -/
import Derived.Test.YtljbchghbpmghaaGreatDoorS12
namespace Go.Proofs.YtljbchghbpmghaaGreatDoor
open Go.RowKit Go.Lib Go.Proofs.YtljbchghbpmghaaGreatDoorW.PrintWords Go.Proofs.YtljbchghbpmghaaGreatDoor.PSwitchboardGreat
set_option linter.unusedVariables false
set_option linter.unusedSimpArgs false
def BegP (w : World) (s : ByteArray) (e : Ending) (w' : World) : Prop := ∃ (g id : Nat) (v : Value) (L : List PR) (s' : ByteArray) (er' : Int), e = .returned (.tuple #[.pointer (some ⟨g, 0, none⟩), .int .u32 (id : Nat), v]) ∧ id < 65536 ∧ w.heap.size ≤ g ∧ IN w' g s' er' ∧ Below w.heap.size w w' ∧ PO w' 0 (fun _ => True) v L ∧ LOk L ∧ Eat s 0 s' er' (2 + (putB L).length)
set_option maxHeartbeats 4000000 in
set_option maxRecDepth 1000000 in
theorem begin_calls {w : World} (s : ByteArray) (kd : Int) (hs : s.size ≤ 100000) : Calls Tryz.prog 70 #[.string s, .int .i64 kd] w (BegP w s) := by
  have HSS := Lib.hid hs
  clear hs
  go_enter Tryz.func70, Tryz.ntmps70
  go_upto_region 3 with (first
    | (go_at_call 23; refine (over_in s).mono ?_; rintro e w1 ⟨g, rfl, hi, hg, hb⟩; have HG := Lib.hid hg; have HW1 := Lib.hid hb; have HI1 := Lib.hid hi; clear hi hg hb)
    | (go_at_call 50; refine (nt_two HI1.out).mono ?_; rintro e w2 hp; obtain ⟨id, s2, e2, rfl, hid, hi, hc, hE⟩ := hp; have HID := Lib.hid hid; have HE2 := Lib.hid hE; have HW2 := Lib.hid (HW1.out.trans (hc.to_below HW1.out.size (fun k hk => hk ▸ HG.out))); have HI2 := Lib.hid hi; clear hi hc hE HI1 hid))
  clear HW1
  go_cut [20] (fun v20 wx => ∃ b : Bool, v20 = .bool b ∧ w2 = wx)
  case first =>
    go_wp2_with (first
      | (go_at_call 25; refine (err_same HI2.out).mono ?_; rintro e w29 ⟨rfl, rfl⟩))
    all_goals go_meet
    all_goals exact ⟨_, rfl, rfl⟩
  case rest =>
    obtain ⟨b, rfl, rfl⟩ := hcut
    go_upto_if 20 with (fail)
    go_cut [] (fun wx => ∃ e3 : Int, Hid (e3 = 0 → e2 = 0) ∧ Hid (IN wx g s2 e3) ∧ Hid (Below w.heap.size w wx))
    case first =>
      cases b with
      | false =>
        go_wp2
        go_meet
        exact ⟨e2, Lib.hid (fun h => h), HI2, HW2⟩
      | true =>
        go_wp2_with (first | (go_at_call 43; (with_reducible refine (fail_any HI2.out 3 (by decide)).mono ?_); rintro e w6 hp; obtain ⟨ef, rfl, hef, hi, hc⟩ := hp; have HEF := Lib.hid hef; have HI6 := Lib.hid hi; have HW6 := Lib.hid (HW2.out.trans (hc.to_below HW2.out.size (fun k hk => hk ▸ HG.out))); clear hef hi hc))
        go_meet
        exact ⟨ef, Lib.hid (fun h => absurd h HEF.out), HI6, HW6⟩
    case rest =>
      clear HI2 HW2
      obtain ⟨e3, HQ3, HI3, HW3⟩ := hcut
      have HE3 := Lib.hid (HE2.out.err HQ3.out)
      have HTK := Lib.hid (take0_calls HI3.out (show e3 = 0 → s2.size ≤ 100000 from fun h => by have h1 := (HE3.out h).2; have h2 := HSS.out; omega) kd false)
      go_upto_region 6 with (first
        | (go_at_call 51; (with_reducible refine HTK.out.mono ?_); rintro e w4 hp; obtain ⟨v, L, s4, e4, rfl, hpo, hok, hi, hc, hE⟩ := hp; have HI4 := Lib.hid hi; have HW4 := Lib.hid (HW3.out.trans (hc.to_below HW3.out.size (fun k hk => hk ▸ HG.out))); have HE4 := Lib.hid (HE3.out.trans hE); have HOK := Lib.hid hok; have HO4 := Lib.hid hpo; clear hpo hok hE hi hc))
      clear HI3 HW3 HTK
      go_cut [33] (fun v33 wx => ∃ b : Bool, v33 = .bool b ∧ w4 = wx)
      case first =>
        go_wp2_with (first
          | (go_at_call 25; refine (err_same HI4.out).mono ?_; rintro e w49 ⟨rfl, rfl⟩)
          | (go_at_call 27; refine (left_same HI4.out).mono ?_; rintro e w48 ⟨rfl, rfl⟩))
        all_goals go_meet
        all_goals exact ⟨_, rfl, rfl⟩
      case rest =>
        obtain ⟨b, rfl, rfl⟩ := hcut
        go_upto_if 33 with (fail)
        go_cut [] (fun wx => ∃ e5 : Int, Hid (e5 = 0 → e4 = 0) ∧ Hid (IN wx g s4 e5) ∧ Hid (Below w.heap.size w wx) ∧ Hid (PO wx 0 (fun _ => True) v L))
        case first =>
          cases b with
          | false =>
            go_wp2
            go_meet
            exact ⟨e4, Lib.hid (fun h => h), HI4, HW4, HO4⟩
          | true =>
            go_wp2_with (first | (go_at_call 43; (with_reducible refine (fail_any HI4.out 3 (by decide)).mono ?_); rintro e w6 hp; obtain ⟨ef, rfl, hef, hi, hc⟩ := hp; have HEF := Lib.hid hef; have HI6 := Lib.hid hi; have HO6 := Lib.hid (HO4.out.rd HI4.out hc); have HW6 := Lib.hid (HW4.out.trans (hc.to_below HW4.out.size (fun k hk => hk ▸ HG.out))); clear hef hi hc))
            go_meet
            exact ⟨ef, Lib.hid (fun h => absurd h HEF.out), HI6, HW6, HO6⟩
        case rest =>
          clear HI4 HW4 HO4
          obtain ⟨e5, HQ5, HI5, HW5, HO5⟩ := hcut
          have HE5 := Lib.hid (HE4.out.err HQ5.out)
          go_wp2
          exact bodyPost_ret (v := .tuple #[.pointer (some ⟨g, 0, none⟩), .int .u32 (id : Nat), v]) (by simp [results, Tryz.results70, go_sem]) rfl ⟨g, id, v, L, s4, e5, rfl, HID.out, HG.out, HI5.out, HW5.out, HO5.out, HOK.out, HE5.out⟩
end Go.Proofs.YtljbchghbpmghaaGreatDoor
