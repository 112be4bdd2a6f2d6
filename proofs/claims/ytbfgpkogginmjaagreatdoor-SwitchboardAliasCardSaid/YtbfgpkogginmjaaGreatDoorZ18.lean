/- Parts of a proof about aliases: T2. -/
import Derived.Test.YtbfgpkogginmjaaGreatDoorZ14
import Derived.Test.YtbfgpkogginmjaaGreatDoorZ17
section
namespace Go.Proofs.YtbfgpkogginmjaaGreatDoor
open Go.RowKit Go.Lib Go.Proofs.YtbfgpkogginmjaaGreatDoorW.PrintWords Go.Proofs.YtbfgpkogginmjaaGreatDoor.PSwitchboardGreat
set_option linter.unusedVariables false
set_option linter.unusedSimpArgs false
set_option maxRecDepth 1000000
def Ist (v : Value) (W : World) (e : Ending) (w' : World) : Prop := e = .returned v ∧ w' = W
theorem levels_one (s : ByteArray) (h : 47 ∉ s.data.toList) : levelsOf s = [s] := by
  unfold levelsOf levelsL
  rw [splitP_miss _ _ h]
  simp [toB_list]
theorem levels1_calls (s : ByteArray) (w : World) (hm : HasM w) (h : 47 ∉ s.data.toList) (hz : s.size ≤ 1000) : Calls Tryz.prog 34 #[.string s] w (Ist (.slice (some ⟨w.heap.size, 0, none⟩) 1 1) (w.alloc (.cells #[.string s] 9))) := by
  obtain ⟨m, hm⟩ := hm
  have hc : Lib.countB s ⟨#[47]⟩ + 1 = 1 := by rw [split_count, levels_one s h]; rfl
  have hs2 : ((Lib.splitB ⟨#[47]⟩ 0 (Lib.countB s ⟨#[47]⟩) s).map Value.string).toArray = #[.string s] := by rw [split_levels, levels_one s h]; rfl
  have H := Tryz.strings_Split s ⟨#[47]⟩ m w (by omega) hm (by decide)
  rw [hc, hs2] at H
  have H := Lib.hid H
  clear hm hc hs2
  go_enter Tryz.func34, Tryz.ntmps34
  go_wp2_with (go_at_call 55; refine H.out.mono ?_; rintro e w1 ⟨rfl, rfl⟩)
  go_ret
  exact ⟨rfl, rfl⟩
set_option maxHeartbeats 2000000 in
theorem filter_hash {w : World} (hm : HasM w) : Calls Tryz.prog 199 #[.string ⟨#[35]⟩] w (fun e w' => e = .returned (.bool true) ∧ Below w.heap.size w w') := by
  have HT := Lib.hid (fun W => text1_calls ⟨#[35]⟩ W (by decide) (by decide) (fun x hx => by have hx : x ∈ [35] := hx; have : x = 35 := (by simpa using hx); subst this; decide) (by decide))
  have HL := Lib.hid (fun W hm => levels1_calls ⟨#[35]⟩ W hm (by decide) (by decide))
  have HM := Lib.hid hm
  clear hm
  go_enter Tryz.func199, Tryz.ntmps199
  go_upto_region 5 with (first
    | (go_at_call 141; (with_reducible refine (HT.out _).mono ?_); rintro e w1 ⟨rfl, hb⟩; have HB1 := Lib.hid hb; have HM1 := Lib.hid (HM.out.to hb); clear hb)
    | (go_at_call 34; (with_reducible refine (HL.out _ HM1.out).mono ?_); rintro e w2 ⟨rfl, rfl⟩; have hc := cell1 (show (w1.alloc (.cells #[.string ⟨#[35]⟩] 9)).heap[w1.heap.size]? = some (.cells #[.string ⟨#[35]⟩] 9 (0, 0)) from heap_alloc_new w1 _); have HB2 := Lib.hid (HB1.out.alloc HB1.out.size (.cells #[.string ⟨#[35]⟩] 9))))
  refine wp_loop_rounds 2 ?_
  rw [rounds_succ]
  go_wp2
  rw [rounds_succ]
  go_wp2
  go_ret
  exact ⟨rfl, HB2.out⟩
set_option maxHeartbeats 2000000 in
theorem split_hash {w : World} (hm : HasM w) : Calls Tryz.prog 156 #[.string ⟨#[35]⟩] w (fun e w' => e = .returned (.tuple #[.string ⟨#[]⟩, .string ⟨#[35]⟩, .bool true]) ∧ Below w.heap.size w w') := by
  have HF := Lib.hid (filter_hash hm)
  clear hm
  go_enter Tryz.func156, Tryz.ntmps156
  go_wp2_with (first
    | (go_at_call 199; (with_reducible refine (HF.out).mono ?_); rintro e w1 ⟨rfl, hb⟩; have HB1 := Lib.hid hb; clear hb)
    | go_in)
  exact bodyPost_ret (v := .tuple #[.string ⟨#[]⟩, .string ⟨#[35]⟩, .bool true]) (by simp [results, Tryz.results156, go_sem]) rfl ⟨rfl, HB1.out⟩
end Go.Proofs.YtbfgpkogginmjaaGreatDoor
end
