/- Parts of a proof about aliases: G12. -/
import Derived.Test.YtbfgpkogginmjaaGreatDoorZ20
import Derived.Test.YtbfgpkogginmjaaGreatDoorZ31
import Derived.Test.YtbfgpkogginmjaaGreatDoorZ38
section
namespace Go.Proofs.YtbfgpkogginmjaaGreatDoor
open Go.RowKit Go.Lib Go.Proofs.YtbfgpkogginmjaaGreatDoorW.PrintWords Go.Proofs.YtbfgpkogginmjaaGreatDoor.PSwitchboardGreat
set_option linter.unusedSectionVars false
variable [LawBase]
set_option linter.unusedVariables false
set_option linter.unusedSimpArgs false
set_option maxRecDepth 1000000
set_option maxHeartbeats 1600000
def pubL (n : ByteArray) : List Value := [.bool false, .bool false, .int .u8 0, .int .u32 0, .slice none 0 0, .string n, .string ⟨#[]⟩]
def kPub : Kd ByteArray where
  sz := 7
  E := []
  K := fun _ n cs => cs = pubL n
  M := fun _ _ _ n cs => cs = pubL n
  K_len := fun h => by rw [h]; rfl
  K_one := fun h u hu => by
    rw [h] at hu
    simp only [pubL, List.mem_cons, List.not_mem_nil, or_false] at hu
    rcases hu with rfl | rfl | rfl | rfl | rfl | rfl | rfl <;> rfl
  K_below := fun _ h => h
  K_of_M := fun h => h
  M_mono := fun _ h => h
  M_bound := fun h => h
  M_move := fun _ h => h
  M_lower := fun _ h => h
theorem own_cellI {w : World} {base n c : Nat} {e : TypeId} {A : Option Addr} {xs : List Value} (h : w.ownsRow base e 1 (.slice A n c) n xs) (i : Nat) (hi : i < xs.length) : ∃ g, A = some ⟨g, 0, none⟩ ∧ w.cell? ⟨g, i, none⟩ = some xs[i] := by
  obtain ⟨hl, hq⟩ := h
  rcases hq with ⟨h1, h2⟩ | ⟨g, cap, cur, e1, e2, e3, e4, e5, e6, e7⟩
  · injection h1 with _ h3 _
    rw [h3] at hl
    omega
  · injection e1 with e1 _ _
    refine ⟨g, e1, (blk_cell e3 i).trans ?_⟩
    rw [← Array.getElem?_toList]
    have := congrArg (fun l : List Value => l[i]?) e7
    simp only [List.getElem?_take] at this
    rw [← List.getElem?_eq_getElem hi, ← this]
    split
    · rfl
    · omega
theorem info42 : (Tryz.prog.info? 42).map (fun i => (i.zero, i.size, i.bytes)) = some (some (.agg #[.bool false, .bool false, .int .u8 0, .int .u32 0, .slice none 0 0, .string ⟨#[]⟩, .string ⟨#[]⟩]), 7, 64) := by kernel_rfl
theorem own_empty (w : World) (e : TypeId) (size : Nat) : (w.alloc (.cells #[] e)).ownsRow w.heap.size e size (.slice (some ⟨w.heap.size, 0, none⟩) 0 0) 0 [] := by
  refine ⟨by simp, .inr ⟨w.heap.size, 0, #[], rfl, Nat.le_refl _, heap_alloc_new w _, ?_⟩⟩
  simp
theorem R_empty {α : Type} (d : Kd α) (w : World) (e : TypeId) : d.R e (w.alloc (.cells #[] e)) w.heap.size (fun _ => True) (.slice (some ⟨w.heap.size, 0, none⟩) 0 0) [] := ⟨fun _ _ => trivial, [], own_empty w e d.sz, Reps.none _ _⟩
theorem ta45 (u : Value) (w : World) : (Instr.typeAssert (.iface 45 u) 81 45 true).run Tryz.prog w = .ok (.tuple #[u, .bool true]) w := by kernel_rfl
theorem own_other {w : World} {B B2 n : Nat} {ok : Nat → Prop} {v v2 : Value} {ns : List ByteArray} {xs : List Value} (h : kPub.R 42 w B ok v ns) (h2 : w.ownsRow B2 81 1 v2 n xs) (k : Nat) (hk : v2.ownBlock = some k) : v.ownBlock ≠ some k := fun e => by
  obtain ⟨c1, h3⟩ := ro_row (d := kPub) rfl h k e
  obtain ⟨c2, h4⟩ := own_typed h2 k hk
  rw [h3] at h4
  injection h4 with h4
  injection h4 with _ h5
  exact absurd h5 (by decide)
def PubsP (w : World) (ns : List ByteArray) (e : Ending) (w' : World) : Prop := ∃ v, e = .returned v ∧ kPub.R 42 w' w.heap.size (fun _ => True) v ns ∧ Below w.heap.size w w'
theorem publishes_calls {w : World} {B n c : Nat} {A : Option Addr} {ns : List ByteArray} (H : RV w B (.slice A n c) (ns.map fun n => .iface 45 (pubV 0 n))) (hn : n = ns.length) (hz : ns.length ≤ 1000) : Calls Tryz.prog 10 #[.slice A n c] w (PubsP w ns) := by
  subst hn
  have HR := Lib.hid (show w.ownsRow B 81 1 (.slice A ns.length c) ns.length (ns.map fun n => .iface 45 (pubV 0 n)) from by
    have h := H
    unfold RV at h
    rw [List.length_map] at h
    exact h)
  have HZ := Lib.hid hz
  clear H hz
  go_enter Tryz.func10, Tryz.ntmps10
  go_upto_region 3 with (fail)
  have HO0 := Lib.hid (R_empty kPub w 42)
  have HB0 := Lib.hid (bel1 w (.cells #[] 42))
  have HR0 := Lib.hid (own_to HR.out (fun k hk => HB0.out.block k (own_lt HR.out k hk)))
  generalize w.alloc (.cells #[] 42) = W0 at HO0 HB0 HR0 ⊢
  generalize (.slice (some ⟨w.heap.size, 0, none⟩) 0 0 : Value) = v0 at HO0 ⊢
  go_loopg [3, 11] ns.length (fun gh v3 v11 wx => ∃ i : Nat, i + gh = ns.length ∧ v11 = .int .i64 (i : Nat) ∧ Hid (kPub.R 42 wx w.heap.size (fun _ => True) v3 (ns.take i)) ∧ Hid (Below w.heap.size w wx) ∧ Hid (wx.ownsRow B 81 1 (.slice A ns.length c) ns.length (ns.map fun n => .iface 45 (pubV 0 n))))
  case atStart =>
    exact ⟨0, Nat.zero_add _, rfl, HO0, HB0, HR0⟩
  case round =>
    clear HO0 HB0 HR0 HR
    obtain ⟨i, hig, rfl, HO, HB, HR⟩ := hrel
    cases gk with
    | zero =>
      obtain rfl : i = ns.length := by omega
      have hlt : ¬ (ns.length : Int) < (ns.length : Int) := by omega
      rw [List.take_length] at HO
      clear hig
      go_wp2
      go_ret
      exact ⟨_, rfl, HO.out, HB.out⟩
    | succ g1 =>
      have hlt2 : i < ns.length := by omega
      have hlt : (i : Int) < (ns.length : Int) := by omega
      have HJ := Lib.hid (show i + g1 + 1 = ns.length by omega)
      obtain ⟨g, rfl, hcell⟩ := own_cellI HR.out i (by rw [List.length_map]; exact hlt2)
      rw [List.getElem_map] at hcell
      have HTK := Lib.hid (show ns.take (i + 1) = ns.take i ++ [ns[i]] from List.take_succ_eq_append_getElem hlt2)
      generalize ns[i] = n at hcell HTK
      have hta := ta45 (pubV 0 n) wr
      unfold pubV pubC at hta hcell
      rw [show ((0 : Nat) : Int) = 0 from rfl] at hta hcell
      obtain ⟨y0, y1, y2, y3, y4, y5, y6⟩ := sevencell (heap_alloc_new wr (Obj.cells #[.bool false, .bool false, .int .u8 0, .int .u32 0, .slice none 0 0, .string n, .string ⟨#[]⟩] 45))
      have HO1 := Lib.hid (Kd.R_below HO.out (bel1 wr (Obj.cells #[.bool false, .bool false, .int .u8 0, .int .u32 0, .slice none 0 0, .string n, .string ⟨#[]⟩] 45)))
      have HB1 := Lib.hid (HB.out.alloc HB.out.size (Obj.cells #[.bool false, .bool false, .int .u8 0, .int .u32 0, .slice none 0 0, .string n, .string ⟨#[]⟩] 45))
      have HBS := Lib.hid HB1.out.size
      have HR1 := Lib.hid (own_to HR.out (fun k hk => (bel1 wr (Obj.cells #[.bool false, .bool false, .int .u8 0, .int .u32 0, .slice none 0 0, .string n, .string ⟨#[]⟩] 45)).block k (own_lt HR.out k hk)))
      have HLN := Lib.hid (show ((ns.take i).length + 1) * 64 ≤ 140737488355328 from by rw [List.length_take]; have := HZ.out; omega)
      clear hig HO HB HR
      go_upto_region 7 with (fail)
      generalize wr.alloc (Obj.cells #[.bool false, .bool false, .int .u8 0, .int .u32 0, .slice none 0 0, .string n, .string ⟨#[]⟩] 45) = W1 at HO1 HB1 HBS HR1 y0 y1 y2 y3 y4 y5 y6 ⊢
      generalize wr.heap.size = xb at y0 y1 y2 y3 y4 y5 y6 ⊢
      go_wp2_with ((with_reducible refine gate_builtin (b := .append) (xs := #[.tmp 21, .tmp 24]) rfl ?_); at_builtin; refine Kd.R_append kPub (w0 := _) w.heap.size rfl (.tmp 21) (.tmp 24) 46 42 (.agg #[.bool false, .bool false, .int .u8 0, .int .u32 0, .slice none 0 0, .string ⟨#[]⟩, .string ⟨#[]⟩]) 64 rfl Tryz.underlying46 info42 rfl (by decide) (by decide) _ (ns.take i) n (pubL n) (fun _ => True) (fun _ => False) rfl rfl rfl (fun _ h => h.elim) (fun _ _ => trivial) HO1.out (Below.refl _ _) HBS.out HLN.out ?_; intro v1 w9 hr hb hg hat; have HO9 := Lib.hid hr; have HB9 := Lib.hid (HB1.out.trans hb); have HR9 := Lib.hid (own_to HR1.out (fun k hk => hg.block k (own_lt HR1.out k hk) (fun e => own_other HO1.out HR1.out k hk e.symm))); clear hr hb hg hat)
      go_roundg g1
      case measure => omega
      case rel => exact ⟨i + 1, by have := HJ.out; omega, by rw [w64n i (by have := HJ.out; have := HZ.out; omega)], by rw [HTK.out]; exact HO9, HB9, HR9⟩
end Go.Proofs.YtbfgpkogginmjaaGreatDoor
end
