/- Picks beside a row of members of the call's own ('ST'): New, Push, Choose; and 'awake' answers true. -/
import Derived.Test.YtbcpodbihldfgaaD
import Derived.Outline
namespace Go.Proofs.Ytbcpodbihldfgaa
open Go.RowKit Go.Maps Go.Proofs.YtbcpodbihldfgaaW.PrintWords Go.Proofs.Ytbcpodbihldfgaa.PSharePlays
set_option linter.unusedVariables false

/-- Who is chosen. -/
def pickS (wait : List Int) (G : List UInt8 → Int) (s : List UInt8) (l : List S33) : ByteArray := (rd_T33 (thereL l) (chooseI (wait.headD (G s)) (thereL l).length)).f0

theorem thereL_pos (l : List S33) (h : 0 < l.length) : 0 < (thereL l).length := by
  unfold thereL
  split <;> omega

/-- A row of members: its own block is the one that it lies in. -/
theorem R_flat {w : World} {base : Nat} {ok : Nat → Prop} {v : Value} {xs : List S33} (h : Kd.R k33 33 w base ok v xs) : Kd.R k33 33 w base (fun k => v.ownBlock = some k) v xs := by
  obtain ⟨_, inner, ho, hr⟩ := h
  exact ⟨fun k hk => hk, inner, ho, hr.imp_ (fun _ _ hp => by obtain rfl := k33_openM hp; exact k33_mkM _ _ _ _)⟩

structure ST (w0 w : World) (g : Nat) (wait : List Int) (n : Nat) (G : List UInt8 → Int) (v : Value) (l : List S33) : Prop where
  row : Kd.R k33 33 w w0.heap.size (fun k => v.ownBlock = some k) v l
  pk : PK w w0.heap.size g (fun k => v.ownBlock ≠ some k) wait n G
  below : Below w0.heap.size w0 w

section
variable {w w0 w1 : World} {g n : Nat} {wait : List Int} {G : List UInt8 → Int} {l : List S33} {A : Option Addr} {c : Nat} {v : Value}

theorem ST.did {wait' : List Int} {n' : Nat} {G' : List UInt8 → Int} (h : ST w0 w g wait n G v l) (hp : PK w1 w0.heap.size g (fun k => v.ownBlock ≠ some k ∨ w.heap.size ≤ k) wait' n' G') (hd : Did w0 w w1 (fun k => v.ownBlock ≠ some k)) : ST w0 w1 g wait' n' G' v l :=
  ⟨Kd.R_kept h.row hd.kept (fun k hk hn => hn hk), hp.mono (fun k hk _ => hk.elim id (fun hle he => by have := Kd.R_lt h.row k he; omega)), hd.below⟩

theorem ST.choose (h : ST w0 w g wait n G (.slice A l.length c) l) (hn : n < 1000000) (hl : l.length ≤ 1000) (h0 : 0 < l.length) (s : ByteArray) (hs : s.size ≤ maxLen) :
    Calls Try.prog 12 #[.pointer (some ⟨g, 0, none⟩), .string s, .slice A l.length c] w fun e w' => e = .returned (.tuple #[.string (pickS wait G s.data.toList l), .bool true]) ∧ ST w0 w' g wait.tail (n + 1) (setG G s.data.toList (G s.data.toList + 1)) (.slice A l.length c) l := by
  refine (choose_some (l := l) h.below h.pk hn s hs (fun W hk => ?_) (Kd.R_reads' h.row).2.1 hl (thereL_pos l h0)).mono ?_
  · exact Kd.C_kept_own h.row (S := fun k => (Value.slice A l.length c).ownBlock ≠ some k ∧ k < w.heap.size) (fun k hk hn => hn.1 hk) W hk
  · rintro e w' ⟨rfl, hp, hd⟩
    exact ⟨rfl, h.did hp hd⟩

theorem ST.push (h : ST w0 w g wait n G v l) (hl : wait.length ≤ 64) (x : Int) :
    Calls Try.prog 11 #[.pointer (some ⟨g, 0, none⟩), .int .i64 x] w fun e w' => e = .returned (.int .i64 (if wait.length = 64 then 6 else 0)) ∧ ST w0 w' g (if wait.length = 64 then wait else wait ++ [x]) n G v l := by
  refine (push_calls h.below h.pk hl x).mono ?_
  rintro e w' ⟨rfl, hp, hd⟩
  exact ⟨rfl, h.did hp hd⟩

/-- A row, then Picks. -/
theorem ST.new (hr : Kd.R k33 33 w w0.heap.size (fun k => v.ownBlock = some k) v l) (hB : Below w0.heap.size w0 w) :
    Calls Try.prog 10 #[] w fun e w' => ∃ g, e = .returned (.pointer (some ⟨g, 0, none⟩)) ∧ ST w0 w' g [] 0 (fun _ => 0) v l := by
  refine (new_calls (w0 := w0) hB.size).mono ?_
  rintro e w' ⟨g, rfl, hp, hb⟩
  exact ⟨g, rfl, ⟨Kd.R_below hr hb, hp.mono (fun k hk _ he => by have := Kd.R_lt hr k he; omega), hB.trans (hb.mono hB.size)⟩⟩

/-- Picks, then a row that is new. -/
theorem ST.row_new {S : Nat → Prop} (hp : PK w w0.heap.size g S wait n G) (hg : w.grownBy w1 none) (hr : Kd.R k33 33 w1 w0.heap.size (fun _ => True) v l) (hv : ∀ k, v.ownBlock = some k → w.heap.size ≤ k) (hB : Below w0.heap.size w0 w1) : ST w0 w1 g wait n G v l :=
  ⟨R_flat hr, (hp.mono (S1 := fun k => k < w.heap.size) (fun _ _ h => h)).move (fun k hk _ => hg.block k hk (by simp)) (fun k hk _ he => by have := hv k he; omega), hB⟩

end

/-! ### awake -/
def L3 : List S33 := [⟨⟨#[97]⟩, true⟩, ⟨⟨#[98]⟩, true⟩, ⟨⟨#[99]⟩, true⟩]
def G1 : List UInt8 → Int := setG (fun _ => 0) [103] 1
def G2 : List UInt8 → Int := setG G1 [103] 2
def G3 : List UInt8 → Int := setG G2 [103] 3

theorem lit3 (w0 W : World) (hb : w0.heap.size ≤ W.heap.size) : Kd.R k33 33 (W.alloc (.cells #[.string ⟨#[97]⟩, .bool true, .string ⟨#[98]⟩, .bool true, .string ⟨#[99]⟩, .bool true] 33)) w0.heap.size (fun _ => True) (.slice (some ⟨W.heap.size, 0, none⟩) 3 3) L3 := by
  refine ⟨fun _ _ => trivial, [.string ⟨#[97]⟩, .bool true, .string ⟨#[98]⟩, .bool true, .string ⟨#[99]⟩, .bool true], ?_, rfl, fun j p hj => ?_⟩
  · exact World.ownsRow_lit (base := w0.heap.size) (e := 33) (size := 2) W #[.string ⟨#[97]⟩, .bool true, .string ⟨#[98]⟩, .bool true, .string ⟨#[99]⟩, .bool true] 3 hb (by decide) rfl
  · match j, hj with
    | 0, hj => cases hj; exact k33_mkM _ _ _ _
    | 1, hj => cases hj; exact k33_mkM _ _ _ _
    | 2, hj => cases hj; exact k33_mkM _ _ _ _
section
variable {w w0 : World} {g : Nat} {A : Option Addr} {c : Nat}
theorem ch1 (h : ST w0 w g [] 0 (fun _ => 0) (.slice A 3 c) L3) : Calls Try.prog 12 #[.pointer (some ⟨g, 0, none⟩), .string ⟨#[103]⟩, .slice A 3 c] w fun e w' => e = .returned (.tuple #[.string ⟨#[97]⟩, .bool true]) ∧ ST w0 w' g [] 1 G1 (.slice A 3 c) L3 :=
  (h.choose (l := L3) (by decide) (by decide) (by decide) ⟨#[103]⟩ (by decide)).mono fun e w' ⟨he, hs⟩ => ⟨he, hs⟩
theorem ch2 (h : ST w0 w g [] 1 G1 (.slice A 3 c) L3) : Calls Try.prog 12 #[.pointer (some ⟨g, 0, none⟩), .string ⟨#[103]⟩, .slice A 3 c] w fun e w' => e = .returned (.tuple #[.string ⟨#[98]⟩, .bool true]) ∧ ST w0 w' g [] 2 G2 (.slice A 3 c) L3 :=
  (h.choose (l := L3) (by decide) (by decide) (by decide) ⟨#[103]⟩ (by decide)).mono fun e w' ⟨he, hs⟩ => ⟨he, hs⟩
theorem pu1 (h : ST w0 w g [] 2 G2 (.slice A 3 c) L3) : Calls Try.prog 11 #[.pointer (some ⟨g, 0, none⟩), .int .i64 2] w fun e w' => e = .returned (.int .i64 0) ∧ ST w0 w' g [2] 2 G2 (.slice A 3 c) L3 :=
  (h.push (by decide) 2).mono fun e w' ⟨he, hs⟩ => ⟨he, hs⟩
theorem ch3 (h : ST w0 w g [2] 2 G2 (.slice A 3 c) L3) : Calls Try.prog 12 #[.pointer (some ⟨g, 0, none⟩), .string ⟨#[103]⟩, .slice A 3 c] w fun e w' => e = .returned (.tuple #[.string ⟨#[99]⟩, .bool true]) ∧ ST w0 w' g [] 3 G3 (.slice A 3 c) L3 :=
  (h.choose (l := L3) (by decide) (by decide) (by decide) ⟨#[103]⟩ (by decide)).mono fun e w' ⟨he, hs⟩ => ⟨he, hs⟩
theorem tu3 (h : ST w0 w g [] 3 G3 (.slice A 3 c) L3) : Calls Try.prog 13 #[.pointer (some ⟨g, 0, none⟩), .string ⟨#[103]⟩] w fun e w' => e = .returned (.int .i64 3) ∧ w = w' :=
  (turn_calls h.pk ⟨#[103]⟩ (by decide)).mono fun e w' ⟨he, hs⟩ => ⟨he, hs⟩
theorem le3 (h : ST w0 w g [] 3 G3 (.slice A 3 c) L3) : Calls Try.prog 14 #[.pointer (some ⟨g, 0, none⟩)] w fun e w' => e = .returned (.int .i64 0) ∧ w = w' :=
  (len_calls h.pk).mono fun e w' ⟨he, hs⟩ => ⟨he, hs⟩
end

theorem aw_st {w w1 : World} {g : Nat} {S : Nat → Prop} (hp : PK w1 w.heap.size g S [] 0 (fun _ => 0)) (hb : Below w.heap.size w w1) :
    ST w (w1.alloc (.cells #[.string ⟨#[97]⟩, .bool true, .string ⟨#[98]⟩, .bool true, .string ⟨#[99]⟩, .bool true] 33)) g [] 0 (fun _ => 0) (.slice (some ⟨w1.heap.size, 0, none⟩) 3 3) L3 :=
  ST.row_new hp (World.grownBy_alloc w1 _ none) (lit3 w w1 hb.size) (fun k hk => by
    have : w1.heap.size = k := by simpa [Value.ownBlock] using hk
    omega) (hb.alloc hb.size _)
theorem awake_calls (w : World) : Calls Try.prog 9 #[] w fun e w' => e = .returned (.bool true) ∧ Below w.heap.size w w' := by
  have hnew := Lib.hid (new_calls (w0 := w) (w := w) (Nat.le_refl _))
  go_enter Try.func9, Try.ntmps9
  go_wp2_with (first
    | (go_at_call 10; refine hnew.out.mono ?_; rintro e w1 ⟨g, rfl, hp, hb⟩; have hst := Lib.hid (aw_st hp hb); clear hp hb hnew)
    | (go_at_call 12; refine (ch1 hst.out).mono ?_; rintro e w2 ⟨rfl, hs⟩; have h2 := Lib.hid hs; clear hs hst)
    | (go_at_call 12; refine (ch2 h2.out).mono ?_; rintro e w3 ⟨rfl, hs⟩; have h3 := Lib.hid hs; clear hs h2)
    | (go_at_call 11; refine (pu1 h3.out).mono ?_; rintro e w4 ⟨rfl, hs⟩; have h4 := Lib.hid hs; clear hs h3)
    | (go_at_call 12; refine (ch3 h4.out).mono ?_; rintro e w5 ⟨rfl, hs⟩; have h5 := Lib.hid hs; clear hs h4)
    | (go_at_call 13; refine (tu3 h5.out).mono ?_; rintro e w6 ⟨rfl, rfl⟩)
    | (go_at_call 14; refine (le3 h5.out).mono ?_; rintro e w7 ⟨rfl, rfl⟩))
  go_ret
  exact ⟨rfl, h5.out.below⟩
end Go.Proofs.Ytbcpodbihldfgaa
