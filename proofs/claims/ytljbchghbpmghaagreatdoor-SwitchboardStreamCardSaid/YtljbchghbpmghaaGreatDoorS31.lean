/- Packets whose text is known for good, whatever becomes of blocks of other types. -/
import Derived.Test.YtljbchghbpmghaaGreatDoorS30
namespace Go.Proofs.YtljbchghbpmghaaGreatDoor
open Go.RowKit Go.Lib Go.Proofs.YtljbchghbpmghaaGreatDoorW.PrintWords Go.Proofs.YtljbchghbpmghaaGreatDoor.PSwitchboardGreat
set_option linter.unusedVariables false
set_option linter.unusedSimpArgs false
/-- Blocks of no list. -/
def Oth (w : World) (S : Nat → Prop) : Prop := ∀ k, S k → ∃ cs t, w.heap[k]? = some (.cells cs t (0, 0)) ∧ t ≠ 144 ∧ t ≠ 9 ∧ t ≠ 155
/-- A packet: its frame stands for good, though blocks of no list be written. -/
def PkS (w : World) (V : Value) (n : Nat) : Prop := (∃ t u, V = .iface t u) ∧ ∃ (k f : Nat) (body : List UInt8), k < 16 ∧ f < 16 ∧ chk k f = 0 ∧ body.length ≤ n ∧ ∀ S W, Oth w S → Chg S w W → Calls Tryz.prog 8 #[V] W (fun e w' => e = .returned (.string (toB (frB k f (toB body)))) ∧ Below W.heap.size W w')
theorem oth_join {w w1 W : World} {S T : Nat → Prop} (hS : Oth w S) (h : Chg S w w1) (hT : Oth w1 T) (h2 : Chg T w1 W) : ∃ R, Oth w R ∧ Chg R w W := by
  refine ⟨fun k => k < w.heap.size ∧ (S k ∨ T k), ?_, ?_⟩
  · rintro k ⟨hlt, hk⟩
    by_cases hs : S k
    · exact hS k hs
    · obtain ⟨cs, t, h3, h4⟩ := hT k (hk.resolve_left hs)
      exact ⟨cs, t, (h.block k hlt hs).symm.trans h3, h4⟩
  · have h3 : Chg (fun k => S k ∨ T k) w W := (Chg.mono h (fun k hk => .inl hk)).trans (Chg.mono h2 (fun k hk => .inr hk))
    exact ⟨h3.os, h3.tape, h3.output, h3.size, fun k hk hn => h3.block k hk (fun hq => hn ⟨hk, hq⟩)⟩
theorem PkS.to {w w1 : World} {V : Value} {n : Nat} {S : Nat → Prop} (h : PkS w V n) (hS : Oth w S) (hb : Chg S w w1) : PkS w1 V n := by
  obtain ⟨h0, k, f, body, h1, h2, h3, h4, h5⟩ := h
  exact ⟨h0, k, f, body, h1, h2, h3, h4, fun T W hT hW => by obtain ⟨R, hR, hc⟩ := oth_join hS hb hT hW; exact h5 R W hR hc⟩
theorem PkS.below {w w1 : World} {V : Value} {n : Nat} (h : PkS w V n) (hb : Below w.heap.size w w1) : PkS w1 V n := h.to (S := fun _ => False) (fun k hk => hk.elim) (Chg.of_below hb)
theorem PkS.one {w w1 : World} {V : Value} {n b : Nat} (h : PkS w V n) {cs : Array Value} {t : TypeId} (hb : w.heap[b]? = some (.cells cs t (0, 0))) (ht : t ≠ 144 ∧ t ≠ 9 ∧ t ≠ 155) (hc : Chg (fun k => k = b) w w1) : PkS w1 V n := h.to (S := fun k => k = b) (fun k hk => ⟨cs, t, (show k = b from hk) ▸ hb, ht⟩) hc
theorem po_s {w W : World} {S : Nat → Prop} (hS : Oth w S) {A : Option Addr} {c : Nat} {L : List PR} (h : PO w 0 (fun _ => True) (.slice A L.length c) L) (hc : Chg S w W) : PL W A L := (po_read (h.to hc (fun k hk => by obtain ⟨cs, t, h1, h2, _⟩ := hS k hk; exact .inr ⟨cs, t, h1, h2⟩))).1
theorem pks_connack {w : World} (d : CD) (A : Option Addr) (c : Nat) (hd : d.Ok) (hp : PO w 0 (fun _ => True) (.slice A d.L.length c) d.L) {n : Nat} (hn : d.body.length ≤ n) (hn2 : n ≤ 100000) : PkS w (.iface 95 (d.v A c)) n := by
  obtain ⟨hL, hc⟩ := po_read hp
  refine ⟨⟨_, _, rfl⟩, 2, 0, d.body, by decide, by decide, by decide, hn, fun S W hS hW0 => ?_⟩
  have hW := Below.refl W.heap.size W
  have hL := po_s hS hp hW0
  exact text_95 _ 2 0 _ (by decide) (by decide) (by rw [toB_size]; omega) (fun W1 hb => ckframe (Lib.hid (fun W2 hb2 => cktext_calls d A c hd hc (hL.to ((hW.trans (hb.mono hW.size)).trans (hb2.mono (Nat.le_trans hW.size hb.size)))))))
theorem pks_ping {w : World} (k : Nat) (hk : k = 12 ∨ k = 13) (n : Nat) : PkS w (.iface 105 (.agg #[.int .i64 (k : Nat)])) n := by
  refine ⟨⟨_, _, rfl⟩, k, 0, [], by omega, by decide, by rcases hk with rfl | rfl <;> decide, Nat.zero_le _, fun S W hS hW0 => ?_⟩
  have hW := Below.refl W.heap.size W
  exact text_105 _ k 0 _ (by omega) (by decide) (by rw [toB_size]; show 0 ≤ 500000; omega) (fun W1 hb => pingframe_calls)
theorem pks_ack {w : World} (d : AD) (A : Option Addr) (c : Nat) (hk : 4 ≤ d.k ∧ d.k ≤ 7) (hd : d.Ok) (hp : PO w 0 (fun _ => True) (.slice A d.L.length c) d.L) {n : Nat} (hn : d.body.length ≤ n) (hn2 : n ≤ 100000) : PkS w (.iface 103 (d.v A c)) n := by
  obtain ⟨hL, hc⟩ := po_read hp
  have hf : (if d.k = 6 then 2 else 0 : Nat) < 16 := by split <;> decide
  refine ⟨⟨_, _, rfl⟩, d.k, if d.k = 6 then 2 else 0, d.body, hd.k, hf, ?_, hn, fun S W hS hW0 => ?_⟩
  · rcases (show d.k = 4 ∨ d.k = 5 ∨ d.k = 6 ∨ d.k = 7 by omega) with h | h | h | h <;> rw [h] <;> decide
  have hW := Below.refl W.heap.size W
  have hL := po_s hS hp hW0
  exact text_103 _ d.k _ _ hd.k hf (by rw [toB_size]; omega) (fun W1 hb => ackframe_calls (Lib.hid (fun W2 hb2 => acktext_calls hd.id hd.c hd.L hc (hL.to ((hW.trans (hb.mono hW.size)).trans (hb2.mono (Nat.le_trans hW.size hb.size)))))))
theorem pks_bye {w : World} (d : BD) (A : Option Addr) (c : Nat) (hk : d.k = 14 ∨ d.k = 15) (hd : d.Ok) (hp : PO w 0 (fun _ => True) (.slice A d.L.length c) d.L) {n : Nat} (hn : d.body.length ≤ n) (hn2 : n ≤ 100000) : PkS w (.iface 107 (d.v A c)) n := by
  obtain ⟨hL, hc⟩ := po_read hp
  refine ⟨⟨_, _, rfl⟩, d.k, 0, d.body, hd.k, by decide, ?_, hn, fun S W hS hW0 => ?_⟩
  · rcases hk with h | h <;> rw [h] <;> decide
  have hW := Below.refl W.heap.size W
  have hL := po_s hS hp hW0
  exact text_107 _ d.k 0 _ hd.k (by decide) (by rw [toB_size]; omega) (fun W1 hb => byeframe_calls hd.c hd.L hc (hL.to (hW.trans (hb.mono hW.size))))
theorem pks_connect {w : World} (d : ND) (A : Option Addr) (c : Nat) (A' : Option Addr) (c' : Nat) (hd : d.Ok) (hp : PO w 0 (fun _ => True) (.slice A d.L.length c) d.L) (hp' : PO w 0 (fun _ => True) (.slice A' d.t.WL.length c') d.t.WL) {n : Nat} (hn : d.len ≤ n) (hn2 : n ≤ 100000) : PkS w (.iface 89 (.agg (d.cells A c A' c'))) n := by
  obtain ⟨hL, hc⟩ := po_read hp
  obtain ⟨hL', hc'⟩ := po_read hp'
  have hbl := d.body_len
  refine ⟨⟨_, _, rfl⟩, 1, 0, d.body, by decide, by decide, by decide, by omega, fun S W hS hW0 => ?_⟩
  have hW := Below.refl W.heap.size W
  have hL := po_s hS hp hW0
  have hL' := po_s hS hp' hW0
  exact text_89 _ 1 0 _ (by decide) (by decide) (by rw [toB_size]; omega) (fun W1 hb => coframe (Lib.hid (fun W2 hb2 => cotext_calls hd hc (hL.to ((hW.trans (hb.mono hW.size)).trans (hb2.mono (Nat.le_trans hW.size hb.size)))) hc' (hL'.to ((hW.trans (hb.mono hW.size)).trans (hb2.mono (Nat.le_trans hW.size hb.size)))))))
theorem pks_suback {w : World} (k id : Nat) (L : List PR) (s : ByteArray) (A : Option Addr) (c : Nat) (hk : k = 9 ∨ k = 11) (hid : id < 65536) (hlk : LOk L) (hs : s.size ≤ 100000) (hp : PO w 0 (fun _ => True) (.slice A L.length c) L) {n : Nat} (hn : 2 + (putB L).length + s.size ≤ n) (hn2 : n ≤ 100000) : PkS w (.iface 140 (.agg #[.int .i64 (k : Nat), .int .u32 (id : Nat), .slice A L.length c, .string s])) n := by
  obtain ⟨hL, hc⟩ := po_read hp
  have hlen : ((([] ++ be2 (id % 65536)) ++ putB L) ++ s.data.toList).length = 2 + (putB L).length + s.size := by
    rw [Lib.size_eq, List.length_append, List.length_append, List.nil_append, be2L]
  refine ⟨⟨_, _, rfl⟩, k, 0, (([] ++ be2 (id % 65536)) ++ putB L) ++ s.data.toList, by omega, by decide, by rcases hk with rfl | rfl <;> decide, by omega, fun S W hS hW0 => ?_⟩
  have hW := Below.refl W.heap.size W
  have hL := po_s hS hp hW0
  exact text_140 _ k 0 _ (by omega) (by decide) (by rw [toB_size]; omega) (fun W1 hb => subackframe_calls (Lib.hid (fun W2 hb2 => subacktext_calls (by omega) hlk hc (hL.to ((hW.trans (hb.mono hW.size)).trans (hb2.mono (Nat.le_trans hW.size hb.size)))) hs)))
theorem pks_unsub {w : World} (id : Nat) (L : List PR) (fs : List ByteArray) (A A2 : Option Addr) (c c2 : Nat) (hid : id < 65536) (hlk : LOk L) (hp : PO w 0 (fun _ => True) (.slice A L.length c) L) {B : Nat} (hF : FO w B (.slice A2 fs.length c2) fs) (hfs : ∀ s ∈ fs, s.size ≤ 65535) {n : Nat} (hn : 2 + (putB L).length + (datsB fs).length ≤ n) (hfn : fs.length ≤ n) (hn2 : n ≤ 100000) : PkS w (.iface 134 (.agg #[.int .u32 (id : Nat), .slice A L.length c, .slice A2 fs.length c2])) n := by
  obtain ⟨hL, hc⟩ := po_read hp
  have hlen : ((([] ++ be2 (id % 65536)) ++ putB L) ++ datsB fs).length = 2 + (putB L).length + (datsB fs).length := by
    rw [List.length_append, List.length_append, List.nil_append, be2L]
  refine ⟨⟨_, _, rfl⟩, 10, 2, (([] ++ be2 (id % 65536)) ++ putB L) ++ datsB fs, by decide, by decide, by decide, by omega, fun S W hS hW0 => ?_⟩
  have hW := Below.refl W.heap.size W
  have hL := po_s hS hp hW0
  have hF := fo_fl (ro_to str_E hF hW0 (fun k hk => by obtain ⟨cs, t, h1, h2, h3, h4⟩ := hS k hk; exact .inr ⟨cs, t, h1, h3⟩))
  refine text_134 _ 10 2 _ (by decide) (by decide) (by rw [toB_size]; omega) (fun W1 hb => unframe (Lib.hid (fun W2 hb2 => ?_)))
  have hall := (hW.trans (hb.mono hW.size)).trans (hb2.mono (Nat.le_trans hW.size hb.size))
  exact untext_calls (by omega) hlk hc (hL.to hall) (hF.to hall) hfs (by omega) (by omega)
theorem pks_sub {w : World} (id : Nat) (L : List PR) (fs : List SB) (A A2 : Option Addr) (c c2 : Nat) (hid : id < 65536) (hlk : LOk L) (hp : PO w 0 (fun _ => True) (.slice A L.length c) L) {B : Nat} (hF : SO w B (.slice A2 fs.length c2) fs) (hfs : ∀ x ∈ fs, x.Ok) {n : Nat} (hn : 2 + (putB L).length + (subsB fs).length ≤ n) (hfn : fs.length ≤ n) (hn2 : n ≤ 100000) : PkS w (.iface 128 (.agg #[.int .u32 (id : Nat), .slice A L.length c, .slice A2 fs.length c2])) n := by
  obtain ⟨hL, hc⟩ := po_read hp
  have hlen : ((([] ++ be2 (id % 65536)) ++ putB L) ++ subsB fs).length = 2 + (putB L).length + (subsB fs).length := by
    rw [List.length_append, List.length_append, List.nil_append, be2L]
  refine ⟨⟨_, _, rfl⟩, 8, 2, (([] ++ be2 (id % 65536)) ++ putB L) ++ subsB fs, by decide, by decide, by decide, by omega, fun S W hS hW0 => ?_⟩
  have hW := Below.refl W.heap.size W
  have hL := po_s hS hp hW0
  have hF := so_sl (ro_to k155_E hF hW0 (fun k hk => by obtain ⟨cs, t, h1, h2, h3, h4⟩ := hS k hk; exact .inr ⟨cs, t, h1, h4⟩))
  refine text_128 _ 8 2 _ (by decide) (by decide) (by rw [toB_size]; omega) (fun W1 hb => suframe (Lib.hid (fun W2 hb2 => ?_)))
  have hall := (hW.trans (hb.mono hW.size)).trans (hb2.mono (Nat.le_trans hW.size hb.size))
  exact sutext_calls (by omega) hlk hc (hL.to hall) (hF.to hall) hfs (by omega) (by omega)
theorem pks_pub {w : World} (d : PD) (A : Option Addr) (c : Nat) (hd : d.Ok) (hp : PO w 0 (fun _ => True) (.slice A d.L.length c) d.L) (hf : d.fl < 16) (hk : chk 3 d.fl = 0) {n : Nat} (hn : d.body.length ≤ n) (hn2 : n ≤ 100000) : PkS w (.iface 49 (d.v A c)) n := by
  obtain ⟨hL, hc⟩ := po_read hp
  refine ⟨⟨_, _, rfl⟩, 3, d.fl, d.body, by decide, hf, hk, hn, fun S W hS hW0 => ?_⟩
  have hW := Below.refl W.heap.size W
  have hL := po_s hS hp hW0
  exact text_pub _ 3 d.fl _ (by decide) hf (by rw [toB_size]; omega) (fun W1 hb => pubframe_calls d A c hd hc (hL.to (hW.trans (hb.mono hW.size))))
end Go.Proofs.YtljbchghbpmghaaGreatDoor
