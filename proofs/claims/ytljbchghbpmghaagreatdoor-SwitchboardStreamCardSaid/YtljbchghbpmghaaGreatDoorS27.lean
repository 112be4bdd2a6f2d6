/- Packets whose text is known for good. Packets whose text is known for good: publish and the subscribe family. -/
import Derived.Test.YtljbchghbpmghaaGreatDoorS25
namespace Go.Proofs.YtljbchghbpmghaaGreatDoor
open Go.RowKit Go.Lib Go.Proofs.YtljbchghbpmghaaGreatDoorW.PrintWords Go.Proofs.YtljbchghbpmghaaGreatDoor.PSwitchboardGreat
set_option linter.unusedVariables false
set_option linter.unusedSimpArgs false
/-- A packet: its frame stands for good. -/
def Pk (w : World) (V : Value) (n : Nat) : Prop := ∃ (k f : Nat) (body : List UInt8), k < 16 ∧ f < 16 ∧ chk k f = 0 ∧ body.length ≤ n ∧ ∀ W, Below w.heap.size w W → Calls Tryz.prog 8 #[V] W (fun e w' => e = .returned (.string (toB (frB k f (toB body)))) ∧ Below W.heap.size W w')
theorem Pk.to {w w1 : World} {V : Value} {n : Nat} (h : Pk w V n) (hb : Below w.heap.size w w1) : Pk w1 V n := by
  obtain ⟨k, f, body, h1, h2, h3, h4, h5⟩ := h
  exact ⟨k, f, body, h1, h2, h3, h4, fun W hW => h5 W (hb.trans (hW.mono hb.size))⟩
theorem po_read {w : World} {A : Option Addr} {c : Nat} {L : List PR} (h : PO w 0 (fun _ => True) (.slice A L.length c) L) : PL w A L ∧ L.length ≤ c := PO.read h
theorem pk_connack {w : World} (d : CD) (A : Option Addr) (c : Nat) (hd : d.Ok) (hp : PO w 0 (fun _ => True) (.slice A d.L.length c) d.L) {n : Nat} (hn : d.body.length ≤ n) (hn2 : n ≤ 100000) : Pk w (.iface 95 (d.v A c)) n := by
  obtain ⟨hL, hc⟩ := po_read hp
  refine ⟨2, 0, d.body, by decide, by decide, by decide, hn, fun W hW => ?_⟩
  exact text_95 _ 2 0 _ (by decide) (by decide) (by rw [toB_size]; omega) (fun W1 hb => ckframe (Lib.hid (fun W2 hb2 => cktext_calls d A c hd hc (hL.to ((hW.trans (hb.mono hW.size)).trans (hb2.mono (Nat.le_trans hW.size hb.size)))))))
theorem pk_ping {w : World} (k : Nat) (hk : k = 12 ∨ k = 13) (n : Nat) : Pk w (.iface 105 (.agg #[.int .i64 (k : Nat)])) n := by
  refine ⟨k, 0, [], by omega, by decide, by rcases hk with rfl | rfl <;> decide, Nat.zero_le _, fun W hW => ?_⟩
  exact text_105 _ k 0 _ (by omega) (by decide) (by rw [toB_size]; show 0 ≤ 500000; omega) (fun W1 hb => pingframe_calls)
theorem pk_ack {w : World} (d : AD) (A : Option Addr) (c : Nat) (hk : 4 ≤ d.k ∧ d.k ≤ 7) (hd : d.Ok) (hp : PO w 0 (fun _ => True) (.slice A d.L.length c) d.L) {n : Nat} (hn : d.body.length ≤ n) (hn2 : n ≤ 100000) : Pk w (.iface 103 (d.v A c)) n := by
  obtain ⟨hL, hc⟩ := po_read hp
  have hf : (if d.k = 6 then 2 else 0 : Nat) < 16 := by split <;> decide
  refine ⟨d.k, if d.k = 6 then 2 else 0, d.body, hd.k, hf, ?_, hn, fun W hW => ?_⟩
  · rcases (show d.k = 4 ∨ d.k = 5 ∨ d.k = 6 ∨ d.k = 7 by omega) with h | h | h | h <;> rw [h] <;> decide
  exact text_103 _ d.k _ _ hd.k hf (by rw [toB_size]; omega) (fun W1 hb => ackframe_calls (Lib.hid (fun W2 hb2 => acktext_calls hd.id hd.c hd.L hc (hL.to ((hW.trans (hb.mono hW.size)).trans (hb2.mono (Nat.le_trans hW.size hb.size)))))))
theorem pk_bye {w : World} (d : BD) (A : Option Addr) (c : Nat) (hk : d.k = 14 ∨ d.k = 15) (hd : d.Ok) (hp : PO w 0 (fun _ => True) (.slice A d.L.length c) d.L) {n : Nat} (hn : d.body.length ≤ n) (hn2 : n ≤ 100000) : Pk w (.iface 107 (d.v A c)) n := by
  obtain ⟨hL, hc⟩ := po_read hp
  refine ⟨d.k, 0, d.body, hd.k, by decide, ?_, hn, fun W hW => ?_⟩
  · rcases hk with h | h <;> rw [h] <;> decide
  exact text_107 _ d.k 0 _ hd.k (by decide) (by rw [toB_size]; omega) (fun W1 hb => byeframe_calls hd.c hd.L hc (hL.to (hW.trans (hb.mono hW.size))))
theorem pk_connect {w : World} (d : ND) (A : Option Addr) (c : Nat) (A' : Option Addr) (c' : Nat) (hd : d.Ok) (hp : PO w 0 (fun _ => True) (.slice A d.L.length c) d.L) (hp' : PO w 0 (fun _ => True) (.slice A' d.t.WL.length c') d.t.WL) {n : Nat} (hn : d.len ≤ n) (hn2 : n ≤ 100000) : Pk w (.iface 89 (.agg (d.cells A c A' c'))) n := by
  obtain ⟨hL, hc⟩ := po_read hp
  obtain ⟨hL', hc'⟩ := po_read hp'
  have hbl := d.body_len
  refine ⟨1, 0, d.body, by decide, by decide, by decide, by omega, fun W hW => ?_⟩
  exact text_89 _ 1 0 _ (by decide) (by decide) (by rw [toB_size]; omega) (fun W1 hb => coframe (Lib.hid (fun W2 hb2 => cotext_calls hd hc (hL.to ((hW.trans (hb.mono hW.size)).trans (hb2.mono (Nat.le_trans hW.size hb.size)))) hc' (hL'.to ((hW.trans (hb.mono hW.size)).trans (hb2.mono (Nat.le_trans hW.size hb.size)))))))
theorem be2L (x : Nat) : (be2 x).length = 2 := rfl
theorem pk_suback {w : World} (k id : Nat) (L : List PR) (s : ByteArray) (A : Option Addr) (c : Nat) (hk : k = 9 ∨ k = 11) (hid : id < 65536) (hlk : LOk L) (hs : s.size ≤ 100000) (hp : PO w 0 (fun _ => True) (.slice A L.length c) L) {n : Nat} (hn : 2 + (putB L).length + s.size ≤ n) (hn2 : n ≤ 100000) : Pk w (.iface 140 (.agg #[.int .i64 (k : Nat), .int .u32 (id : Nat), .slice A L.length c, .string s])) n := by
  obtain ⟨hL, hc⟩ := po_read hp
  have hlen : ((([] ++ be2 (id % 65536)) ++ putB L) ++ s.data.toList).length = 2 + (putB L).length + s.size := by
    rw [Lib.size_eq, List.length_append, List.length_append, List.nil_append, be2L]
  refine ⟨k, 0, (([] ++ be2 (id % 65536)) ++ putB L) ++ s.data.toList, by omega, by decide, by rcases hk with rfl | rfl <;> decide, by omega, fun W hW => ?_⟩
  exact text_140 _ k 0 _ (by omega) (by decide) (by rw [toB_size]; omega) (fun W1 hb => subackframe_calls (Lib.hid (fun W2 hb2 => subacktext_calls (by omega) hlk hc (hL.to ((hW.trans (hb.mono hW.size)).trans (hb2.mono (Nat.le_trans hW.size hb.size)))) hs)))
theorem pk_unsub {w : World} (id : Nat) (L : List PR) (fs : List ByteArray) (A A2 : Option Addr) (c c2 : Nat) (hid : id < 65536) (hlk : LOk L) (hp : PO w 0 (fun _ => True) (.slice A L.length c) L) (hF : FL w A2 fs) (hfs : ∀ s ∈ fs, s.size ≤ 65535) {n : Nat} (hn : 2 + (putB L).length + (datsB fs).length ≤ n) (hfn : fs.length ≤ n) (hn2 : n ≤ 100000) : Pk w (.iface 134 (.agg #[.int .u32 (id : Nat), .slice A L.length c, .slice A2 fs.length c2])) n := by
  obtain ⟨hL, hc⟩ := po_read hp
  have hlen : ((([] ++ be2 (id % 65536)) ++ putB L) ++ datsB fs).length = 2 + (putB L).length + (datsB fs).length := by
    rw [List.length_append, List.length_append, List.nil_append, be2L]
  refine ⟨10, 2, (([] ++ be2 (id % 65536)) ++ putB L) ++ datsB fs, by decide, by decide, by decide, by omega, fun W hW => ?_⟩
  refine text_134 _ 10 2 _ (by decide) (by decide) (by rw [toB_size]; omega) (fun W1 hb => unframe (Lib.hid (fun W2 hb2 => ?_)))
  have hall := (hW.trans (hb.mono hW.size)).trans (hb2.mono (Nat.le_trans hW.size hb.size))
  exact untext_calls (by omega) hlk hc (hL.to hall) (hF.to hall) hfs (by omega) (by omega)
theorem pk_sub {w : World} (id : Nat) (L : List PR) (fs : List SB) (A A2 : Option Addr) (c c2 : Nat) (hid : id < 65536) (hlk : LOk L) (hp : PO w 0 (fun _ => True) (.slice A L.length c) L) (hF : SL w A2 fs) (hfs : ∀ x ∈ fs, x.Ok) {n : Nat} (hn : 2 + (putB L).length + (subsB fs).length ≤ n) (hfn : fs.length ≤ n) (hn2 : n ≤ 100000) : Pk w (.iface 128 (.agg #[.int .u32 (id : Nat), .slice A L.length c, .slice A2 fs.length c2])) n := by
  obtain ⟨hL, hc⟩ := po_read hp
  have hlen : ((([] ++ be2 (id % 65536)) ++ putB L) ++ subsB fs).length = 2 + (putB L).length + (subsB fs).length := by
    rw [List.length_append, List.length_append, List.nil_append, be2L]
  refine ⟨8, 2, (([] ++ be2 (id % 65536)) ++ putB L) ++ subsB fs, by decide, by decide, by decide, by omega, fun W hW => ?_⟩
  refine text_128 _ 8 2 _ (by decide) (by decide) (by rw [toB_size]; omega) (fun W1 hb => suframe (Lib.hid (fun W2 hb2 => ?_)))
  have hall := (hW.trans (hb.mono hW.size)).trans (hb2.mono (Nat.le_trans hW.size hb.size))
  exact sutext_calls (by omega) hlk hc (hL.to hall) (hF.to hall) hfs (by omega) (by omega)
theorem pk_pub {w : World} (d : PD) (A : Option Addr) (c : Nat) (hd : d.Ok) (hp : PO w 0 (fun _ => True) (.slice A d.L.length c) d.L) (hf : d.fl < 16) (hk : chk 3 d.fl = 0) {n : Nat} (hn : d.body.length ≤ n) (hn2 : n ≤ 100000) : Pk w (.iface 49 (d.v A c)) n := by
  obtain ⟨hL, hc⟩ := po_read hp
  refine ⟨3, d.fl, d.body, by decide, hf, hk, hn, fun W hW => ?_⟩
  exact text_pub _ 3 d.fl _ (by decide) hf (by rw [toB_size]; omega) (fun W1 hb => pubframe_calls d A c hd hc (hL.to (hW.trans (hb.mono hW.size))))
end Go.Proofs.YtljbchghbpmghaaGreatDoor
