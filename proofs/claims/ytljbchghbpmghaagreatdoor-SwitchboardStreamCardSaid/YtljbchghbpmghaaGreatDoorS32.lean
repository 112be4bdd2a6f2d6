/- packet.ask: a packet that asks for topics. -/
import Derived.Test.YtljbchghbpmghaaGreatDoorS31
namespace Go.Proofs.YtljbchghbpmghaaGreatDoor
open Go.RowKit Go.Lib Go.Proofs.YtljbchghbpmghaaGreatDoorW.PrintWords Go.Proofs.YtljbchghbpmghaaGreatDoor.PSwitchboardGreat
set_option linter.unusedVariables false
set_option linter.unusedSimpArgs false
def ParseP (w : World) (s : ByteArray) (e : Ending) (w' : World) : Prop := ∃ (V : Value) (er : Int), e = .returned (.tuple #[V, .int .i64 er]) ∧ Below w.heap.size w w' ∧ (er = 0 → PkS w' V s.size)
set_option maxHeartbeats 4000000 in
set_option maxRecDepth 1000000 in
theorem ask8 {w : World} (f : Nat) (s : ByteArray) (hs : s.size ≤ 100000) : Calls Tryz.prog 40 #[.agg #[.int .i64 8, .int .i64 (f : Nat), .string s]] w (ParseP w s) := by
  have HS := Lib.hid (fun W => subparse_calls (w := W) s hs)
  have HSS := Lib.hid hs
  have HB0 := Lib.hid ((Below.refl w.heap.size w).alloc (Nat.le_refl _) (.cells #[.int .i64 8, .int .i64 (f : Nat), .string s] 36))
  clear hs
  go_enter Tryz.func40, Tryz.ntmps40
  go_wp2_with (first | (go_at_call 56; (with_reducible refine (HS.out _).mono ?_); rintro e w1 ⟨id, L, fs, A, A2, c, c2, er, rfl, hb, hp⟩; have HB1 := Lib.hid (HB0.out.trans (hb.mono HB0.out.size)); have HP := Lib.hid hp; clear hb hp))
  go_ret2
  refine ⟨_, er, rfl, HB1.out.alloc HB1.out.size _, fun he => ?_⟩
  obtain ⟨hid, hlk, hpo, hso, hok, hn, hl⟩ := HP.out he
  exact (pks_sub id L fs A A2 c c2 hid hlk hpo hso hok hl hn HSS.out).below ((Below.refl _ _).alloc (Nat.le_refl _) _)
set_option maxHeartbeats 4000000 in
set_option maxRecDepth 1000000 in
theorem ask10 {w : World} (f : Nat) (s : ByteArray) (hs : s.size ≤ 100000) : Calls Tryz.prog 40 #[.agg #[.int .i64 10, .int .i64 (f : Nat), .string s]] w (ParseP w s) := by
  have HS := Lib.hid (fun W => unparse_calls (w := W) s hs)
  have HSS := Lib.hid hs
  have HB0 := Lib.hid ((Below.refl w.heap.size w).alloc (Nat.le_refl _) (.cells #[.int .i64 10, .int .i64 (f : Nat), .string s] 36))
  clear hs
  go_enter Tryz.func40, Tryz.ntmps40
  go_wp2_with (first | (go_at_call 57; (with_reducible refine (HS.out _).mono ?_); rintro e w1 ⟨id, L, fs, A, A2, c, c2, er, rfl, hb, hp⟩; have HB1 := Lib.hid (HB0.out.trans (hb.mono HB0.out.size)); have HP := Lib.hid hp; clear hb hp))
  go_ret2
  refine ⟨_, er, rfl, HB1.out.alloc HB1.out.size _, fun he => ?_⟩
  obtain ⟨hid, hlk, hpo, hso, hok, hn, hl⟩ := HP.out he
  exact (pks_unsub id L fs A A2 c c2 hid hlk hpo hso hok hl hn HSS.out).below ((Below.refl _ _).alloc (Nat.le_refl _) _)
set_option maxHeartbeats 4000000 in
set_option maxRecDepth 1000000 in
theorem ask_ack {w : World} (k : Nat) (hk : k = 9 ∨ k = 11) (f : Nat) (s : ByteArray) (hs : s.size ≤ 100000) : Calls Tryz.prog 40 #[.agg #[.int .i64 (k : Nat), .int .i64 (f : Nat), .string s]] w (ParseP w s) := by
  have HS := Lib.hid (fun W => sackparse_calls (w := W) k hk s hs)
  have HSS := Lib.hid hs
  have q8 : ((k : Int) == 8) = false := by simp; omega
  have q10 : ((k : Int) == 10) = false := by simp; omega
  have HK := Lib.hid hk
  clear hk
  have HB0 := Lib.hid ((Below.refl w.heap.size w).alloc (Nat.le_refl _) (.cells #[.int .i64 (k : Nat), .int .i64 (f : Nat), .string s] 36))
  clear hs
  go_enter Tryz.func40, Tryz.ntmps40
  go_wp2_with (first | (go_at_call 58; (with_reducible refine (HS.out _).mono ?_); rintro e w1 ⟨kk, id, L, b, A, c, er, rfl, hb, hp⟩; have HB1 := Lib.hid (HB0.out.trans (hb.mono HB0.out.size)); have HP := Lib.hid hp; clear hb hp))
  go_ret2
  refine ⟨_, er, rfl, HB1.out.alloc HB1.out.size _, fun he => ?_⟩
  obtain ⟨rfl, hid, hlk, hpo, hbs, hl⟩ := HP.out he
  exact (pks_suback kk id L b A c HK.out hid hlk hbs hpo hl HSS.out).below ((Below.refl _ _).alloc (Nat.le_refl _) _)
theorem ask_calls {w : World} (k : Nat) (hk : k = 8 ∨ k = 9 ∨ k = 10 ∨ k = 11) (f : Nat) (s : ByteArray) (hs : s.size ≤ 100000) : Calls Tryz.prog 40 #[.agg #[.int .i64 (k : Nat), .int .i64 (f : Nat), .string s]] w (ParseP w s) := by
  rcases hk with rfl | rfl | rfl | rfl
  · exact ask8 f s hs
  · exact ask_ack 9 (.inl rfl) f s hs
  · exact ask10 f s hs
  · exact ask_ack 11 (.inr rfl) f s hs
end Go.Proofs.YtljbchghbpmghaaGreatDoor
