/- ShareThere, every row of members and every picks: the walk. -/
import Derived.Test.YtbcpodbihldfgaaK
namespace Go.Proofs.Ytbcpodbihldfgaa
open Go.RowKit Go.Maps Go.Proofs.YtbcpodbihldfgaaW.PrintWords Go.Proofs.Ytbcpodbihldfgaa.PSharePlays
set_option linter.unusedVariables false
theorem there_any (A : Option Addr) (c : Nat) (l : List S33) (A2 : Option Addr) (cp : Nat) (zs : List Int) (w : World) (hr : Kd.C k33 w A l.length l) (hc : l.length ≤ c) (hs : (∀ m ∈ l, m.f0.size ≤ maxLen) ∧ l.length * 24 ≤ 140737488351232)
    (hr2 : ReadsInt w .i64 A2 zs.length zs) (hcp : zs.length ≤ cp) (hy : zs.length * 8 ≤ 140737488351232) (_hw : ∀ x ∈ zs, (Lit.int .i64 x).wf = true) :
    Calls Try.prog 3 #[.slice A l.length c, .slice A2 zs.length cp] w fun e w' => e = .returned (.bool true) ∧ Below w.heap.size w w' :=
  there_walk w A c l hr hs.1 hc (by omega) A2 cp zs hr2 hcp (by omega)
end Go.Proofs.Ytbcpodbihldfgaa
