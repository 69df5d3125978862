/- FnExactFramed: the pure statement of the law, told over numbers, lists and texts alone. -/
import Derived.Test.YtjcpapjochlndaaQFnExactFramedx3
namespace Go.Proofs.Ytjcpapjochlndaa.QFnExactFramed
open Go.RowKit Go.Proofs.YtjcpapjochlndaaW.PrintWords
def laws_FnExactFramed.Pure : Prop := ∀ (l0 : List ByteArray), l0.length * 16 ≤ 140737488351232 → (∀ s ∈ l0, s.size ≤ maxLen) → ∃ k, laws_FnExactFramed.f k l0 = some true
end Go.Proofs.Ytjcpapjochlndaa.QFnExactFramed
