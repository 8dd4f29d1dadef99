import Derived.Test.YtdpllcmpndcbnaaPxN
namespace Go.Proofs.Ytdpllcmpndcbnaa.P
set_option maxRecDepth 100000
theorem descNames_300 : twoslotlaw15_DescNames.f 300 = some true := by kernel_rfl
theorem descNames_pure : twoslotlaw15_DescNames.Pure := ⟨300, descNames_300⟩
end Go.Proofs.Ytdpllcmpndcbnaa.P
