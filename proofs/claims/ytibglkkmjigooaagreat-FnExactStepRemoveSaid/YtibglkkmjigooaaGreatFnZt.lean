/- The step of an update. -/
import Derived.Test.YtibglkkmjigooaaGreatFnZs
namespace Go.Proofs.YtibglkkmjigooaaGreat
open Go Go.ChangeShapes Go.WideShapes Go.ChangeAt Go.RowKit
set_option linter.unusedVariables false
set_option linter.unusedSimpArgs false
set_option maxRecDepth 100000
theorem szBru (b : GBrowser) : szL b.d = b.Tabs.length + szL.szLL (b.Tabs.map GTab.d) + (b.Packs.length + szL.szLL (b.Packs.map GPackage.d) + (b.Grants.length + (b.Limits.length + (b.Rules.length + b.Store.length)))) := by
  simp only [GBrowser.d, szL, List.length_map]
  rw [szLL_flat (f := GGrant.d) (by intro x; simp only [szL, GGrant.d]), szLL_flat (f := GLimit.d) (by intro x; simp only [szL, GLimit.d]), szLL_flat (f := GRule.d) (by intro x; simp only [szL, GRule.d]), szLL_flat (f := GStored.d) (by intro x; simp only [szL, GStored.d])]
  omega
end Go.Proofs.YtibglkkmjigooaaGreat
