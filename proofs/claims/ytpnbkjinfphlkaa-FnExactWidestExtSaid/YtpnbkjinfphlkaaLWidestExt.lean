/- FnExactWidestExt returns true for every argument, and its arguments read as before. No condition. -/
import Derived.Test.YtpnbkjinfphlkaaFnCt
import Derived.Test.YtpnbkjinfphlkaaFnJ
import Derived.Test.YtpnbkjinfphlkaaAeN
namespace Go.Proofs.Ytpnbkjinfphlkaa
open Go Go.ChangeShapes Go.WideShapes Go.ChangeAt Go.RowKit
set_option linter.unusedVariables false
set_option maxRecDepth 100000

/-- the law -/
theorem ev_law (x0 : GBrowser) (cs0 : List C) (x1 : GSite) (cs1 : List C) (S : Store) (h0 : Rd S x0.d cs0) (h1 : Rd S x1.d cs1) : EvA Try.prog 6 [.agg cs0, .agg cs1] S (fun r _ => r = .v (.s (.bool true))) := by
  obtain ⟨_, _, _, _, _, _, rfl, _, _, _, _, _, _⟩ := GBrowser.inv h0
  obtain rfl := GSite.inv h1
  refine evA_intro tok Try.func6 (by kernel_rfl) rfl ?_
  repeat' ((conv => whnf) <;> first
      | refine condP_szR (by omega) (fun _ _ => ?_) (fun _ _ => ?_)
      | refine condP_dec (fun _ => ?_) (fun _ => ?_)
      | refine condP_ndec (fun _ => ?_) (fun _ => ?_)
      | refine condP_true rfl ?_
      | refine condP_false rfl ?_
      | refine condP_not (fun _ => ?_) (fun _ => ?_)
      | refine condP_intro (fun _ => ?_) (fun _ => ?_)
      | refine callP_eq (ev_szBrowser _ _ _ _ (by (first | assumption | exact Fr.rd (by assumption) | exact Rd.ext (by first | assumption | exact Fr.rd (by assumption)) (by (first | assumption | exact Ext.push _ _ | exact Ext.trans (by assumption) (by first | assumption | exact Ext.push _ _) | exact Ext.trans (by assumption) (Ext.trans (by assumption) (by assumption)) | exact Ext.trans (by assumption) (Ext.trans (by assumption) (Ext.trans (by assumption) (by assumption))))) | exact GPackage.rd (by (first | assumption | exact Fr.rd (by assumption) | exact Rd.ext (by first | assumption | exact Fr.rd (by assumption)) (by (first | assumption | exact Ext.push _ _ | exact Ext.trans (by assumption) (by first | assumption | exact Ext.push _ _) | exact Ext.trans (by assumption) (Ext.trans (by assumption) (by assumption)) | exact Ext.trans (by assumption) (Ext.trans (by assumption) (Ext.trans (by assumption) (by assumption))))))) (by (first | assumption | exact Fr.rd (by assumption) | exact Rd.ext (by first | assumption | exact Fr.rd (by assumption)) (by (first | assumption | exact Ext.push _ _ | exact Ext.trans (by assumption) (by first | assumption | exact Ext.push _ _) | exact Ext.trans (by assumption) (Ext.trans (by assumption) (by assumption)) | exact Ext.trans (by assumption) (Ext.trans (by assumption) (Ext.trans (by assumption) (by assumption))))))) (by (first | assumption | exact Fr.rd (by assumption) | exact Rd.ext (by first | assumption | exact Fr.rd (by assumption)) (by (first | assumption | exact Ext.push _ _ | exact Ext.trans (by assumption) (by first | assumption | exact Ext.push _ _) | exact Ext.trans (by assumption) (Ext.trans (by assumption) (by assumption)) | exact Ext.trans (by assumption) (Ext.trans (by assumption) (Ext.trans (by assumption) (by assumption))))))) (by (first | assumption | exact Fr.rd (by assumption) | exact Rd.ext (by first | assumption | exact Fr.rd (by assumption)) (by (first | assumption | exact Ext.push _ _ | exact Ext.trans (by assumption) (by first | assumption | exact Ext.push _ _) | exact Ext.trans (by assumption) (Ext.trans (by assumption) (by assumption)) | exact Ext.trans (by assumption) (Ext.trans (by assumption) (Ext.trans (by assumption) (by assumption))))))) | exact GTab.rd (by (first | assumption | exact Fr.rd (by assumption) | exact Rd.ext (by first | assumption | exact Fr.rd (by assumption)) (by (first | assumption | exact Ext.push _ _ | exact Ext.trans (by assumption) (by first | assumption | exact Ext.push _ _) | exact Ext.trans (by assumption) (Ext.trans (by assumption) (by assumption)) | exact Ext.trans (by assumption) (Ext.trans (by assumption) (Ext.trans (by assumption) (by assumption))))))) (by (first | assumption | exact Fr.rd (by assumption) | exact Rd.ext (by first | assumption | exact Fr.rd (by assumption)) (by (first | assumption | exact Ext.push _ _ | exact Ext.trans (by assumption) (by first | assumption | exact Ext.push _ _) | exact Ext.trans (by assumption) (Ext.trans (by assumption) (by assumption)) | exact Ext.trans (by assumption) (Ext.trans (by assumption) (Ext.trans (by assumption) (by assumption))))))) (by (first | assumption | exact Fr.rd (by assumption) | exact Rd.ext (by first | assumption | exact Fr.rd (by assumption)) (by (first | assumption | exact Ext.push _ _ | exact Ext.trans (by assumption) (by first | assumption | exact Ext.push _ _) | exact Ext.trans (by assumption) (Ext.trans (by assumption) (by assumption)) | exact Ext.trans (by assumption) (Ext.trans (by assumption) (Ext.trans (by assumption) (by assumption))))))) | exact GOutcome.rd (by (first | assumption | exact Fr.rd (by assumption) | exact Rd.ext (by first | assumption | exact Fr.rd (by assumption)) (by (first | assumption | exact Ext.push _ _ | exact Ext.trans (by assumption) (by first | assumption | exact Ext.push _ _) | exact Ext.trans (by assumption) (Ext.trans (by assumption) (by assumption)) | exact Ext.trans (by assumption) (Ext.trans (by assumption) (Ext.trans (by assumption) (by assumption))))))))) (by omega)) ?_
      | (refine callP_intro (ev_toBrowser _ _ _ (by (first | assumption | exact Fr.rd (by assumption) | exact Rd.ext (by first | assumption | exact Fr.rd (by assumption)) (by (first | assumption | exact Ext.push _ _ | exact Ext.trans (by assumption) (by first | assumption | exact Ext.push _ _) | exact Ext.trans (by assumption) (Ext.trans (by assumption) (by assumption)) | exact Ext.trans (by assumption) (Ext.trans (by assumption) (Ext.trans (by assumption) (by assumption))))) | exact GPackage.rd (by (first | assumption | exact Fr.rd (by assumption) | exact Rd.ext (by first | assumption | exact Fr.rd (by assumption)) (by (first | assumption | exact Ext.push _ _ | exact Ext.trans (by assumption) (by first | assumption | exact Ext.push _ _) | exact Ext.trans (by assumption) (Ext.trans (by assumption) (by assumption)) | exact Ext.trans (by assumption) (Ext.trans (by assumption) (Ext.trans (by assumption) (by assumption))))))) (by (first | assumption | exact Fr.rd (by assumption) | exact Rd.ext (by first | assumption | exact Fr.rd (by assumption)) (by (first | assumption | exact Ext.push _ _ | exact Ext.trans (by assumption) (by first | assumption | exact Ext.push _ _) | exact Ext.trans (by assumption) (Ext.trans (by assumption) (by assumption)) | exact Ext.trans (by assumption) (Ext.trans (by assumption) (Ext.trans (by assumption) (by assumption))))))) (by (first | assumption | exact Fr.rd (by assumption) | exact Rd.ext (by first | assumption | exact Fr.rd (by assumption)) (by (first | assumption | exact Ext.push _ _ | exact Ext.trans (by assumption) (by first | assumption | exact Ext.push _ _) | exact Ext.trans (by assumption) (Ext.trans (by assumption) (by assumption)) | exact Ext.trans (by assumption) (Ext.trans (by assumption) (Ext.trans (by assumption) (by assumption))))))) (by (first | assumption | exact Fr.rd (by assumption) | exact Rd.ext (by first | assumption | exact Fr.rd (by assumption)) (by (first | assumption | exact Ext.push _ _ | exact Ext.trans (by assumption) (by first | assumption | exact Ext.push _ _) | exact Ext.trans (by assumption) (Ext.trans (by assumption) (by assumption)) | exact Ext.trans (by assumption) (Ext.trans (by assumption) (Ext.trans (by assumption) (by assumption))))))) | exact GTab.rd (by (first | assumption | exact Fr.rd (by assumption) | exact Rd.ext (by first | assumption | exact Fr.rd (by assumption)) (by (first | assumption | exact Ext.push _ _ | exact Ext.trans (by assumption) (by first | assumption | exact Ext.push _ _) | exact Ext.trans (by assumption) (Ext.trans (by assumption) (by assumption)) | exact Ext.trans (by assumption) (Ext.trans (by assumption) (Ext.trans (by assumption) (by assumption))))))) (by (first | assumption | exact Fr.rd (by assumption) | exact Rd.ext (by first | assumption | exact Fr.rd (by assumption)) (by (first | assumption | exact Ext.push _ _ | exact Ext.trans (by assumption) (by first | assumption | exact Ext.push _ _) | exact Ext.trans (by assumption) (Ext.trans (by assumption) (by assumption)) | exact Ext.trans (by assumption) (Ext.trans (by assumption) (Ext.trans (by assumption) (by assumption))))))) (by (first | assumption | exact Fr.rd (by assumption) | exact Rd.ext (by first | assumption | exact Fr.rd (by assumption)) (by (first | assumption | exact Ext.push _ _ | exact Ext.trans (by assumption) (by first | assumption | exact Ext.push _ _) | exact Ext.trans (by assumption) (Ext.trans (by assumption) (by assumption)) | exact Ext.trans (by assumption) (Ext.trans (by assumption) (Ext.trans (by assumption) (by assumption))))))) | exact GOutcome.rd (by (first | assumption | exact Fr.rd (by assumption) | exact Rd.ext (by first | assumption | exact Fr.rd (by assumption)) (by (first | assumption | exact Ext.push _ _ | exact Ext.trans (by assumption) (by first | assumption | exact Ext.push _ _) | exact Ext.trans (by assumption) (Ext.trans (by assumption) (by assumption)) | exact Ext.trans (by assumption) (Ext.trans (by assumption) (Ext.trans (by assumption) (by assumption))))))))) (by (first | omega | exact sz_at hz (by omega) | (simp only [szL]; omega)))) ?_; rintro _ Sn ⟨hEn, _, _, _, _, _, _, rfl, hFn⟩)
      | refine callP_eq (ev_eqBrowser _ _ _ _ (by (first | assumption | exact Fr.rd (by assumption) | exact Rd.ext (by first | assumption | exact Fr.rd (by assumption)) (by (first | assumption | exact Ext.push _ _ | exact Ext.trans (by assumption) (by first | assumption | exact Ext.push _ _) | exact Ext.trans (by assumption) (Ext.trans (by assumption) (by assumption)) | exact Ext.trans (by assumption) (Ext.trans (by assumption) (Ext.trans (by assumption) (by assumption))))) | exact GPackage.rd (by (first | assumption | exact Fr.rd (by assumption) | exact Rd.ext (by first | assumption | exact Fr.rd (by assumption)) (by (first | assumption | exact Ext.push _ _ | exact Ext.trans (by assumption) (by first | assumption | exact Ext.push _ _) | exact Ext.trans (by assumption) (Ext.trans (by assumption) (by assumption)) | exact Ext.trans (by assumption) (Ext.trans (by assumption) (Ext.trans (by assumption) (by assumption))))))) (by (first | assumption | exact Fr.rd (by assumption) | exact Rd.ext (by first | assumption | exact Fr.rd (by assumption)) (by (first | assumption | exact Ext.push _ _ | exact Ext.trans (by assumption) (by first | assumption | exact Ext.push _ _) | exact Ext.trans (by assumption) (Ext.trans (by assumption) (by assumption)) | exact Ext.trans (by assumption) (Ext.trans (by assumption) (Ext.trans (by assumption) (by assumption))))))) (by (first | assumption | exact Fr.rd (by assumption) | exact Rd.ext (by first | assumption | exact Fr.rd (by assumption)) (by (first | assumption | exact Ext.push _ _ | exact Ext.trans (by assumption) (by first | assumption | exact Ext.push _ _) | exact Ext.trans (by assumption) (Ext.trans (by assumption) (by assumption)) | exact Ext.trans (by assumption) (Ext.trans (by assumption) (Ext.trans (by assumption) (by assumption))))))) (by (first | assumption | exact Fr.rd (by assumption) | exact Rd.ext (by first | assumption | exact Fr.rd (by assumption)) (by (first | assumption | exact Ext.push _ _ | exact Ext.trans (by assumption) (by first | assumption | exact Ext.push _ _) | exact Ext.trans (by assumption) (Ext.trans (by assumption) (by assumption)) | exact Ext.trans (by assumption) (Ext.trans (by assumption) (Ext.trans (by assumption) (by assumption))))))) | exact GTab.rd (by (first | assumption | exact Fr.rd (by assumption) | exact Rd.ext (by first | assumption | exact Fr.rd (by assumption)) (by (first | assumption | exact Ext.push _ _ | exact Ext.trans (by assumption) (by first | assumption | exact Ext.push _ _) | exact Ext.trans (by assumption) (Ext.trans (by assumption) (by assumption)) | exact Ext.trans (by assumption) (Ext.trans (by assumption) (Ext.trans (by assumption) (by assumption))))))) (by (first | assumption | exact Fr.rd (by assumption) | exact Rd.ext (by first | assumption | exact Fr.rd (by assumption)) (by (first | assumption | exact Ext.push _ _ | exact Ext.trans (by assumption) (by first | assumption | exact Ext.push _ _) | exact Ext.trans (by assumption) (Ext.trans (by assumption) (by assumption)) | exact Ext.trans (by assumption) (Ext.trans (by assumption) (Ext.trans (by assumption) (by assumption))))))) (by (first | assumption | exact Fr.rd (by assumption) | exact Rd.ext (by first | assumption | exact Fr.rd (by assumption)) (by (first | assumption | exact Ext.push _ _ | exact Ext.trans (by assumption) (by first | assumption | exact Ext.push _ _) | exact Ext.trans (by assumption) (Ext.trans (by assumption) (by assumption)) | exact Ext.trans (by assumption) (Ext.trans (by assumption) (Ext.trans (by assumption) (by assumption))))))) | exact GOutcome.rd (by (first | assumption | exact Fr.rd (by assumption) | exact Rd.ext (by first | assumption | exact Fr.rd (by assumption)) (by (first | assumption | exact Ext.push _ _ | exact Ext.trans (by assumption) (by first | assumption | exact Ext.push _ _) | exact Ext.trans (by assumption) (Ext.trans (by assumption) (by assumption)) | exact Ext.trans (by assumption) (Ext.trans (by assumption) (Ext.trans (by assumption) (by assumption))))))))) (by (first | assumption | exact Fr.rd (by assumption) | exact Rd.ext (by first | assumption | exact Fr.rd (by assumption)) (by (first | assumption | exact Ext.push _ _ | exact Ext.trans (by assumption) (by first | assumption | exact Ext.push _ _) | exact Ext.trans (by assumption) (Ext.trans (by assumption) (by assumption)) | exact Ext.trans (by assumption) (Ext.trans (by assumption) (Ext.trans (by assumption) (by assumption))))) | exact GPackage.rd (by (first | assumption | exact Fr.rd (by assumption) | exact Rd.ext (by first | assumption | exact Fr.rd (by assumption)) (by (first | assumption | exact Ext.push _ _ | exact Ext.trans (by assumption) (by first | assumption | exact Ext.push _ _) | exact Ext.trans (by assumption) (Ext.trans (by assumption) (by assumption)) | exact Ext.trans (by assumption) (Ext.trans (by assumption) (Ext.trans (by assumption) (by assumption))))))) (by (first | assumption | exact Fr.rd (by assumption) | exact Rd.ext (by first | assumption | exact Fr.rd (by assumption)) (by (first | assumption | exact Ext.push _ _ | exact Ext.trans (by assumption) (by first | assumption | exact Ext.push _ _) | exact Ext.trans (by assumption) (Ext.trans (by assumption) (by assumption)) | exact Ext.trans (by assumption) (Ext.trans (by assumption) (Ext.trans (by assumption) (by assumption))))))) (by (first | assumption | exact Fr.rd (by assumption) | exact Rd.ext (by first | assumption | exact Fr.rd (by assumption)) (by (first | assumption | exact Ext.push _ _ | exact Ext.trans (by assumption) (by first | assumption | exact Ext.push _ _) | exact Ext.trans (by assumption) (Ext.trans (by assumption) (by assumption)) | exact Ext.trans (by assumption) (Ext.trans (by assumption) (Ext.trans (by assumption) (by assumption))))))) (by (first | assumption | exact Fr.rd (by assumption) | exact Rd.ext (by first | assumption | exact Fr.rd (by assumption)) (by (first | assumption | exact Ext.push _ _ | exact Ext.trans (by assumption) (by first | assumption | exact Ext.push _ _) | exact Ext.trans (by assumption) (Ext.trans (by assumption) (by assumption)) | exact Ext.trans (by assumption) (Ext.trans (by assumption) (Ext.trans (by assumption) (by assumption))))))) | exact GTab.rd (by (first | assumption | exact Fr.rd (by assumption) | exact Rd.ext (by first | assumption | exact Fr.rd (by assumption)) (by (first | assumption | exact Ext.push _ _ | exact Ext.trans (by assumption) (by first | assumption | exact Ext.push _ _) | exact Ext.trans (by assumption) (Ext.trans (by assumption) (by assumption)) | exact Ext.trans (by assumption) (Ext.trans (by assumption) (Ext.trans (by assumption) (by assumption))))))) (by (first | assumption | exact Fr.rd (by assumption) | exact Rd.ext (by first | assumption | exact Fr.rd (by assumption)) (by (first | assumption | exact Ext.push _ _ | exact Ext.trans (by assumption) (by first | assumption | exact Ext.push _ _) | exact Ext.trans (by assumption) (Ext.trans (by assumption) (by assumption)) | exact Ext.trans (by assumption) (Ext.trans (by assumption) (Ext.trans (by assumption) (by assumption))))))) (by (first | assumption | exact Fr.rd (by assumption) | exact Rd.ext (by first | assumption | exact Fr.rd (by assumption)) (by (first | assumption | exact Ext.push _ _ | exact Ext.trans (by assumption) (by first | assumption | exact Ext.push _ _) | exact Ext.trans (by assumption) (Ext.trans (by assumption) (by assumption)) | exact Ext.trans (by assumption) (Ext.trans (by assumption) (Ext.trans (by assumption) (by assumption))))))) | exact GOutcome.rd (by (first | assumption | exact Fr.rd (by assumption) | exact Rd.ext (by first | assumption | exact Fr.rd (by assumption)) (by (first | assumption | exact Ext.push _ _ | exact Ext.trans (by assumption) (by first | assumption | exact Ext.push _ _) | exact Ext.trans (by assumption) (Ext.trans (by assumption) (by assumption)) | exact Ext.trans (by assumption) (Ext.trans (by assumption) (Ext.trans (by assumption) (by assumption)))))))))) ?_
      | (refine callP_eq (ev_sWidestExt _ _ _ _ (by (first | assumption | exact Fr.rd (by assumption) | exact Rd.ext (by first | assumption | exact Fr.rd (by assumption)) (by (first | assumption | exact Ext.push _ _ | exact Ext.trans (by assumption) (by first | assumption | exact Ext.push _ _) | exact Ext.trans (by assumption) (Ext.trans (by assumption) (by assumption)) | exact Ext.trans (by assumption) (Ext.trans (by assumption) (Ext.trans (by assumption) (by assumption))))) | exact GPackage.rd (by (first | assumption | exact Fr.rd (by assumption) | exact Rd.ext (by first | assumption | exact Fr.rd (by assumption)) (by (first | assumption | exact Ext.push _ _ | exact Ext.trans (by assumption) (by first | assumption | exact Ext.push _ _) | exact Ext.trans (by assumption) (Ext.trans (by assumption) (by assumption)) | exact Ext.trans (by assumption) (Ext.trans (by assumption) (Ext.trans (by assumption) (by assumption))))))) (by (first | assumption | exact Fr.rd (by assumption) | exact Rd.ext (by first | assumption | exact Fr.rd (by assumption)) (by (first | assumption | exact Ext.push _ _ | exact Ext.trans (by assumption) (by first | assumption | exact Ext.push _ _) | exact Ext.trans (by assumption) (Ext.trans (by assumption) (by assumption)) | exact Ext.trans (by assumption) (Ext.trans (by assumption) (Ext.trans (by assumption) (by assumption))))))) (by (first | assumption | exact Fr.rd (by assumption) | exact Rd.ext (by first | assumption | exact Fr.rd (by assumption)) (by (first | assumption | exact Ext.push _ _ | exact Ext.trans (by assumption) (by first | assumption | exact Ext.push _ _) | exact Ext.trans (by assumption) (Ext.trans (by assumption) (by assumption)) | exact Ext.trans (by assumption) (Ext.trans (by assumption) (Ext.trans (by assumption) (by assumption))))))) (by (first | assumption | exact Fr.rd (by assumption) | exact Rd.ext (by first | assumption | exact Fr.rd (by assumption)) (by (first | assumption | exact Ext.push _ _ | exact Ext.trans (by assumption) (by first | assumption | exact Ext.push _ _) | exact Ext.trans (by assumption) (Ext.trans (by assumption) (by assumption)) | exact Ext.trans (by assumption) (Ext.trans (by assumption) (Ext.trans (by assumption) (by assumption))))))) | exact GTab.rd (by (first | assumption | exact Fr.rd (by assumption) | exact Rd.ext (by first | assumption | exact Fr.rd (by assumption)) (by (first | assumption | exact Ext.push _ _ | exact Ext.trans (by assumption) (by first | assumption | exact Ext.push _ _) | exact Ext.trans (by assumption) (Ext.trans (by assumption) (by assumption)) | exact Ext.trans (by assumption) (Ext.trans (by assumption) (Ext.trans (by assumption) (by assumption))))))) (by (first | assumption | exact Fr.rd (by assumption) | exact Rd.ext (by first | assumption | exact Fr.rd (by assumption)) (by (first | assumption | exact Ext.push _ _ | exact Ext.trans (by assumption) (by first | assumption | exact Ext.push _ _) | exact Ext.trans (by assumption) (Ext.trans (by assumption) (by assumption)) | exact Ext.trans (by assumption) (Ext.trans (by assumption) (Ext.trans (by assumption) (by assumption))))))) (by (first | assumption | exact Fr.rd (by assumption) | exact Rd.ext (by first | assumption | exact Fr.rd (by assumption)) (by (first | assumption | exact Ext.push _ _ | exact Ext.trans (by assumption) (by first | assumption | exact Ext.push _ _) | exact Ext.trans (by assumption) (Ext.trans (by assumption) (by assumption)) | exact Ext.trans (by assumption) (Ext.trans (by assumption) (Ext.trans (by assumption) (by assumption))))))) | exact GOutcome.rd (by (first | assumption | exact Fr.rd (by assumption) | exact Rd.ext (by first | assumption | exact Fr.rd (by assumption)) (by (first | assumption | exact Ext.push _ _ | exact Ext.trans (by assumption) (by first | assumption | exact Ext.push _ _) | exact Ext.trans (by assumption) (Ext.trans (by assumption) (by assumption)) | exact Ext.trans (by assumption) (Ext.trans (by assumption) (Ext.trans (by assumption) (by assumption)))))))))) ?_)
      | (refine callP_eq (ev_sWidestExt _ ⟨_, _⟩ _ _ (by (first | assumption | exact Fr.rd (by assumption) | exact Rd.ext (by first | assumption | exact Fr.rd (by assumption)) (by (first | assumption | exact Ext.push _ _ | exact Ext.trans (by assumption) (by first | assumption | exact Ext.push _ _) | exact Ext.trans (by assumption) (Ext.trans (by assumption) (by assumption)) | exact Ext.trans (by assumption) (Ext.trans (by assumption) (Ext.trans (by assumption) (by assumption))))) | exact GPackage.rd (by (first | assumption | exact Fr.rd (by assumption) | exact Rd.ext (by first | assumption | exact Fr.rd (by assumption)) (by (first | assumption | exact Ext.push _ _ | exact Ext.trans (by assumption) (by first | assumption | exact Ext.push _ _) | exact Ext.trans (by assumption) (Ext.trans (by assumption) (by assumption)) | exact Ext.trans (by assumption) (Ext.trans (by assumption) (Ext.trans (by assumption) (by assumption))))))) (by (first | assumption | exact Fr.rd (by assumption) | exact Rd.ext (by first | assumption | exact Fr.rd (by assumption)) (by (first | assumption | exact Ext.push _ _ | exact Ext.trans (by assumption) (by first | assumption | exact Ext.push _ _) | exact Ext.trans (by assumption) (Ext.trans (by assumption) (by assumption)) | exact Ext.trans (by assumption) (Ext.trans (by assumption) (Ext.trans (by assumption) (by assumption))))))) (by (first | assumption | exact Fr.rd (by assumption) | exact Rd.ext (by first | assumption | exact Fr.rd (by assumption)) (by (first | assumption | exact Ext.push _ _ | exact Ext.trans (by assumption) (by first | assumption | exact Ext.push _ _) | exact Ext.trans (by assumption) (Ext.trans (by assumption) (by assumption)) | exact Ext.trans (by assumption) (Ext.trans (by assumption) (Ext.trans (by assumption) (by assumption))))))) (by (first | assumption | exact Fr.rd (by assumption) | exact Rd.ext (by first | assumption | exact Fr.rd (by assumption)) (by (first | assumption | exact Ext.push _ _ | exact Ext.trans (by assumption) (by first | assumption | exact Ext.push _ _) | exact Ext.trans (by assumption) (Ext.trans (by assumption) (by assumption)) | exact Ext.trans (by assumption) (Ext.trans (by assumption) (Ext.trans (by assumption) (by assumption))))))) | exact GTab.rd (by (first | assumption | exact Fr.rd (by assumption) | exact Rd.ext (by first | assumption | exact Fr.rd (by assumption)) (by (first | assumption | exact Ext.push _ _ | exact Ext.trans (by assumption) (by first | assumption | exact Ext.push _ _) | exact Ext.trans (by assumption) (Ext.trans (by assumption) (by assumption)) | exact Ext.trans (by assumption) (Ext.trans (by assumption) (Ext.trans (by assumption) (by assumption))))))) (by (first | assumption | exact Fr.rd (by assumption) | exact Rd.ext (by first | assumption | exact Fr.rd (by assumption)) (by (first | assumption | exact Ext.push _ _ | exact Ext.trans (by assumption) (by first | assumption | exact Ext.push _ _) | exact Ext.trans (by assumption) (Ext.trans (by assumption) (by assumption)) | exact Ext.trans (by assumption) (Ext.trans (by assumption) (Ext.trans (by assumption) (by assumption))))))) (by (first | assumption | exact Fr.rd (by assumption) | exact Rd.ext (by first | assumption | exact Fr.rd (by assumption)) (by (first | assumption | exact Ext.push _ _ | exact Ext.trans (by assumption) (by first | assumption | exact Ext.push _ _) | exact Ext.trans (by assumption) (Ext.trans (by assumption) (by assumption)) | exact Ext.trans (by assumption) (Ext.trans (by assumption) (Ext.trans (by assumption) (by assumption))))))) | exact GOutcome.rd (by (first | assumption | exact Fr.rd (by assumption) | exact Rd.ext (by first | assumption | exact Fr.rd (by assumption)) (by (first | assumption | exact Ext.push _ _ | exact Ext.trans (by assumption) (by first | assumption | exact Ext.push _ _) | exact Ext.trans (by assumption) (Ext.trans (by assumption) (by assumption)) | exact Ext.trans (by assumption) (Ext.trans (by assumption) (Ext.trans (by assumption) (by assumption)))))))))) ?_)
      | refine callP_eq (ev_toSite _ _) ?_
      | (refine callP_eq (ev_iWidestExt _ _ _ _ (by (first | assumption | exact Fr.rd (by assumption) | exact Rd.ext (by first | assumption | exact Fr.rd (by assumption)) (by (first | assumption | exact Ext.push _ _ | exact Ext.trans (by assumption) (by first | assumption | exact Ext.push _ _) | exact Ext.trans (by assumption) (Ext.trans (by assumption) (by assumption)) | exact Ext.trans (by assumption) (Ext.trans (by assumption) (Ext.trans (by assumption) (by assumption))))) | exact GPackage.rd (by (first | assumption | exact Fr.rd (by assumption) | exact Rd.ext (by first | assumption | exact Fr.rd (by assumption)) (by (first | assumption | exact Ext.push _ _ | exact Ext.trans (by assumption) (by first | assumption | exact Ext.push _ _) | exact Ext.trans (by assumption) (Ext.trans (by assumption) (by assumption)) | exact Ext.trans (by assumption) (Ext.trans (by assumption) (Ext.trans (by assumption) (by assumption))))))) (by (first | assumption | exact Fr.rd (by assumption) | exact Rd.ext (by first | assumption | exact Fr.rd (by assumption)) (by (first | assumption | exact Ext.push _ _ | exact Ext.trans (by assumption) (by first | assumption | exact Ext.push _ _) | exact Ext.trans (by assumption) (Ext.trans (by assumption) (by assumption)) | exact Ext.trans (by assumption) (Ext.trans (by assumption) (Ext.trans (by assumption) (by assumption))))))) (by (first | assumption | exact Fr.rd (by assumption) | exact Rd.ext (by first | assumption | exact Fr.rd (by assumption)) (by (first | assumption | exact Ext.push _ _ | exact Ext.trans (by assumption) (by first | assumption | exact Ext.push _ _) | exact Ext.trans (by assumption) (Ext.trans (by assumption) (by assumption)) | exact Ext.trans (by assumption) (Ext.trans (by assumption) (Ext.trans (by assumption) (by assumption))))))) (by (first | assumption | exact Fr.rd (by assumption) | exact Rd.ext (by first | assumption | exact Fr.rd (by assumption)) (by (first | assumption | exact Ext.push _ _ | exact Ext.trans (by assumption) (by first | assumption | exact Ext.push _ _) | exact Ext.trans (by assumption) (Ext.trans (by assumption) (by assumption)) | exact Ext.trans (by assumption) (Ext.trans (by assumption) (Ext.trans (by assumption) (by assumption))))))) | exact GTab.rd (by (first | assumption | exact Fr.rd (by assumption) | exact Rd.ext (by first | assumption | exact Fr.rd (by assumption)) (by (first | assumption | exact Ext.push _ _ | exact Ext.trans (by assumption) (by first | assumption | exact Ext.push _ _) | exact Ext.trans (by assumption) (Ext.trans (by assumption) (by assumption)) | exact Ext.trans (by assumption) (Ext.trans (by assumption) (Ext.trans (by assumption) (by assumption))))))) (by (first | assumption | exact Fr.rd (by assumption) | exact Rd.ext (by first | assumption | exact Fr.rd (by assumption)) (by (first | assumption | exact Ext.push _ _ | exact Ext.trans (by assumption) (by first | assumption | exact Ext.push _ _) | exact Ext.trans (by assumption) (Ext.trans (by assumption) (by assumption)) | exact Ext.trans (by assumption) (Ext.trans (by assumption) (Ext.trans (by assumption) (by assumption))))))) (by (first | assumption | exact Fr.rd (by assumption) | exact Rd.ext (by first | assumption | exact Fr.rd (by assumption)) (by (first | assumption | exact Ext.push _ _ | exact Ext.trans (by assumption) (by first | assumption | exact Ext.push _ _) | exact Ext.trans (by assumption) (Ext.trans (by assumption) (by assumption)) | exact Ext.trans (by assumption) (Ext.trans (by assumption) (Ext.trans (by assumption) (by assumption))))))) | exact GOutcome.rd (by (first | assumption | exact Fr.rd (by assumption) | exact Rd.ext (by first | assumption | exact Fr.rd (by assumption)) (by (first | assumption | exact Ext.push _ _ | exact Ext.trans (by assumption) (by first | assumption | exact Ext.push _ _) | exact Ext.trans (by assumption) (Ext.trans (by assumption) (by assumption)) | exact Ext.trans (by assumption) (Ext.trans (by assumption) (Ext.trans (by assumption) (by assumption)))))))))) ?_)
      | (refine callP_eq (ev_iWidestExt _ ⟨_, _⟩ _ _ (by (first | assumption | exact Fr.rd (by assumption) | exact Rd.ext (by first | assumption | exact Fr.rd (by assumption)) (by (first | assumption | exact Ext.push _ _ | exact Ext.trans (by assumption) (by first | assumption | exact Ext.push _ _) | exact Ext.trans (by assumption) (Ext.trans (by assumption) (by assumption)) | exact Ext.trans (by assumption) (Ext.trans (by assumption) (Ext.trans (by assumption) (by assumption))))) | exact GPackage.rd (by (first | assumption | exact Fr.rd (by assumption) | exact Rd.ext (by first | assumption | exact Fr.rd (by assumption)) (by (first | assumption | exact Ext.push _ _ | exact Ext.trans (by assumption) (by first | assumption | exact Ext.push _ _) | exact Ext.trans (by assumption) (Ext.trans (by assumption) (by assumption)) | exact Ext.trans (by assumption) (Ext.trans (by assumption) (Ext.trans (by assumption) (by assumption))))))) (by (first | assumption | exact Fr.rd (by assumption) | exact Rd.ext (by first | assumption | exact Fr.rd (by assumption)) (by (first | assumption | exact Ext.push _ _ | exact Ext.trans (by assumption) (by first | assumption | exact Ext.push _ _) | exact Ext.trans (by assumption) (Ext.trans (by assumption) (by assumption)) | exact Ext.trans (by assumption) (Ext.trans (by assumption) (Ext.trans (by assumption) (by assumption))))))) (by (first | assumption | exact Fr.rd (by assumption) | exact Rd.ext (by first | assumption | exact Fr.rd (by assumption)) (by (first | assumption | exact Ext.push _ _ | exact Ext.trans (by assumption) (by first | assumption | exact Ext.push _ _) | exact Ext.trans (by assumption) (Ext.trans (by assumption) (by assumption)) | exact Ext.trans (by assumption) (Ext.trans (by assumption) (Ext.trans (by assumption) (by assumption))))))) (by (first | assumption | exact Fr.rd (by assumption) | exact Rd.ext (by first | assumption | exact Fr.rd (by assumption)) (by (first | assumption | exact Ext.push _ _ | exact Ext.trans (by assumption) (by first | assumption | exact Ext.push _ _) | exact Ext.trans (by assumption) (Ext.trans (by assumption) (by assumption)) | exact Ext.trans (by assumption) (Ext.trans (by assumption) (Ext.trans (by assumption) (by assumption))))))) | exact GTab.rd (by (first | assumption | exact Fr.rd (by assumption) | exact Rd.ext (by first | assumption | exact Fr.rd (by assumption)) (by (first | assumption | exact Ext.push _ _ | exact Ext.trans (by assumption) (by first | assumption | exact Ext.push _ _) | exact Ext.trans (by assumption) (Ext.trans (by assumption) (by assumption)) | exact Ext.trans (by assumption) (Ext.trans (by assumption) (Ext.trans (by assumption) (by assumption))))))) (by (first | assumption | exact Fr.rd (by assumption) | exact Rd.ext (by first | assumption | exact Fr.rd (by assumption)) (by (first | assumption | exact Ext.push _ _ | exact Ext.trans (by assumption) (by first | assumption | exact Ext.push _ _) | exact Ext.trans (by assumption) (Ext.trans (by assumption) (by assumption)) | exact Ext.trans (by assumption) (Ext.trans (by assumption) (Ext.trans (by assumption) (by assumption))))))) (by (first | assumption | exact Fr.rd (by assumption) | exact Rd.ext (by first | assumption | exact Fr.rd (by assumption)) (by (first | assumption | exact Ext.push _ _ | exact Ext.trans (by assumption) (by first | assumption | exact Ext.push _ _) | exact Ext.trans (by assumption) (Ext.trans (by assumption) (by assumption)) | exact Ext.trans (by assumption) (Ext.trans (by assumption) (Ext.trans (by assumption) (by assumption))))))) | exact GOutcome.rd (by (first | assumption | exact Fr.rd (by assumption) | exact Rd.ext (by first | assumption | exact Fr.rd (by assumption)) (by (first | assumption | exact Ext.push _ _ | exact Ext.trans (by assumption) (by first | assumption | exact Ext.push _ _) | exact Ext.trans (by assumption) (Ext.trans (by assumption) (by assumption)) | exact Ext.trans (by assumption) (Ext.trans (by assumption) (Ext.trans (by assumption) (by assumption)))))))))) ?_)
      | refine needP_intro (by first | omega | (constructor <;> omega)) ?_
      | refine draw_intro 14 [.fl 0, .fl 2, .st 1 [2], .st 3 [], .st 4 [], .st 5 []] (by rfl) (by kernel_rfl) ?_
      | refine draw_intro 21 [.fl 0, .fl 1, .st 2 [0], .st 3 [], .st 4 []] (by rfl) (by kernel_rfl) ?_
      | refine draw_intro 28 [.fl 0, .fl 1, .st 2 [0], .st 3 [], .fl 4] (by rfl) (by kernel_rfl) ?_
      | refine And.intro ?_ ?_)
  all_goals first | rfl | (exfalso; simp_all; done)

theorem wtT46 {S : Store} (m : Nat) (cs : List C) (h : WT Try.prog S m 46 cs) : ∃ x : GSite, Rd S x.d cs := by
  obtain ⟨m', ps, e, g⟩ := wt_struct Try.underlying46 h
  subst e
  have g0 : All2 (WT Try.prog S m') [3, 3] ps := g
  obtain ⟨p0, q0, e0, w0, g1⟩ := all2_cons g0
  subst e0
  obtain ⟨x0, r0⟩ := wt_int Try.underlying3 w0
  obtain ⟨p1, q1, e1, w1, g2⟩ := all2_cons g1
  subst e1
  obtain ⟨x1, r1⟩ := wt_int Try.underlying3 w1
  have e' := all2_nil g2
  subst e'
  exact ⟨⟨x0, x1⟩, rd_append r0 (rd_append r1 (rd_nil))⟩
theorem wtT194 {S : Store} (m : Nat) (cs : List C) (h : WT Try.prog S m 194 cs) : ∃ x : GNode, Rd S x.d cs := by
  obtain ⟨m', ps, e, g⟩ := wt_struct Try.underlying194 h
  subst e
  have g0 : All2 (WT Try.prog S m') [3, 3, 3, 3, 3] ps := g
  obtain ⟨p0, q0, e0, w0, g1⟩ := all2_cons g0
  subst e0
  obtain ⟨x0, r0⟩ := wt_int Try.underlying3 w0
  obtain ⟨p1, q1, e1, w1, g2⟩ := all2_cons g1
  subst e1
  obtain ⟨x1, r1⟩ := wt_int Try.underlying3 w1
  obtain ⟨p2, q2, e2, w2, g3⟩ := all2_cons g2
  subst e2
  obtain ⟨x2, r2⟩ := wt_int Try.underlying3 w2
  obtain ⟨p3, q3, e3, w3, g4⟩ := all2_cons g3
  subst e3
  obtain ⟨x3, r3⟩ := wt_int Try.underlying3 w3
  obtain ⟨p4, q4, e4, w4, g5⟩ := all2_cons g4
  subst e4
  obtain ⟨x4, r4⟩ := wt_int Try.underlying3 w4
  have e' := all2_nil g5
  subst e'
  exact ⟨⟨x0, x1, x2, x3, x4⟩, rd_append r0 (rd_append r1 (rd_append r2 (rd_append r3 (rd_append r4 (rd_nil)))))⟩
theorem wtT61 {S : Store} (m : Nat) (cs : List C) (h : WT Try.prog S m 61 cs) : ∃ l : List GNode, Rd S [.sl 5 (l.map GNode.d)] cs :=
  wt_slice Try.underlying61 (by kernel_rfl) (fun m cs h => wtT194 m cs h) h
theorem wtT147 {S : Store} (m : Nat) (cs : List C) (h : WT Try.prog S m 147 cs) : ∃ x : GEdit, Rd S x.d cs := by
  obtain ⟨m', ps, e, g⟩ := wt_struct Try.underlying147 h
  subst e
  have g0 : All2 (WT Try.prog S m') [3, 3, 3, 3, 3, 3] ps := g
  obtain ⟨p0, q0, e0, w0, g1⟩ := all2_cons g0
  subst e0
  obtain ⟨x0, r0⟩ := wt_int Try.underlying3 w0
  obtain ⟨p1, q1, e1, w1, g2⟩ := all2_cons g1
  subst e1
  obtain ⟨x1, r1⟩ := wt_int Try.underlying3 w1
  obtain ⟨p2, q2, e2, w2, g3⟩ := all2_cons g2
  subst e2
  obtain ⟨x2, r2⟩ := wt_int Try.underlying3 w2
  obtain ⟨p3, q3, e3, w3, g4⟩ := all2_cons g3
  subst e3
  obtain ⟨x3, r3⟩ := wt_int Try.underlying3 w3
  obtain ⟨p4, q4, e4, w4, g5⟩ := all2_cons g4
  subst e4
  obtain ⟨x4, r4⟩ := wt_int Try.underlying3 w4
  obtain ⟨p5, q5, e5, w5, g6⟩ := all2_cons g5
  subst e5
  obtain ⟨x5, r5⟩ := wt_int Try.underlying3 w5
  have e' := all2_nil g6
  subst e'
  exact ⟨⟨x0, x1, x2, x3, x4, x5⟩, rd_append r0 (rd_append r1 (rd_append r2 (rd_append r3 (rd_append r4 (rd_append r5 (rd_nil))))))⟩
theorem wtT62 {S : Store} (m : Nat) (cs : List C) (h : WT Try.prog S m 62 cs) : ∃ l : List GEdit, Rd S [.sl 6 (l.map GEdit.d)] cs :=
  wt_slice Try.underlying62 (by kernel_rfl) (fun m cs h => wtT147 m cs h) h
theorem wtT52 {S : Store} (m : Nat) (cs : List C) (h : WT Try.prog S m 52 cs) : ∃ l : List Int, Rd S [.sl 1 (l.map dInt)] cs :=
  wt_slice Try.underlying52 (by kernel_rfl) (fun m cs h => wt_int Try.underlying3 h) h
theorem wtT64 {S : Store} (m : Nat) (cs : List C) (h : WT Try.prog S m 64 cs) : ∃ x : GTab, Rd S x.d cs := by
  obtain ⟨m', ps, e, g⟩ := wt_struct Try.underlying64 h
  subst e
  have g0 : All2 (WT Try.prog S m') [46, 61, 62, 52, 3] ps := g
  obtain ⟨p0, q0, e0, w0, g1⟩ := all2_cons g0
  subst e0
  obtain ⟨x0, r0⟩ := wtT46 _ _ w0
  obtain ⟨p1, q1, e1, w1, g2⟩ := all2_cons g1
  subst e1
  obtain ⟨x1, r1⟩ := wtT61 _ _ w1
  obtain ⟨p2, q2, e2, w2, g3⟩ := all2_cons g2
  subst e2
  obtain ⟨x2, r2⟩ := wtT62 _ _ w2
  obtain ⟨p3, q3, e3, w3, g4⟩ := all2_cons g3
  subst e3
  obtain ⟨x3, r3⟩ := wtT52 _ _ w3
  obtain ⟨p4, q4, e4, w4, g5⟩ := all2_cons g4
  subst e4
  obtain ⟨x4, r4⟩ := wt_int Try.underlying3 w4
  have e' := all2_nil g5
  subst e'
  exact ⟨⟨x0, x1, x2, x3, x4⟩, rd_append r0 (rd_append r1 (rd_append r2 (rd_append r3 (rd_append r4 (rd_nil)))))⟩
theorem wtT22 {S : Store} (m : Nat) (cs : List C) (h : WT Try.prog S m 22 cs) : ∃ l : List GTab, Rd S [.sl 6 (l.map GTab.d)] cs :=
  wt_slice Try.underlying22 (by kernel_rfl) (fun m cs h => wtT64 m cs h) h
theorem wtT143 {S : Store} (m : Nat) (cs : List C) (h : WT Try.prog S m 143 cs) : ∃ x : GPattern, Rd S x.d cs := by
  obtain ⟨m', ps, e, g⟩ := wt_struct Try.underlying143 h
  subst e
  have g0 : All2 (WT Try.prog S m') [3, 3] ps := g
  obtain ⟨p0, q0, e0, w0, g1⟩ := all2_cons g0
  subst e0
  obtain ⟨x0, r0⟩ := wt_int Try.underlying3 w0
  obtain ⟨p1, q1, e1, w1, g2⟩ := all2_cons g1
  subst e1
  obtain ⟨x1, r1⟩ := wt_int Try.underlying3 w1
  have e' := all2_nil g2
  subst e'
  exact ⟨⟨x0, x1⟩, rd_append r0 (rd_append r1 (rd_nil))⟩
theorem wtT167 {S : Store} (m : Nat) (cs : List C) (h : WT Try.prog S m 167 cs) : ∃ x : GGrant, Rd S x.d cs := by
  obtain ⟨m', ps, e, g⟩ := wt_struct Try.underlying167 h
  subst e
  have g0 : All2 (WT Try.prog S m') [3, 143, 3, 3, 3, 4] ps := g
  obtain ⟨p0, q0, e0, w0, g1⟩ := all2_cons g0
  subst e0
  obtain ⟨x0, r0⟩ := wt_int Try.underlying3 w0
  obtain ⟨p1, q1, e1, w1, g2⟩ := all2_cons g1
  subst e1
  obtain ⟨x1, r1⟩ := wtT143 _ _ w1
  obtain ⟨p2, q2, e2, w2, g3⟩ := all2_cons g2
  subst e2
  obtain ⟨x2, r2⟩ := wt_int Try.underlying3 w2
  obtain ⟨p3, q3, e3, w3, g4⟩ := all2_cons g3
  subst e3
  obtain ⟨x3, r3⟩ := wt_int Try.underlying3 w3
  obtain ⟨p4, q4, e4, w4, g5⟩ := all2_cons g4
  subst e4
  obtain ⟨x4, r4⟩ := wt_int Try.underlying3 w4
  obtain ⟨p5, q5, e5, w5, g6⟩ := all2_cons g5
  subst e5
  obtain ⟨x5, r5⟩ := wt_bool Try.underlying4 w5
  have e' := all2_nil g6
  subst e'
  exact ⟨⟨x0, x1, x2, x3, x4, x5⟩, rd_append r0 (rd_append r1 (rd_append r2 (rd_append r3 (rd_append r4 (rd_append r5 (rd_nil))))))⟩
theorem wtT24 {S : Store} (m : Nat) (cs : List C) (h : WT Try.prog S m 24 cs) : ∃ l : List GGrant, Rd S [.sl 7 (l.map GGrant.d)] cs :=
  wt_slice Try.underlying24 (by kernel_rfl) (fun m cs h => wtT167 m cs h) h
theorem wtT212 {S : Store} (m : Nat) (cs : List C) (h : WT Try.prog S m 212 cs) : ∃ x : GFlow, Rd S x.d cs := by
  obtain ⟨m', ps, e, g⟩ := wt_struct Try.underlying212 h
  subst e
  have g0 : All2 (WT Try.prog S m') [3, 3, 3] ps := g
  obtain ⟨p0, q0, e0, w0, g1⟩ := all2_cons g0
  subst e0
  obtain ⟨x0, r0⟩ := wt_int Try.underlying3 w0
  obtain ⟨p1, q1, e1, w1, g2⟩ := all2_cons g1
  subst e1
  obtain ⟨x1, r1⟩ := wt_int Try.underlying3 w1
  obtain ⟨p2, q2, e2, w2, g3⟩ := all2_cons g2
  subst e2
  obtain ⟨x2, r2⟩ := wt_int Try.underlying3 w2
  have e' := all2_nil g3
  subst e'
  exact ⟨⟨x0, x1, x2⟩, rd_append r0 (rd_append r1 (rd_append r2 (rd_nil)))⟩
theorem wtT148 {S : Store} (m : Nat) (cs : List C) (h : WT Try.prog S m 148 cs) : ∃ l : List GFlow, Rd S [.sl 3 (l.map GFlow.d)] cs :=
  wt_slice Try.underlying148 (by kernel_rfl) (fun m cs h => wtT212 m cs h) h
theorem wtT171 {S : Store} (m : Nat) (cs : List C) (h : WT Try.prog S m 171 cs) : ∃ x : GRule, Rd S x.d cs := by
  obtain ⟨m', ps, e, g⟩ := wt_struct Try.underlying171 h
  subst e
  have g0 : All2 (WT Try.prog S m') [3, 3, 143, 3, 3, 46] ps := g
  obtain ⟨p0, q0, e0, w0, g1⟩ := all2_cons g0
  subst e0
  obtain ⟨x0, r0⟩ := wt_int Try.underlying3 w0
  obtain ⟨p1, q1, e1, w1, g2⟩ := all2_cons g1
  subst e1
  obtain ⟨x1, r1⟩ := wt_int Try.underlying3 w1
  obtain ⟨p2, q2, e2, w2, g3⟩ := all2_cons g2
  subst e2
  obtain ⟨x2, r2⟩ := wtT143 _ _ w2
  obtain ⟨p3, q3, e3, w3, g4⟩ := all2_cons g3
  subst e3
  obtain ⟨x3, r3⟩ := wt_int Try.underlying3 w3
  obtain ⟨p4, q4, e4, w4, g5⟩ := all2_cons g4
  subst e4
  obtain ⟨x4, r4⟩ := wt_int Try.underlying3 w4
  obtain ⟨p5, q5, e5, w5, g6⟩ := all2_cons g5
  subst e5
  obtain ⟨x5, r5⟩ := wtT46 _ _ w5
  have e' := all2_nil g6
  subst e'
  exact ⟨⟨x0, x1, x2, x3, x4, x5⟩, rd_append r0 (rd_append r1 (rd_append r2 (rd_append r3 (rd_append r4 (rd_append r5 (rd_nil))))))⟩
theorem wtT26 {S : Store} (m : Nat) (cs : List C) (h : WT Try.prog S m 26 cs) : ∃ l : List GRule, Rd S [.sl 8 (l.map GRule.d)] cs :=
  wt_slice Try.underlying26 (by kernel_rfl) (fun m cs h => wtT171 m cs h) h
theorem wtT214 {S : Store} (m : Nat) (cs : List C) (h : WT Try.prog S m 214 cs) : ∃ x : GOp, Rd S x.d cs := by
  obtain ⟨m', ps, e, g⟩ := wt_struct Try.underlying214 h
  subst e
  have g0 : All2 (WT Try.prog S m') [3, 3, 3, 3] ps := g
  obtain ⟨p0, q0, e0, w0, g1⟩ := all2_cons g0
  subst e0
  obtain ⟨x0, r0⟩ := wt_int Try.underlying3 w0
  obtain ⟨p1, q1, e1, w1, g2⟩ := all2_cons g1
  subst e1
  obtain ⟨x1, r1⟩ := wt_int Try.underlying3 w1
  obtain ⟨p2, q2, e2, w2, g3⟩ := all2_cons g2
  subst e2
  obtain ⟨x2, r2⟩ := wt_int Try.underlying3 w2
  obtain ⟨p3, q3, e3, w3, g4⟩ := all2_cons g3
  subst e3
  obtain ⟨x3, r3⟩ := wt_int Try.underlying3 w3
  have e' := all2_nil g4
  subst e'
  exact ⟨⟨x0, x1, x2, x3⟩, rd_append r0 (rd_append r1 (rd_append r2 (rd_append r3 (rd_nil))))⟩
theorem wtT149 {S : Store} (m : Nat) (cs : List C) (h : WT Try.prog S m 149 cs) : ∃ l : List GOp, Rd S [.sl 4 (l.map GOp.d)] cs :=
  wt_slice Try.underlying149 (by kernel_rfl) (fun m cs h => wtT214 m cs h) h
theorem wtT151 {S : Store} (m : Nat) (cs : List C) (h : WT Try.prog S m 151 cs) : ∃ x : GPackage, Rd S x.d cs := by
  obtain ⟨m', ps, e, g⟩ := wt_struct Try.underlying151 h
  subst e
  have g0 : All2 (WT Try.prog S m') [3, 3, 3, 24, 148, 26, 149, 3] ps := g
  obtain ⟨p0, q0, e0, w0, g1⟩ := all2_cons g0
  subst e0
  obtain ⟨x0, r0⟩ := wt_int Try.underlying3 w0
  obtain ⟨p1, q1, e1, w1, g2⟩ := all2_cons g1
  subst e1
  obtain ⟨x1, r1⟩ := wt_int Try.underlying3 w1
  obtain ⟨p2, q2, e2, w2, g3⟩ := all2_cons g2
  subst e2
  obtain ⟨x2, r2⟩ := wt_int Try.underlying3 w2
  obtain ⟨p3, q3, e3, w3, g4⟩ := all2_cons g3
  subst e3
  obtain ⟨x3, r3⟩ := wtT24 _ _ w3
  obtain ⟨p4, q4, e4, w4, g5⟩ := all2_cons g4
  subst e4
  obtain ⟨x4, r4⟩ := wtT148 _ _ w4
  obtain ⟨p5, q5, e5, w5, g6⟩ := all2_cons g5
  subst e5
  obtain ⟨x5, r5⟩ := wtT26 _ _ w5
  obtain ⟨p6, q6, e6, w6, g7⟩ := all2_cons g6
  subst e6
  obtain ⟨x6, r6⟩ := wtT149 _ _ w6
  obtain ⟨p7, q7, e7, w7, g8⟩ := all2_cons g7
  subst e7
  obtain ⟨x7, r7⟩ := wt_int Try.underlying3 w7
  have e' := all2_nil g8
  subst e'
  exact ⟨⟨x0, x1, x2, x3, x4, x5, x6, x7⟩, rd_append r0 (rd_append r1 (rd_append r2 (rd_append r3 (rd_append r4 (rd_append r5 (rd_append r6 (rd_append r7 (rd_nil))))))))⟩
theorem wtT23 {S : Store} (m : Nat) (cs : List C) (h : WT Try.prog S m 23 cs) : ∃ l : List GPackage, Rd S [.sl 8 (l.map GPackage.d)] cs :=
  wt_slice Try.underlying23 (by kernel_rfl) (fun m cs h => wtT151 m cs h) h
theorem wtT145 {S : Store} (m : Nat) (cs : List C) (h : WT Try.prog S m 145 cs) : ∃ x : GLimit, Rd S x.d cs := by
  obtain ⟨m', ps, e, g⟩ := wt_struct Try.underlying145 h
  subst e
  have g0 : All2 (WT Try.prog S m') [3, 143, 3] ps := g
  obtain ⟨p0, q0, e0, w0, g1⟩ := all2_cons g0
  subst e0
  obtain ⟨x0, r0⟩ := wt_int Try.underlying3 w0
  obtain ⟨p1, q1, e1, w1, g2⟩ := all2_cons g1
  subst e1
  obtain ⟨x1, r1⟩ := wtT143 _ _ w1
  obtain ⟨p2, q2, e2, w2, g3⟩ := all2_cons g2
  subst e2
  obtain ⟨x2, r2⟩ := wt_int Try.underlying3 w2
  have e' := all2_nil g3
  subst e'
  exact ⟨⟨x0, x1, x2⟩, rd_append r0 (rd_append r1 (rd_append r2 (rd_nil)))⟩
theorem wtT25 {S : Store} (m : Nat) (cs : List C) (h : WT Try.prog S m 25 cs) : ∃ l : List GLimit, Rd S [.sl 4 (l.map GLimit.d)] cs :=
  wt_slice Try.underlying25 (by kernel_rfl) (fun m cs h => wtT145 m cs h) h
theorem wtT173 {S : Store} (m : Nat) (cs : List C) (h : WT Try.prog S m 173 cs) : ∃ x : GStored, Rd S x.d cs := by
  obtain ⟨m', ps, e, g⟩ := wt_struct Try.underlying173 h
  subst e
  have g0 : All2 (WT Try.prog S m') [3, 3, 3, 3] ps := g
  obtain ⟨p0, q0, e0, w0, g1⟩ := all2_cons g0
  subst e0
  obtain ⟨x0, r0⟩ := wt_int Try.underlying3 w0
  obtain ⟨p1, q1, e1, w1, g2⟩ := all2_cons g1
  subst e1
  obtain ⟨x1, r1⟩ := wt_int Try.underlying3 w1
  obtain ⟨p2, q2, e2, w2, g3⟩ := all2_cons g2
  subst e2
  obtain ⟨x2, r2⟩ := wt_int Try.underlying3 w2
  obtain ⟨p3, q3, e3, w3, g4⟩ := all2_cons g3
  subst e3
  obtain ⟨x3, r3⟩ := wt_int Try.underlying3 w3
  have e' := all2_nil g4
  subst e'
  exact ⟨⟨x0, x1, x2, x3⟩, rd_append r0 (rd_append r1 (rd_append r2 (rd_append r3 (rd_nil))))⟩
theorem wtT27 {S : Store} (m : Nat) (cs : List C) (h : WT Try.prog S m 27 cs) : ∃ l : List GStored, Rd S [.sl 4 (l.map GStored.d)] cs :=
  wt_slice Try.underlying27 (by kernel_rfl) (fun m cs h => wtT173 m cs h) h
theorem wtT29 {S : Store} (m : Nat) (cs : List C) (h : WT Try.prog S m 29 cs) : ∃ x : GBrowser, Rd S x.d cs := by
  obtain ⟨m', ps, e, g⟩ := wt_struct Try.underlying29 h
  subst e
  have g0 : All2 (WT Try.prog S m') [3, 22, 23, 24, 25, 26, 27, 3] ps := g
  obtain ⟨p0, q0, e0, w0, g1⟩ := all2_cons g0
  subst e0
  obtain ⟨x0, r0⟩ := wt_int Try.underlying3 w0
  obtain ⟨p1, q1, e1, w1, g2⟩ := all2_cons g1
  subst e1
  obtain ⟨x1, r1⟩ := wtT22 _ _ w1
  obtain ⟨p2, q2, e2, w2, g3⟩ := all2_cons g2
  subst e2
  obtain ⟨x2, r2⟩ := wtT23 _ _ w2
  obtain ⟨p3, q3, e3, w3, g4⟩ := all2_cons g3
  subst e3
  obtain ⟨x3, r3⟩ := wtT24 _ _ w3
  obtain ⟨p4, q4, e4, w4, g5⟩ := all2_cons g4
  subst e4
  obtain ⟨x4, r4⟩ := wtT25 _ _ w4
  obtain ⟨p5, q5, e5, w5, g6⟩ := all2_cons g5
  subst e5
  obtain ⟨x5, r5⟩ := wtT26 _ _ w5
  obtain ⟨p6, q6, e6, w6, g7⟩ := all2_cons g6
  subst e6
  obtain ⟨x6, r6⟩ := wtT27 _ _ w6
  obtain ⟨p7, q7, e7, w7, g8⟩ := all2_cons g7
  subst e7
  obtain ⟨x7, r7⟩ := wt_int Try.underlying3 w7
  have e' := all2_nil g8
  subst e'
  exact ⟨⟨x0, x1, x2, x3, x4, x5, x6, x7⟩, rd_append r0 (rd_append r1 (rd_append r2 (rd_append r3 (rd_append r4 (rd_append r5 (rd_append r6 (rd_append r7 (rd_nil))))))))⟩
theorem ev_args (S : Store) (avs : List V) (h : All2 (VT Try.prog S 8) Try.f6.params.toList avs) : EvA Try.prog 6 avs S (fun r _ => r = .v (.s (.bool true))) := by
  have g0 : All2 (VT Try.prog S 8) [29, 46] avs := h
  clear h
  obtain ⟨v0, q0, e0, h0, g1⟩ := all2_cons g0
  subst e0
  obtain ⟨cs0, f0, w0⟩ := vt_agg Try.underlying29 h0
  subst f0
  obtain ⟨x0, r0⟩ := wtT29 _ _ w0
  obtain ⟨v1, q1, e1, h1, g2⟩ := all2_cons g1
  subst e1
  obtain ⟨cs1, f1, w1⟩ := vt_agg Try.underlying46 h1
  subst f1
  obtain ⟨x1, r1⟩ := wtT46 _ _ w1
  have e' := all2_nil g2
  subst e'
  exact ev_law x0 _ x1 _ S r0 r1

set_option maxRecDepth 100000 in
theorem ev_calls (H : Type) (enc : TypeId × Value → H) (W : World) (base : Nat) (args : Array Value) (ds gs : List (DataW H)) (before : List MemPlace)
    (hval : ∀ (j : Nat) t v, Try.f6.params[j]? = some t → args[j]? = some v → Value.okWide Try.prog W .any base t v)
    (hW : DataW.Whole enc Try.prog Try.f6.params.toList Rows.fnExactWidestExtSpec.vars false W args.toList ds gs before) :
    Calls Try.prog 6 args W fun e W' => ∃ v, e = .returned v ∧ Rows.fnExactWidestExtSpec.post enc Try.prog Try.f6 false true false false W args v W' :=
  law_calls (P := Try.prog) (f := 6) (fn := Try.f6) (s := Rows.fnExactWidestExtSpec) (m := 8) laidOut (by kernel_rfl) (by kernel_rfl) rfl (fun H ds h => by
    have h : ds.length = 2 := h
    match ds, h with
    | [d0, d1], _ => rfl) (tb := 4) rfl Try.underlying4 (fun S avs _ h => ev_args S avs h) hval hW

set_option maxRecDepth 100000 in
theorem ev_lifted (os : Os) (started : os.Started) (H : Type) (enc : TypeId × Value → H) :
    ReturnsInHanded {} Try.checked os 6 .any (Rows.fnExactWidestExtSpec.pre6 enc Try.prog Try.f6 Rows.fnExactWidestExtRow.domain false) (Rows.fnExactWidestExtSpec.post enc Try.prog Try.f6 false true false false) :=
  returnsInHanded_of_change (C := Try.checked) own started (by kernel_rfl) Try.func6
    (ChangeSpec.witness6 (enc := enc) (C := Try.checked) false ⟨#[], #[.agg #[.int .i64 0, .slice none 0 0, .slice none 0 0, .slice none 0 0, .slice none 0 0, .slice none 0 0, .slice none 0 0, .int .i64 0], .agg #[.int .i64 0, .int .i64 0]], []⟩ 8 (by kernel_rfl) (by kernel_rfl) (by kernel_rfl) (by kernel_rfl))
    (fun W base args ds gs before hval hW _ _ => ev_calls H enc W base args ds gs before hval hW)

theorem fnExactWidestExt_holds : Rows.FnExactWidestExtSaid :=
  OpenClaim.holds_of_wide 6 Try.f6 rfl rfl rfl rfl rfl rfl rfl ⟨rfl, rfl, rfl, rfl, rfl⟩ rfl rfl rfl rfl rfl (by kernel_rfl) Try.func6 (by kernel_rfl)
    (of_decide_eq_true (by kernel_rfl)) (by unfold Func.isWrapper; first | (rw [if_pos (by decide +kernel)]; kernel_rfl) | (rw [if_neg (by decide +kernel)]; exact ⟨rfl, rfl⟩))
    (fun os started H enc _ => ev_lifted os started H enc)
end Go.Proofs.Ytpnbkjinfphlkaa
