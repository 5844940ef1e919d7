/- Patterns, grants, limits. -/
import Derived.Test.YtfkfoidojmjacaaFnB
namespace Go.Proofs.Ytfkfoidojmjacaa
open Go Go.ChangeShapes Go.WideShapes Go.ChangeAt Go.RowKit
set_option linter.unusedVariables false
set_option linter.unusedSimpArgs false
set_option maxRecDepth 100000

def isPattern (p : GPattern) : Bool := inR p.Owner 0 9 && inR p.Sub (-1) 9
def matchSite (p : GPattern) (s : GSite) : Bool := isPattern p && isSite s && (decide (p.Owner = 0) || decide (p.Owner = s.Owner)) && (decide (p.Sub = -1) || decide (p.Sub = s.Sub))
def narrower (p : GPattern) (q : GPattern) : Bool := isPattern p && isPattern q && (decide (q.Owner = 0) || decide (p.Owner = q.Owner)) && (decide (q.Sub = -1) || decide (p.Sub = q.Sub))
def isGrant (g : GGrant) : Bool := inR g.Ext 1 5 && isPattern g.Pattern && inR g.Kind 1 4 && decide (0 ≤ g.From) && decide (g.From ≤ g.Until) && decide (g.Until ≤ 10000)
def covers (g : GGrant) (ext : Int) (s : GSite) (kind : Int) (tick : Int) (clicked : Bool) : Bool := isGrant g && decide (g.Ext = ext) && decide (g.Kind = kind) && matchSite g.Pattern s && inR tick g.From g.Until && (clicked || !g.Click)
def isAllowed (l : List GGrant) (ext : Int) (s : GSite) (kind : Int) (tick : Int) (clicked : Bool) : Bool := l.any fun x => covers x ext s kind tick clicked
def isLimit (x : GLimit) : Bool := inR x.Ext 0 5 && isPattern x.Pattern && inR x.Kind 0 4
def denied1 (x : GLimit) (ext : Int) (s : GSite) (kind : Int) : Bool := isLimit x && (decide (x.Ext = 0) || decide (x.Ext = ext)) && (decide (x.Kind = 0) || decide (x.Kind = kind)) && matchSite x.Pattern s
def isDenied (l : List GLimit) (ext : Int) (s : GSite) (kind : Int) : Bool := l.any fun x => denied1 x ext s kind
def mayDo (g : List GGrant) (l : List GLimit) (ext : Int) (s : GSite) (kind tick : Int) (clicked : Bool) : Bool := isAllowed g ext s kind tick clicked && !isDenied l ext s kind
def isLent (g : GGrant) : Bool := isGrant g && !decide (g.Pattern.Owner = 0) && !decide (g.Pattern.Sub = -1) && (decide (g.Kind = 1) || decide (g.Kind = 2)) && decide (g.Until = g.From + 5) && !g.Click
end Go.Proofs.Ytfkfoidojmjacaa
