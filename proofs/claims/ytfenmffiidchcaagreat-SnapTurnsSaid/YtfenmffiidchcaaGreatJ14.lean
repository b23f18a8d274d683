/-
  Texts of the proof, joined: JoinS.
-/
import Derived.Test.YtfenmffiidchcaaGreatJ13
import Derived.Test.YtfenmffiidchcaaGreatRows
import Derived.JoinedOf
namespace Go.Proofs.YtfenmffiidchcaaGreat
set_option linter.unusedVariables false
variable {P:Program} {f:FuncId} {fn:Func} {s:ChangeSpec} {c:OpenClaim}
def PE(P:Program)(fn:Func)(s:ChangeSpec)(c:OpenClaim):Bool:=c.wf (OpenSpec.ofChange s) && laidOutB P && mapsRowed P && fn.params.all (P.readableRec ·) && namedTie P c.named s.vars
def PG(P:Program)(f:FuncId)(c:OpenClaim):Bool:=(c.stops == []) && (P.stops == []) && (c.knobs == []) && (P.stopKnobs == []) && (c.inPlace == P.inPlace f)
def PH(P:Program)(f:FuncId)(c:OpenClaim):Bool:=(c.unfollowed == P.unfollowed f) && (c.recurses == P.recurses f)
def PI(P:Program)(f:FuncId)(c:OpenClaim):Bool:=(c.named == P.varsNamed f)
def PJ(P:Program)(fn:Func)(s:ChangeSpec)(c:OpenClaim):Bool:=(c.maps == (fn.params.toList++s.plain.varTypes P).any (P.mapsRec ·)) && (c.ifaces == (fn.params.toList++s.plain.varTypes P).any (P.ifacesRec ·)) && (c.mapsOut == P.mapsAmong fn.resultTypes.toList) &&
 (c.loops == (fn.params.toList++s.plain.varTypes P).any (P.loopsFrom ·)) && (c.wideKeys == (fn.params.toList++s.plain.varTypes P++fn.resultTypes.toList).any (P.wideKeysFrom ·)) &&
 s.vars.all (P.varReadable ·) && fn.resultTypes.all (λt=>P.readableRec t && decide (t<P.types.size)) && (c.ifacesOut == fn.resultTypes.toList.any (P.ifacesRec ·)) && (c.loopsOut == fn.resultTypes.toList.any (P.loopsFrom ·))
def PK(P:Program)(c:OpenClaim):Bool:=(c.plainKeys == P.plainKeys) && c.shortTexts.isNone && P.stopsHeard && P.mayEnter
def PL(P:Program)(fn:Func)(s:ChangeSpec)(c:OpenClaim):Bool:=(c.lifted == P.liftsFinal) && (P.make == some c.make) && (c.pinned == c.pinnedBy) &&
 (c.veiled == (fn.params.toList++s.plain.varTypes P++fn.resultTypes.toList).any (P.veiledRec ·)) && c.veiledFits P fn.params.toList (fn.params.toList++s.plain.varTypes P++fn.resultTypes.toList)
theorem b9f(hA:PE P fn s c=true)(hB:PG P f c=true)(hC:PH P f c=true)(hD:PI P f c=true)(hE:PJ P fn s c=true)(hF:PK P c=true)(hG:PL P fn s c=true)(hk:c.domain=[])(kZ:c.kinds=[]):joinedFacts P f fn s c=true:=by
 unfold joinedFacts
 unfold PE at hA
 unfold PG at hB
 unfold PH at hC
 unfold PI at hD
 unfold PJ at hE
 unfold PK at hF
 unfold PL at hG
 simp only[Bool.and_eq_true]at hA hB hC hD hE hF hG ⊢
 simp only[hA,hB,hC,hD,hE,hF,hG,hk,kZ,List.isEmpty_nil,if_true,and_self,beq_self_eq_true]
end Go.Proofs.YtfenmffiidchcaaGreat
