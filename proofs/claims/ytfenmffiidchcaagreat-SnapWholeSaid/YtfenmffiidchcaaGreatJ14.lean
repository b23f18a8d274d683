/-
  Texts of the proof, joined: JoinS.
-/
import Derived.Test.YtfenmffiidchcaaGreatJ13
import Derived.Test.YtfenmffiidchcaaGreatRows
import Derived.JoinedOf
namespace Go.Proofs.YtfenmffiidchcaaGreat
set_option linter.unusedVariables false
variable {P:Program} {f:FuncId} {fn:Func} {s:ChangeSpec} {c:OpenClaim}
def Sf(P:Program)(fn:Func)(s:ChangeSpec)(c:OpenClaim):Bool:=c.wf (OpenSpec.ofChange s) && laidOutB P && mapsRowed P && fn.params.all (P.readableRec ·) && namedTie P c.named s.vars
def Sg(P:Program)(f:FuncId)(c:OpenClaim):Bool:=(c.stops == []) && (P.stops == []) && (c.knobs == []) && (P.stopKnobs == []) && (c.inPlace == P.inPlace f)
def Sh(P:Program)(f:FuncId)(c:OpenClaim):Bool:=(c.unfollowed == P.unfollowed f) && (c.recurses == P.recurses f)
def Si(P:Program)(f:FuncId)(c:OpenClaim):Bool:=(c.named == P.varsNamed f)
def Sj(P:Program)(fn:Func)(s:ChangeSpec)(c:OpenClaim):Bool:=(c.maps == (fn.params.toList++s.plain.varTypes P).any (P.mapsRec ·)) && (c.ifaces == (fn.params.toList++s.plain.varTypes P).any (P.ifacesRec ·)) && (c.mapsOut == P.mapsAmong fn.resultTypes.toList) &&
 (c.loops == (fn.params.toList++s.plain.varTypes P).any (P.loopsFrom ·)) && (c.wideKeys == (fn.params.toList++s.plain.varTypes P++fn.resultTypes.toList).any (P.wideKeysFrom ·)) &&
 s.vars.all (P.varReadable ·) && fn.resultTypes.all (λt=>P.readableRec t && decide (t<P.types.size)) && (c.ifacesOut == fn.resultTypes.toList.any (P.ifacesRec ·)) && (c.loopsOut == fn.resultTypes.toList.any (P.loopsFrom ·))
def Sk(P:Program)(c:OpenClaim):Bool:=(c.plainKeys == P.plainKeys) && c.shortTexts.isNone && P.stopsHeard && P.mayEnter
def Sl(P:Program)(fn:Func)(s:ChangeSpec)(c:OpenClaim):Bool:=(c.lifted == P.liftsFinal) && (P.make == some c.make) && (c.pinned == c.pinnedBy) &&
 (c.veiled == (fn.params.toList++s.plain.varTypes P++fn.resultTypes.toList).any (P.veiledRec ·)) && c.veiledFits P fn.params.toList (fn.params.toList++s.plain.varTypes P++fn.resultTypes.toList)
theorem cw4(hA:Sf P fn s c=true)(hB:Sg P f c=true)(hC:Sh P f c=true)(hD:Si P f c=true)(hE:Sj P fn s c=true)(hF:Sk P c=true)(hG:Sl P fn s c=true)(hk:c.domain=[])(ow:c.kinds=[]):joinedFacts P f fn s c=true:=by
 unfold joinedFacts
 unfold Sf at hA
 unfold Sg at hB
 unfold Sh at hC
 unfold Si at hD
 unfold Sj at hE
 unfold Sk at hF
 unfold Sl at hG
 simp only[Bool.and_eq_true]at hA hB hC hD hE hF hG ⊢
 simp only[hA,hB,hC,hD,hE,hF,hG,hk,ow,List.isEmpty_nil,if_true,and_self,beq_self_eq_true]
end Go.Proofs.YtfenmffiidchcaaGreat
