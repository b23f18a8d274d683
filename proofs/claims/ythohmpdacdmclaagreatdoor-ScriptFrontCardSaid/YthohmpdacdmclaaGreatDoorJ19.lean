/- Part. -/
import Derived.Test.YthohmpdacdmclaaGreatDoorJ18
namespace Go.Proofs.YthohmpdacdmclaaGreatDoor
set_option linter.all false
variable {P:Program} {f:FuncId} {fn:Func} {s:ChangeSpec} {c:OpenClaim}
def UZ(P:Program)(fn:Func)(s:ChangeSpec)(c:OpenClaim):Bool:=c.wf (OpenSpec.ofChange s) && laidOutB P && mapsRowed P && fn.params.all (P.readableRec ·) && namedTie P c.named s.vars
def U0(P:Program)(f:FuncId)(c:OpenClaim):Bool:=(c.stops == []) && (P.stops == []) && (c.knobs == []) && (P.stopKnobs == []) && (c.inPlace == P.inPlace f)
def U1(P:Program)(f:FuncId)(c:OpenClaim):Bool:=(c.unfollowed == P.unfollowed f) && (c.recurses == P.recurses f)
def U2(P:Program)(f:FuncId)(c:OpenClaim):Bool:=(c.named == P.varsNamed f)
def U3(P:Program)(fn:Func)(s:ChangeSpec)(c:OpenClaim):Bool:=(c.maps == (fn.params.toList++s.plain.varTypes P).any (P.mapsRec ·)) && (c.ifaces == (fn.params.toList++s.plain.varTypes P).any (P.ifacesRec ·)) && (c.mapsOut == P.mapsAmong fn.resultTypes.toList) &&
 (c.loops == (fn.params.toList++s.plain.varTypes P).any (P.loopsFrom ·)) && (c.wideKeys == (fn.params.toList++s.plain.varTypes P++fn.resultTypes.toList).any (P.wideKeysFrom ·)) &&
 s.vars.all (P.varReadable ·) && fn.resultTypes.all (λt=>P.readableRec t && decide (t<P.types.size)) && (c.ifacesOut == fn.resultTypes.toList.any (P.ifacesRec ·)) && (c.loopsOut == fn.resultTypes.toList.any (P.loopsFrom ·))
def U4(P:Program)(c:OpenClaim):Bool:=(c.plainKeys == P.plainKeys) && c.shortTexts.isNone && P.stopsHeard && P.mayEnter
def U5(P:Program)(fn:Func)(s:ChangeSpec)(c:OpenClaim):Bool:=(c.lifted == P.liftsFinal) && (P.make == some c.make) && (c.pinned == c.pinnedBy) &&
 (c.veiled == (fn.params.toList++s.plain.varTypes P++fn.resultTypes.toList).any (P.veiledRec ·)) && c.veiledFits P fn.params.toList (fn.params.toList++s.plain.varTypes P++fn.resultTypes.toList)
def bMn(hA:UZ P fn s c=true)(hB:U0 P f c=true)(hC:U1 P f c=true)(hD:U2 P f c=true)(hE:U3 P fn s c=true)(hF:U4 P c=true)(hG:U5 P fn s c=true)(hk:c.domain=[])(gV:c.kinds=[]):joinedFacts P f fn s c=true:=by
 unfold joinedFacts;unfold UZ at hA;unfold U0 at hB;unfold U1 at hC;unfold U2 at hD;unfold U3 at hE;unfold U4 at hF;unfold U5 at hG;simp only[zzs]at hA hB hC hD hE hF hG ⊢;simp only[hA,hB,hC,hD,hE,hF,hG,hk,gV,uu2,ww0,and_self,beq_self_eq_true]
