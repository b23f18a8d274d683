/- Part of the proof. -/
import Derived.Test.YtmkllimamejcgaaGreatJ14
import Derived.Test.YtmkllimamejcgaaGreatRows
import Derived.JoinedOf
namespace Go.Proofs.YtmkllimamejcgaaGreat
set_option linter.all false
variable {P:Program} {f:FuncId} {fn:Func} {s:ChangeSpec} {c:OpenClaim}
def WQ(P:Program)(fn:Func)(s:ChangeSpec)(c:OpenClaim):Bool:=c.wf (OpenSpec.ofChange s) && laidOutB P && mapsRowed P && fn.params.all (P.readableRec ·) && namedTie P c.named s.vars
def WR(P:Program)(f:FuncId)(c:OpenClaim):Bool:=(c.stops == []) && (P.stops == []) && (c.knobs == []) && (P.stopKnobs == []) && (c.inPlace == P.inPlace f)
def WS(P:Program)(f:FuncId)(c:OpenClaim):Bool:=(c.unfollowed == P.unfollowed f) && (c.recurses == P.recurses f)
def WT(P:Program)(f:FuncId)(c:OpenClaim):Bool:=(c.named == P.varsNamed f)
def WU(P:Program)(fn:Func)(s:ChangeSpec)(c:OpenClaim):Bool:=(c.maps == (fn.params.toList++s.plain.varTypes P).any (P.mapsRec ·)) && (c.ifaces == (fn.params.toList++s.plain.varTypes P).any (P.ifacesRec ·)) && (c.mapsOut == P.mapsAmong fn.resultTypes.toList) &&
 (c.loops == (fn.params.toList++s.plain.varTypes P).any (P.loopsFrom ·)) && (c.wideKeys == (fn.params.toList++s.plain.varTypes P++fn.resultTypes.toList).any (P.wideKeysFrom ·)) &&
 s.vars.all (P.varReadable ·) && fn.resultTypes.all (λt=>P.readableRec t && decide (t<P.types.size)) && (c.ifacesOut == fn.resultTypes.toList.any (P.ifacesRec ·)) && (c.loopsOut == fn.resultTypes.toList.any (P.loopsFrom ·))
def WV(P:Program)(c:OpenClaim):Bool:=(c.plainKeys == P.plainKeys) && c.shortTexts.isNone && P.stopsHeard && P.mayEnter
def WW(P:Program)(fn:Func)(s:ChangeSpec)(c:OpenClaim):Bool:=(c.lifted == P.liftsFinal) && (P.make == some c.make) && (c.pinned == c.pinnedBy) &&
 (c.veiled == (fn.params.toList++s.plain.varTypes P++fn.resultTypes.toList).any (P.veiledRec ·)) && c.veiledFits P fn.params.toList (fn.params.toList++s.plain.varTypes P++fn.resultTypes.toList)
def igw(hA:WQ P fn s c=true)(hB:WR P f c=true)(hC:WS P f c=true)(hD:WT P f c=true)(hE:WU P fn s c=true)(hF:WV P c=true)(hG:WW P fn s c=true)(hk:c.domain=[])(kU:c.kinds=[]):joinedFacts P f fn s c=true:=by
 unfold joinedFacts;unfold WQ at hA;unfold WR at hB;unfold WS at hC;unfold WT at hD;unfold WU at hE;unfold WV at hF;unfold WW at hG;simp only[zz9]at hA hB hC hD hE hF hG ⊢;simp only[hA,hB,hC,hD,hE,hF,hG,hk,kU,tte,ww7,and_self,beq_self_eq_true]
