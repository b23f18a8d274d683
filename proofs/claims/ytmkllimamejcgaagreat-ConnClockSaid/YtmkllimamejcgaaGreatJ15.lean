/- Part of the proof. -/
import Derived.Test.YtmkllimamejcgaaGreatJ14
import Derived.Test.YtmkllimamejcgaaGreatRows
import Derived.JoinedOf
namespace Go.Proofs.YtmkllimamejcgaaGreat
set_option linter.all false
variable {P:Program} {f:FuncId} {fn:Func} {s:ChangeSpec} {c:OpenClaim}
def US(P:Program)(fn:Func)(s:ChangeSpec)(c:OpenClaim):Bool:=c.wf (OpenSpec.ofChange s) && laidOutB P && mapsRowed P && fn.params.all (P.readableRec ·) && namedTie P c.named s.vars
def UT(P:Program)(f:FuncId)(c:OpenClaim):Bool:=(c.stops == []) && (P.stops == []) && (c.knobs == []) && (P.stopKnobs == []) && (c.inPlace == P.inPlace f)
def UU(P:Program)(f:FuncId)(c:OpenClaim):Bool:=(c.unfollowed == P.unfollowed f) && (c.recurses == P.recurses f)
def UW(P:Program)(f:FuncId)(c:OpenClaim):Bool:=(c.named == P.varsNamed f)
def UX(P:Program)(fn:Func)(s:ChangeSpec)(c:OpenClaim):Bool:=(c.maps == (fn.params.toList++s.plain.varTypes P).any (P.mapsRec ·)) && (c.ifaces == (fn.params.toList++s.plain.varTypes P).any (P.ifacesRec ·)) && (c.mapsOut == P.mapsAmong fn.resultTypes.toList) &&
 (c.loops == (fn.params.toList++s.plain.varTypes P).any (P.loopsFrom ·)) && (c.wideKeys == (fn.params.toList++s.plain.varTypes P++fn.resultTypes.toList).any (P.wideKeysFrom ·)) &&
 s.vars.all (P.varReadable ·) && fn.resultTypes.all (λt=>P.readableRec t && decide (t<P.types.size)) && (c.ifacesOut == fn.resultTypes.toList.any (P.ifacesRec ·)) && (c.loopsOut == fn.resultTypes.toList.any (P.loopsFrom ·))
def UY(P:Program)(c:OpenClaim):Bool:=(c.plainKeys == P.plainKeys) && c.shortTexts.isNone && P.stopsHeard && P.mayEnter
def UZ(P:Program)(fn:Func)(s:ChangeSpec)(c:OpenClaim):Bool:=(c.lifted == P.liftsFinal) && (P.make == some c.make) && (c.pinned == c.pinnedBy) &&
 (c.veiled == (fn.params.toList++s.plain.varTypes P++fn.resultTypes.toList).any (P.veiledRec ·)) && c.veiledFits P fn.params.toList (fn.params.toList++s.plain.varTypes P++fn.resultTypes.toList)
def cNr(hA:US P fn s c=true)(hB:UT P f c=true)(hC:UU P f c=true)(hD:UW P f c=true)(hE:UX P fn s c=true)(hF:UY P c=true)(hG:UZ P fn s c=true)(hk:c.domain=[])(fO:c.kinds=[]):joinedFacts P f fn s c=true:=by
 unfold joinedFacts;unfold US at hA;unfold UT at hB;unfold UU at hC;unfold UW at hD;unfold UX at hE;unfold UY at hF;unfold UZ at hG;simp only[zz9]at hA hB hC hD hE hF hG ⊢;simp only[hA,hB,hC,hD,hE,hF,hG,hk,fO,ttf,ww8,and_self,beq_self_eq_true]
