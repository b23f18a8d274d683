/- Part. -/
import Derived.Test.YthohmpdacdmclaaGreatDoorJ13
import Derived.Shelf.SlSortCmp.NoneTotal
namespace Go.Proofs.YthohmpdacdmclaaGreatDoor
set_option linter.all false
set_option maxRecDepth 100000
open Go.RowKit Go.Sort Go.Shelf Go.Proofs.Tryz
def uug:=@underlying4
def uuz:=@underlying62
def bzp:Go.Shelf.Ren:=⟨λ| 6=>206|15=>257|14=>256|28=>305|29=>220|20=>297|21=>298|22=>299|23=>300|24=>301|25=>302|26=>303|27=>304|46=>327|47=>328|48=>329|49=>330|50=>331|57=>346|n=>n,λ| 22=>141|24=>328|25=>331|3=>3|39=>36|0=>0|53=>341|55=>62|4=>4|46=>428|45=>427|50=>319|5=>5|9=>9|66=>464|70=>468|76=>478|77=>479|n=>n,λ| n=>n⟩
def Xa:Go.Proofs.SlLaysF0.n6 prog bzp where
 mixed:=by kernel_rfl
 f6 := ⟨ "slices.SortFunc[[]qanat/wheel.timer,qanat/wheel.timer]", by decide, func206.trans (yyp some (by kernel_rfl))⟩
 f14 := ⟨ "slices.pdqsortCmpFunc[qanat/wheel.timer]", by decide, func256.trans (yyp some (by kernel_rfl))⟩
 f15:=func257.trans (yyp some (by kernel_rfl))
 f20 := ⟨ "slices.insertionSortCmpFunc[qanat/wheel.timer]", by decide, func297.trans (yyp some (by kernel_rfl))⟩
 f21 := ⟨ "slices.heapSortCmpFunc[qanat/wheel.timer]", by decide, func298.trans (yyp some (by kernel_rfl))⟩
 f22 := ⟨ "slices.breakPatternsCmpFunc[qanat/wheel.timer]", by decide, func299.trans (yyp some (by kernel_rfl))⟩
 f23 := ⟨ "slices.choosePivotCmpFunc[qanat/wheel.timer]", by decide, func300.trans (yyp some (by kernel_rfl))⟩
 f24 := ⟨ "slices.reverseRangeCmpFunc[qanat/wheel.timer]", by decide, func301.trans (yyp some (by kernel_rfl))⟩
 f25 := ⟨ "slices.partialInsertionSortCmpFunc[qanat/wheel.timer]", by decide, func302.trans (yyp some (by kernel_rfl))⟩
 f26 := ⟨ "slices.partitionEqualCmpFunc[qanat/wheel.timer]", by decide, func303.trans (yyp some (by kernel_rfl))⟩
 f27 := ⟨ "slices.partitionCmpFunc[qanat/wheel.timer]", by decide, func304.trans (yyp some (by kernel_rfl))⟩
 f28:=func305.trans (yyp some (by kernel_rfl))
 f29:=func220.trans (yyp some (by kernel_rfl))
 f46 := ⟨ "slices.siftDownCmpFunc[qanat/wheel.timer]", by decide, func327.trans (yyp some (by kernel_rfl))⟩
 f47:=func328.trans (yyp some (by kernel_rfl))
 f48:=func329.trans (yyp some (by kernel_rfl))
 f49 := ⟨ "slices.medianAdjacentCmpFunc[qanat/wheel.timer]", by decide, func330.trans (yyp some (by kernel_rfl))⟩
 f50 := ⟨ "slices.medianCmpFunc[qanat/wheel.timer]", by decide, func331.trans (yyp some (by kernel_rfl))⟩
 f57 := ⟨ "slices.order2CmpFunc[qanat/wheel.timer]", by decide, func346.trans (yyp some (by kernel_rfl))⟩
 t0:=underlying0
 a0:=isAgg0
 z0:=sizeOf0
 v0:=zeroValue0
 t3:=yyc
 a3:=isAgg3
 z3:=sizeOf3
 v3:=zeroValue3
 t4:=uug
 a4:=isAgg4
 z4:=sizeOf4
 v4:=zeroValue4
 t5:=wwk
 a5:=isAgg5
 z5:=sizeOf5
 v5:=zeroValue5
 t9:=yyz
 a9:=isAgg9
 z9:=sizeOf9
 v9:=zeroValue9
 t22:=underlying141
 a22:=isAgg141
 z22:=sizeOf141
 v22:=zeroValue141
 t25:=underlying331
 a25:=isAgg331
 z25:=sizeOf331
 v25:=zeroValue331
 t39:=underlying36
 a39:=isAgg36
 z39:=sizeOf36
 v39:=zeroValue36
 t45:=underlying427
 a45:=isAgg427
 z45:=sizeOf427
 v45:=zeroValue427
 t46:=underlying428
 a46:=isAgg428
 z46:=sizeOf428
 v46:=zeroValue428
 t50:=underlying319
 a50:=isAgg319
 z50:=sizeOf319
 v50:=zeroValue319
 t53:=underlying341
 a53:=isAgg341
 z53:=sizeOf341
 v53:=zeroValue341
 t55:=uuz
 a55:=isAgg62
 z55:=sizeOf62
 v55:=zeroValue62
 t66:=underlying464
 a66:=isAgg464
 z66:=sizeOf464
 v66:=zeroValue464
 t70:=underlying468
 a70:=isAgg468
 z70:=sizeOf468
 v70:=zeroValue468
 t76:=underlying478
 a76:=isAgg478
 z76:=sizeOf478
 v76:=zeroValue478
 t77:=underlying479
 a77:=isAgg479
 z77:=sizeOf479
 v77:=zeroValue479
def Grown(W w:Ζ):Prop:=∃q os,w=grow (W.drewN q) os
def Grown.refl(W:Ζ):Grown W W:=⟨0,#[],by simp[World.drewN]⟩
def Grown.alloc{W w:Ζ}(h:Grown W w)(o:Obj):Grown W (w.alloc o):=by
 obtain⟨q,os,rfl⟩:=h;exact⟨q,os ++ #[o],by rw[alloc_eq_grow,grow_grow]⟩
def Grown.drew{W w:Ζ}(h:Grown W w):Grown W w.drew:=by
 obtain⟨q,os,rfl⟩:=h;exact⟨q+1,os,rfl⟩
section
variable {W0 W w:Ζ} {l l':Β} {P:Program}
def SQ{cs:Ξ}{t:Ι}{K:Ε->Ζ->Prop}(hS:SL W l w)(hG:Grown W0 w)(h:∀b w',SL W (.pt b cs t::l) w'->Grown W0 w'->K (Δ b) w'):zh cs t w K:=h _ _ hS.new (hG.alloc _)
def bf5{K:Ζ->Prop}(hS:SL W l w)(hG:Grown W0 w)(h:∀w',SL W l w'->Grown W0 w'->K w'):zi w K:=h _ hS.drew hG.drew
def bf4{z cells:Ξ}{ps:List (Nat × Nat × Ε)}{e:Ι}{n:Nat}{K:Ε->Ζ->Prop}(hS:SL W l w)(hG:Grown W0 w)(hc:gT z ps=some cells)
  (h:∀b w',SL W (.pt b cells e::l) w'->Grown W0 w'->K (.slice (some ⟨b,0,none⟩) n n) w'):zm z ps e n w K:=⟨cells,hc,h _ _ hS.new (hG.alloc _)⟩
def SL.grow{os:Array Obj}(hS:SL W l w):SL W l (Go.Sort.grow w os):=
 ⟨hS.os,hS.tape,hS.output,let ⟨k,s,m⟩:=hS.out;⟨k,s,λb o e=>by
  have:=m b o e;have b9:=(xxe.1 this).1;show (w.heap++os)[b]?=some o;rw[Array.getElem?_append_left b9];exact this⟩⟩
def SL.none(w:Ζ):SL w [] w:=⟨rfl,rfl,rfl,a_.emp,rfl,λb o e=>by cases e⟩
def bto(F:Array Ε)(cells rest:Ξ)(h:cells.length=F.size):putCells id 0 F (cells++rest).toArray=(F.toList++rest).toArray:=by
 apply Array.ext_getElem?;intro k;simp only[putCells,Array.getElem?_mapIdx,List.getElem?_toArray];by_cases hk:k<F.size
 ·rw[zzy (by omega),zzy (by simpa using hk)];have e1:cells[k]?=some (cells[k]'(by omega)):=zzd (by omega);have gV:0<=k/\k<0+F.size:=by omega
  rw[e1];simp[hk,wws]
 rw[yyk (by omega),yyk (by simpa using hk)];have gV:¬(0<=k/\k<0+F.size):=by omega
 simp only[gV,wwt,Array.length_toList,h];cases rest[k-F.size]?<;>rfl
def SL.putRow{b n:Nat}{t:Ι}{cells rest:Ξ}{F:Array Ε}(hS:SL W (.pt b (cells++rest) t::l) w)(h:cells.length=F.size):SL W (.pt b (F.toList++rest) t::l) (Go.Sort.putRow id (Go.Sort.ahead w n) b 0 F):=by
 obtain⟨f,hf,e⟩:=hS.pD .hd;refine hS.ri (b:=b) (o':=.cells (F.toList++rest).toArray t f) .hd (λk hk=>by obtain⟨f,_,rfl⟩:=hk;exact⟨_,rfl⟩) ⟨f,by simpa [<- h] using hf,rfl⟩ ?_ ?_ rfl rfl rfl
 ·show (w.heap.modify b _)[b]?=_;rw[vvp];simp[e,onCells,bto F cells rest h]
 intro x hx;show (w.heap.modify b _)[x]?=_;rw[vvp,zzb (λe=>hx e.symm)]
def SG{α:Type}[Inhabited α]{enc:α->Ξ}{k:Nat}(hk:∀x,(enc x).length=k)(xs:List α):(flatK enc k xs.toArray).toList=(xs.map enc).flatten:=by
 have hl:=n_ hk xs;refine vv9 λt=>?_;by_cases ht:t<xs.length*k
 ·have k0:0<k:=by
   rcases yy8 k with h|h
   ·subst h;omega
   exact h
  have h1:t / k<xs.length:=(uue k0).2 ht;have h2:t % k<(enc xs[t / k]).length:=by rw[hk];exact vvc _ k0
  have h3:=pM hk xs (t / k) (t % k) xs[t / k] ((enc xs[t / k])[t % k]) (by simp[h1]) (by simp[h2]);rw[show t / k*k+t % k=t by rw[Nat.mul_comm];exact vv0 t k]at h3
  rw[h3];have h4:(flatK enc k xs.toArray)[t]! = (enc xs.toArray[t / k]!)[t % k]!:=get_flatK enc k xs.toArray t (by simpa using ht);have h5:xs.toArray[t / k]! = xs[t / k]:=by simp[h1,wws]
  rw[h5]at h4
  rw[Array.getElem?_toList,ww7 (by simpa using ht)];rw[wws _ _ (by simpa using ht)]at h4
  rw[h4];congr 1;exact List.getElem!_eq_getElem?_getD.trans (by simp[h2])
 rw[yyt (by simp;omega),yyt (by omega)]
end
def sF(a b:Int):Int:=if a<b then -1 else if b<a then 1 else 0
def rB(x y:Tm):Int:=if sF x.when y.when≠0 then sF x.when y.when else sF x.id y.id
def Vj(x y:Tm):rB x y<0↔oH x y:=by
 unfold rB sF oH;repeat' split
 all_goals omega
def bn8(x y:Tm):ltOf rB x y=true↔oH x y:=by unfold ltOf;rw[vv4];exact Vj x y
def AT(x y:Tm):ltOf rB x y=false↔¬oH x y:=by unfold ltOf;rw[xxr,Vj]
def Xo:SWO (ltOf rB) where
 irrefl x:=by rw[AT];unfold oH;omega
 trans x y z h1 h2:=by rw[bn8]at *;unfold oH at *;omega
 ntrans x y z h1 h2:=by rw[AT]at *;unfold oH at *;omega
def bBj(x y:Tm)(h1:ltOf rB x y=false)(h2:ltOf rB y x=false):x=y:=by
 rw[AT]at *
 obtain⟨a,b⟩:=x;obtain⟨c,d⟩:=y;unfold oH at *
 simp only at *
 simp only[Tm.mk.injEq];omega
def uC(xs:List Tm):List Tm:=xs.mergeSort λx y=>!(ltOf rB) y x
def Xb(xs:List Tm):(uC xs).Perm xs:=List.mergeSort_perm _ _
def bzq(xs:List Tm):(uC xs).Pairwise λx y=>¬oH y x:=by
 have h:=List.pairwise_mergeSort (le:=λx y=>!(ltOf rB) y x) (λa b c h1 h2=>by
  simp only[Bool.not_eq_true']at *;exact Xo.ntrans c b a h2 h1) (λa b=>by
  by_cases h:oH b a
  ·have:¬oH a b:=by unfold oH at *;omega
   simp[(AT a b).2 this]
  simp[(AT b a).2 h]) xs
 refine h.imp λ{x y} UA=>?_;rw[Bool.not_eq_true']at UA
 exact (AT y x).1 UA
def UX{K:Ε->Ζ->Prop}{w:Ζ}{a:Int}(h:K (.bool false) w):aF 259 [Γ a] w K:=by
 apply bGh;refine A9 ?_;simpa using h
def UW{K:Ε->Ζ->Prop}{w:Ζ}{a:Int}(h:K (.bool false) w):aF 258 [Γ a] w K:=by
 apply XX;refine A9 ?_;simpa using h
def aWz{K:Ε->Ζ->Prop}{w:Ζ}{a b:Int}(h:K (Γ (sF a b)) w):aF 210 [Γ a,Γ b] w K:=by
 apply bFb;delta aI ai;unfold sF at h;refine UX (UX (zq (zq (Dt (za (λh1=>?_) (λh1=>Kg (za (λh2=>?_) (λh2=>?_))))))))
 ·rwa [zzc h1]at h
 ·rwa [zzb h1,zzc h2]at h
 rwa [zzb h1,zzb h2]at h
def aWx{K:Ε->Ζ->Prop}{w:Ζ}{a b:Int}(h:K (Γ (sF a b)) w):aF 209 [Γ a,Γ b] w K:=by
 apply XV;delta aI ai;unfold sF at h;refine UW (UW (zq (zq (Dt (za (λh1=>?_) (λh1=>Kg (za (λh2=>?_) (λh2=>?_))))))))
 ·rwa [zzc h1]at h
 ·rwa [zzb h1,zzc h2]at h
 rwa [zzb h1,zzb h2]at h
def bry{K:Ε->Ζ->Prop}{W w:Ζ}{l:Β}{b:Nat}{c d:Int}{t:Ι}(hS:SL W (.pt b [Γ c,Γ d] t::l) w)(h:K (Γ (if c≠0 then c else d)) w):aF 208 [.slice (some ⟨b,0,none⟩) 2 2] w K:=by
 apply bE9;delta aI ai;refine yg ?_;refine⟨λus w'=>∃k:Nat,us=[Γ k]/\k<=2/\w'=w/\(1<=k->c=0)/\(2<=k->d=0),λus _=>match us with|[.int _ k]=>(2-k).toNat|_=>0,⟨0,rfl,by omega,rfl,by omega,by omega⟩,?_⟩;rintro v8 w' ⟨k,hv,hk,rfl,h1,h2⟩;cases hv;refine Dt ?_;refine za (λb9=>?_) (λb9=>?_)
 ·have gV:k=0\/k=1:=by omega
  rcases gV with rfl|rfl
  ·refine zI (by decide) (zV hS .hd (v:=Γ c) rfl (A9 (za (λhc=>?_) (λhc=>?_))))
   ·rwa [zzc hc]at h
   refine QS (by decide) ⟨⟨1,rfl,by omega,rfl,λ_=>by omega,λh=>by omega⟩,by dsimp only;omega⟩
  have hc:=h1 (by omega);refine zI (by decide) (zV hS .hd (v:=Γ d) rfl (A9 (za (λhd=>?_) (λhd=>?_))))
  ·rwa [zzb (by omega)]at h
  refine QS (by decide) ⟨⟨2,rfl,by omega,rfl,λ_=>hc,λ_=>by omega⟩,by dsimp only;omega⟩
 have hc:=h1 (by omega);have hd:=h2 (by omega);rw[zzb (by omega),hd]at h
 exact h
def bBs(x y:Tm)(W:Ζ):aF 207 [agg (fu x),agg (fu y)] W λv w=>v= Γ (rB x y)/\Grown W w:=by
 apply bE8;delta aW bg ai;have hS:=SL.none W;have hG:=Grown.refl W;refine⟨_,rfl,SQ hS hG ?_⟩;clear hS hG;intro b1 w hS hG;refine⟨_,rfl,SQ hS hG ?_⟩;clear hS hG;intro b2 w hS hG;refine bf5 hS hG ?_;clear hS hG;intro w hS hG;refine Gp ?_;refine aWx ?_;refine Gp ?_;refine aWz ?_;refine bf4 hS hG (cells:=[Γ (sF x.when y.when),Γ (sF x.id y.id)]) (by simp[gT,Value.cells,bE]) ?_;clear hS hG;intro b3 w hS hG;exact bry hS ⟨rfl,hG⟩
def bzr(v:Ε)(xs:List Tm)(hl:xs.length<=1000000):SP 206 [v,.func (.func 207) #[] #[]] [.ob (bd v 328 2 xs.length (xs.map fu).flatten)]
  (bA (.tuple #[]) [.ob (bd v 328 2 (uC xs).length ((uC xs).map fu).flatten)]):=by
 intro W F w hS;try simp only[app]at hS
 rcases bd.open hS with ⟨⟨a,rfl⟩,IK,Co,hS⟩|⟨b,cap,rest,rfl,om,hlen,iT,hS⟩
 ·obtain rfl:xs=[]:=zzl IK;refine uuf (AnyF.slices_SortFunc_none Xa a 0 _ w) ?_;rintro e w' ⟨rfl,rfl⟩;have e:uC []=[]:=by simp[uC]
  rw[e];exact⟨_,rfl,_,⟨rfl,rfl⟩,hS⟩
 have lO:=SG sJ xs;have fw:(flatK fu 2 xs.toArray).size=(xs.map fu).flatten.length:=by rw[<- lO];simp
 have hH:HoldsK fu 2 w b 0 xs.toArray:=λj hj=>by
  have IA:j<(xs.map fu).flatten.length:=by rw[<- fw];exact hj
  have e1:(flatK fu 2 xs.toArray)[j]! = (xs.map fu).flatten[j]:=by
   rw[wws (flatK fu 2 xs.toArray) j hj];have:(flatK fu 2 xs.toArray).toList[j]?=(xs.map fu).flatten[j]?:=by rw[lO]
   rw[Array.getElem?_toList,ww7 hj,zzd IA]at this
   exact xx1 this
  have hc:((xs.map fu).flatten++rest)[0+j]?=some (xs.map fu).flatten[j]:=by rw[yyd,zzy IA,zzd IA]
  rw[e1];exact⟨hS.cell .hd hc,hS.frozen .hd hc⟩
 have hb:b<w.heap.size:=by
  obtain⟨f,_,e⟩:=hS.pD .hd;exact (xxe.1 e).1
 have hK:=AnyQ.slices_SortFunc_total Xa 2 (λw=>by kernel_rfl) (λw=>by kernel_rfl) fu sJ B6 rB Xo 207 #[] b 0 cap xs.toArray w
  (enters_of func207 (by kernel_rfl) rfl) (λm os dk _ x y=>by
   refine uuf (bBs x y (sortWorldK fu 2 w b 0 m dk os)) ?_;rintro e w' ⟨v,rfl,rfl,q,os',hw⟩;exact⟨rfl,q,os',hw⟩) hH hb (by simp;omega) bBj
 refine uuf hK ?_;rintro e w' ⟨rfl,n,os,rfl⟩;refine⟨_,rfl,_,⟨rfl,rfl⟩,?_⟩;have CM:=Xb xs;have Iv:=SG sJ (uC xs);have bkf:(xs.map fu).flatten.length=(flatK fu 2 (uC xs).toArray).size:=by
  rw[n_ sJ,size_flatK,List.size_toArray,CM.length_eq]
 have h2:=SL.grow (os:=os) (SL.putRow (n:=n) hS bkf);rw[Iv]at h2
 rw[CM.length_eq];exact bd.mk om (by rw[n_ sJ,CM.length_eq]) iT h2
set_option maxRecDepth 100000
open Go.RowKit
instance:DecidableRel oH:=λa b=>inferInstanceAs (Decidable (a.when<b.when\/(a.when=b.when/\a.id<b.id)))
abbrev ids(L:List Tm):Ξ:=L.map λt=>Γ t.id
def bk7{L:List Tm}(hn:(L.map (·.id)).Nodup){a b:Tm}(ha:a∈L)(hb:b∈L)(h:a.id=b.id):a=b:=by
 induction L with
 | nil=>cases ha
 | cons x L ih=>
  rw[zzp,uul]at hn
  rcases yya.1 ha with rfl|rN<;>rcases yya.1 hb with rfl|mj
  ·rfl
  ·exact absurd (zz5.2 ⟨b,mj,h.symm⟩) hn.1
  ·exact absurd (zz5.2 ⟨a,rN,h⟩) hn.1
  exact ih hn.2 rN mj
def bBt(wp:Nat)(L:List Tm)(now x:Int)(hn:L.length<=1000000)(hd:(L.map (·.id)).Nodup):SP 144 [Δ wp,Γ x] [.ob (gQ wp L now)]
  (λv post=>∃D:List Tm,D.Perm (jD (max now (rC x)) L)/\(D.Pairwise λx y=>¬oH y x)/\post=[.ob (gQ wp (L.filter λt=>!decide (t.when<=max now (rC x))) (max now (rC x))),.ob (bd v 3 1 D.length (ids D))]):=by
 refine Enzz λW F w hS=>?_;apply bDi;delta aI aW bS bg bk ai bc;obtain⟨xs,hx,hS⟩:=gQ.iff.1 hS;refine Gn λw hS=>?_;refine zV hS Xh (DD hx.len) ?_;refine Cg (YA x) λw hS=>?_;refine zV hS Xh (DD hx.len) ?_;refine Gp ?_;generalize max now (rC x)=n2 at *
 refine ZA hS Xu (DD hx.len) rfl ?_;clear hS;intro w hS;rw[bKd hx.len]at hS
 have lO:(xs.flatMap (·.2)).length<=1000000:=by rw[hx.perm.length_eq];exact hn
 refine Cc (bcz wp xs n2 hx.len lO) ?_;clear hS;rintro dv post rfl w hS;try simp only[app]at hS
 have ow:(jD n2 (xs.flatMap (·.2))).length<=1000000:=yy1 (yy7 _ _) lO;have Tz:(jD n2 (xs.flatMap (·.2))).Perm (jD n2 L):=hx.perm.filter _;refine Cg (bzr dv _ ow) λw hS=>?_;have pd:=Xb (jD n2 (xs.flatMap (·.2)));have AH:=bzq (jD n2 (xs.flatMap (·.2)));have Ic:=pd.trans Tz;have EA:=pd.length_eq;generalize uC (jD n2 (xs.flatMap (·.2)))=D at *
 rw[<- EA]at ow
 clear pd Tz;refine zy hS (t:=328) (sz:=2) (n:=D.length) (cells:=(D.map fu).flatten) Xh ?_;have hS:=gQ.iff.2 ⟨xs,hx,SL.bo hS (t:=.pt wp (iW xs n2) 144::.ob (zg lB xs)::.ob (bd dv 328 2 D.length ((D.map fu).flatten))::F) Xi⟩;clear hx;have e0:L.filter (λt=>decide (t∉D.take 0))=L:=by simp
 refine⟨λus w=>∃(k:Nat) (o:Ε),us=[o,Γ k]/\k<=D.length/\SL W (.ob (bd o 3 1 k (ids (D.take k)))::.ob (gQ wp (L.filter λt=>decide (t∉D.take k)) n2)::.ob (bd dv 328 2 D.length ((D.map fu).flatten))::F) w,
  λus _=>match us with|[_,.int _ k]=>(D.length-k).toNat|_=>0,⟨0,_,rfl,by omega,by rw[e0];exact bd.nil hS⟩,?_⟩
 clear hS e0;rintro v6 v25 w ⟨k,o,bM,hk,hS⟩;cases bM;refine bj (λh=>?_) (λh=>?_)
 ·have mS:k<D.length:=by omega
  refine zX hS (t:=328) Xh sJ (x:=D[k]) (by simp[mS]) mS ?_;refine zD hS ?_;clear hS;intro b w hS;refine zr (vs:=fu D[k]) hS .hd rfl rfl (B6 _) ?_;clear hS;intro w hS;refine Gp ?_;have Iv:(L.filter λt=>decide (t∉D.take k)).length<=1000000:=yy1 (yy7 _ _) hn;refine Cg (bcg wp _ n2 D[k].id Iv) λw hS=>?_;refine Gm λb w hS=>?_;have kj:pg (L.filter λt=>decide (t∉D.take k)) D[k].id=L.filter λt=>decide (t∉D.take (k+1)):=by
   unfold pg;rw[List.filter_filter];refine uud λt ht=>?_;have hDm:D[k]∈L:=(yy0.1 (Ic.subset (zzk mS))).1;have wQ:t∈D.take (k+1)↔t∈D.take k\/t=D[k]:=by rw[zze mS,zz4,zz8]
   have EY:t.id=D[k].id↔t=D[k]:=⟨λe=>bk7 hd ht hDm e,λe=>by rw[e]⟩;rw[ww9];simp only[zzs,zz1,ne_eq];rw[wQ,EY,not_or];first|exact And.comm|exact Iff.rfl
  rw[kj]at hS
  refine zL (n:=k) (m:=1) hS Xr (jx (cs:=[Γ D[k].id]) hS .hd rfl) rfl rfl (by simp[Value.oneCell']) (by omega) (by omega) ?_;clear hS;intro o2 w hS;refine Gp ?_;have ht:ids (D.take k)++[Γ D[k].id]=ids (D.take (k+1)):=by
   unfold ids;rw[zze mS,zzr];rfl
  rw[ht]at hS
  exact⟨⟨k+1,o2,by simp,by omega,aR hS⟩,by dsimp only;omega⟩
 have tX:k=D.length:=by omega
 subst tX;rw[zz0]at hS
 have e:L.filter (λt=>decide (t∉D))=L.filter λt=>!decide (t.when<=n2):=by
  refine uud λt ht=>?_;have:t∈D↔t.when<=n2:=by
   rw[Ic.mem_iff];unfold jD;rw[yy0];simp[ht]
  by_cases hw:t.when<=n2
  ·simp[this,hw]
  have h3:t∉D:=λhm=>hw (this.1 hm);simp only[h3,not_false_eq_true,decide_true,hw,decide_false,Bool.not_false]
 rw[e]at hS
 exact⟨_,⟨D,Ic,AH,rfl⟩,aR hS⟩
def jL(p:sE)(c:cT)(H:a_)(s:ed):zC:=iX λh:Ε × Ε × Ε=>zF (gn H ⟨s.held.aw,h.1,h.2.1⟩ s.held/\iz H h.2.2 s.k.reqs)
 [.pt p.wp (oI p.kp p.qp p.rp c.bI s.held.aw h.1 h.2.1 s.n) 299,.pt p.kp (pf p.gp p.dp p.lp p.pp s.k.aw h.2.2) 167,.ob (ig p.gp s.k.ts),.ob (b7 p.lp p.dp s.k.g),.ob (gG p.pp s.k.plan),.ob (Gate p.qp p.qb c.cap s.out (s.L.map hU)),jK p.rp c.b c.m c.j s.fh s.eG]
section
variable {W w:Ζ} {l F:Β} {p:sE} {c:cT} {H:a_} {s:ed}
def cD.take(hS:SL W l w)(r:eW (.ob (cD p c H s)) l F):SL W (.ob (bm p.dp s.k.d)::.ob (jL p c H s)::F) w:=by
 obtain⟨ov,nv,hi,hS⟩:=cD.open hS r;obtain⟨rv,hr,hS⟩:=b5.open hS Xr;have h2:SL W (.ob (jL p c H s)::.ob (bm p.dp s.k.d)::F) w:=by
  unfold jL;simp only[SL.ex,SL.fact,zzn,zzo];exact⟨(ov,nv,rv),⟨hi,hr⟩,aR hS⟩
 exact h2.perm (.swap _ _ _)
def jL.open(hS:SL W l w)(r:eW (.ob (jL p c H s)) l F):∃ov nv rv,gn H ⟨s.held.aw,ov,nv⟩ s.held/\iz H rv s.k.reqs/\SL W (.pt p.wp (oI p.kp p.qp p.rp c.bI s.held.aw ov nv s.n) 299::.pt p.kp (pf p.gp p.dp p.lp p.pp s.k.aw rv) 167::.ob (ig p.gp s.k.ts)::.ob (b7 p.lp p.dp s.k.g)::.ob (gG p.pp s.k.plan)::.ob (Gate p.qp p.qb c.cap s.out (s.L.map hU))::jK p.rp c.b c.m c.j s.fh s.eG::F) w:=by
 have h:=hS.perm r.perm;unfold jL at h;simp only[SL.ex,SL.fact,zzn,zzo]at h;obtain⟨⟨ov,nv,rv⟩,⟨hi,hr⟩,h⟩:=h;exact⟨ov,nv,rv,hi,hr,h⟩
def cD.u_(s:ed)(d:DS)(hS:SL W l w)(k:fK [.ob (bm p.dp d),.ob (jL p c H s)] l F):SL W (.ob (cD p c H {s with k:={s.k with d:=d}})::F) w:=by
 have hS:SL W (.ob (bm p.dp d)::.ob (jL p c H s)::F) w:=hS.pick k;obtain⟨ov,nv,rv,hi,hr,hS⟩:=jL.open hS Xr;have hS:=b5.dI (g:=s.k.g) (d:=d) (ts:=s.k.ts) (plan:=s.k.plan) (aw:=s.k.aw) (reqs:=s.k.reqs) hS hr Xp;exact cD.dI (k:={s.k with d:=d}) (L:=s.L) (held:=s.held) (n:=s.n) hS hi Xp
end
structure iO where
 np:Nat
 w:sE
 sp:Nat
 tp:Nat
 sl:Nat
 rb:Nat
 mp:Nat
 wi:Nat
 sn:Nat
 dg:Nat
 bp:Nat
 ck:Nat
abbrev uv(p:iO)(cf:cX)(pos:Int)(dv:Ε):Ξ:=[gW p.w.kp,bx p.sp,bx p.rb,Γ pos,bx p.mp,bx p.sn,bx p.w.qp,bx p.w.rp,bx p.w.wp,bx p.bp,dv,Γ cf.tables,Γ cf.late,Γ cf.size,Γ cf.queue,Γ cf.chunk,Γ cf.batch,Γ cf.base,Γ cf.bI,Γ cf.rZ,Γ cf.every,bx p.w.dp,bx p.ck]
def jZ(t:bD):Η:=cU (fC t)
def wq(n:Int):Ξ:=[Γ n]
abbrev uI(v:Ε)(l:Ω):Μ:=.ob (cz v 2 1 l.length (l.map wq).flatten)
abbrev KT(p:iO)(cf:cX)(kc:cT)(H:a_)(c:bq)(dv:Ε):Β:=[.pt p.np (uv p cf c.pos dv) 96,uI dv c.cE,.ob (cD p.w kc H c.s),.ob (b8 p.sp p.tp p.w.dp p.sl c.k),.ob (bW p.mp p.wi H c.m),.pt p.sn (iV p.sp p.mp p.wi p.dg cf.chunk) 243,.ob (eH p.dg c.dr),.ob (Ring p.rb kc.cap (c.q.map jZ)),.ob (gQ p.ck [] c.now),jj p.bp cf.every c.due c.last]
def bF(p:iO)(cf:cX)(kc:cT)(H:a_)(c:bq):zC:=iX λdv:Ε=>zF True (KT p cf kc H c dv)
section
variable {W w:Ζ} {l F:Β} {p:iO} {cf:cX} {kc:cT} {H:a_} {c:bq}
def bF.iff:SL W (.ob (bF p cf kc H c)::l) w↔∃dv,SL W (.pt p.np (uv p cf c.pos dv) 96::uI dv c.cE::.ob (cD p.w kc H c.s)::.ob (b8 p.sp p.tp p.w.dp p.sl c.k)::.ob (bW p.mp p.wi H c.m)::.pt p.sn (iV p.sp p.mp p.wi p.dg cf.chunk) 243::.ob (eH p.dg c.dr)::.ob (Ring p.rb kc.cap (c.q.map jZ))::.ob (gQ p.ck [] c.now)::jj p.bp cf.every c.due c.last::l) w:=by
 unfold bF;simp only[SL.ex,SL.fact,zzn,zzo,uus]
def bF.open(hS:SL W l w)(r:eW (.ob (bF p cf kc H c)) l F):∃dv,SL W (.pt p.np (uv p cf c.pos dv) 96::uI dv c.cE::.ob (cD p.w kc H c.s)::.ob (b8 p.sp p.tp p.w.dp p.sl c.k)::.ob (bW p.mp p.wi H c.m)::.pt p.sn (iV p.sp p.mp p.wi p.dg cf.chunk) 243::.ob (eH p.dg c.dr)::.ob (Ring p.rb kc.cap (c.q.map jZ))::.ob (gQ p.ck [] c.now)::jj p.bp cf.every c.due c.last::F) w:=bF.iff.1 (hS.perm r.perm)
def bF.put(c:bq){dv:Ε}(hS:SL W l w)(k:fK (KT p cf kc H c dv) l F):SL W (.ob (bF p cf kc H c)::F) w:=bF.iff.2 ⟨dv,hS.pick k⟩
def bF.dI{s:ed}{k:bQ}{m:cI}{dr:cH}{q:List bD}{pos due last:Int}{cE:Ω}{now:Int}{dv:Ε}(hS:SL W l w)(r:fK [.pt p.np (uv p cf pos dv) 96,uI dv cE,.ob (cD p.w kc H s),.ob (b8 p.sp p.tp p.w.dp p.sl k),.ob (bW p.mp p.wi H m),.pt p.sn (iV p.sp p.mp p.wi p.dg cf.chunk) 243,.ob (eH p.dg dr),.ob (Ring p.rb kc.cap (q.map jZ)),.ob (gQ p.ck [] now),jj p.bp cf.every due last] l F):SL W (.ob (bF p cf kc H ⟨s,k,m,dr,q,pos,due,last,cE,now⟩)::F) w:=bF.iff.2 ⟨dv,hS.pick r⟩
def bF.mono{H':a_}(hh:H.le H')(h:SL W (.ob (bF p cf kc H c)::l) w):SL W (.ob (bF p cf kc H' c)::l) w:=by
 obtain⟨dv,hS⟩:=bF.iff.1 h;have hS:=cD.jU hh hS Xr;have hS:=bW.jU hh hS Xr;exact bF.put c hS Xp
end
section
variable (p:iO) (cf:cX) (kc:cT) (H:a_) (c:bq)
def Qr(n:Int)(hn:0<=c.now/\c.now<=1125899906842624):SP 87 [bx p.np,Γ n] [.ob (bF p cf kc H c)] (bA (Γ (c.tick n).2) [.ob (bF p cf kc H (c.tick n).1)]):=by
 refine Enzz λW F w hS=>?_;apply bJw;delta aI bh bg bk ai;unfold bq.tick;refine bj (λh=>?_) (λh1=>?_)
 ·rw[zzc (.inl h)];(exact bw hS)
 refine bj (λh=>?_) (λh2=>?_)
 ·rw[zzc (.inr (by omega))];(exact bw hS)
 rw[zzb (by omega)];obtain⟨dv,hS⟩:=bF.open hS Xr;refine Gp ?_;refine Cg (ye p.ck [] c.now) λw hS=>?_;refine za (λh=>?_) (λh3=>?_)
 ·rw[zzc (by omega)];have hS:=bF.put c hS Xp;(exact bw hS)
 rw[zzb (by omega)];refine Gn λw hS=>?_;refine Cg (ye p.ck [] c.now) λw hS=>?_;refine Cc (bBt p.ck [] c.now (c.now+n) (by simp) (by simp)) ?_;clear hS;rintro v post ⟨D,_,_,rfl⟩ w hS;try simp only[app]at hS
 have e:max c.now (rC (c.now+n))=c.now+n:=by unfold rC;omega
 rw[e,List.filter_nil]at hS
 have hS:=bF.dI (s:=c.s) (k:=c.k) (m:=c.m) (dr:=c.dr) (q:=c.q) (pos:=c.pos) (due:=c.due) (last:=c.last) (cE:=c.cE) hS Xp;(exact bw hS)
def aWa(x:Int):SP 90 [bx p.np,Γ x] [.ob (bF p cf kc H c)] (bA (Γ (c.wa x).2) [.ob (bF p cf kc H (c.wa x).1)]):=by
 refine Enzz λW F w hS=>?_;apply bJz;delta aI bh ai;unfold bq.wa;refine bj (λh=>?_) (λh1=>?_)
 ·rw[zzc (.inl h)];(exact bw hS)
 refine bj (λh=>?_) (λh2=>?_)
 ·rw[zzc (.inr (by omega))];(exact bw hS)
 rw[zzb (by omega)];obtain⟨dv,hS⟩:=bF.open hS Xr;have hS:=cD.take hS Xr;refine Gp ?_;refine Cg (aIv p.w.dp c.s.k.d x) λw hS=>?_;have hS:=cD.u_ c.s (c.s.k.d.pC x) hS Xp;have hS:=bF.put {c with s:={c.s with k:={c.s.k with d:=c.s.k.d.pC x}}} hS Xp;(exact bw hS)
def Qk(x:Int)(hd:c.cE.length<=1024):SP 88 [bx p.np,Γ x] [.ob (bF p cf kc H c)] (bA (Γ (c.drawn x).2) [.ob (bF p cf kc H (c.drawn x).1)]):=by
 refine Enzz λW F w hS=>?_;apply bJx;delta aI aW bk ai;unfold bq.drawn;refine bj (λh=>?_) (λh1=>?_)
 ·rw[zzc (.inl h)];(exact bw hS)
 refine bj (λh=>?_) (λh2=>?_)
 ·rw[zzc (.inr (by omega))];(exact bw hS)
 rw[zzb (by omega)];obtain⟨dv,hS⟩:=bF.open hS Xr;refine Gp ?_;refine zO hS (v:=dv) Xh ?_;refine bj (λh=>?_) (λh3=>?_)
 ·rw[zzc (by omega)];have hS:=bF.put c hS Xp;(exact bw hS)
 rw[zzb (by omega)];refine Gm λb w hS=>?_;refine qM (t:=2) (n:=c.cE.length) (xs:=c.cE) (y:=x) (enc:=wq) hS Xr Xh (λ_=>rfl) (by simp[wq,Value.oneCell']) rfl rfl (by omega) (by omega) ?_;clear hS;intro nv w hS;have h1:=cz.one hS .hd;refine Gn λw hS=>?_;have hS:SL W (.pt p.np (uv p cf c.pos nv) 96::.ob (cz nv 2 1 (c.cE.length+1) ((c.cE++[x]).map wq).flatten)::.ob (cD p.w kc H c.s)::.ob (b8 p.sp p.tp p.w.dp p.sl c.k)::.ob (bW p.mp p.wi H c.m)::.pt p.sn (iV p.sp p.mp p.wi p.dg cf.chunk) 243::.ob (eH p.dg c.dr)::.ob (Ring p.rb kc.cap (c.q.map jZ))::.ob (gQ p.ck [] c.now)::jj p.bp cf.every c.due c.last::F) w:=aR hS;rw[show c.cE.length+1=(c.cE++[x]).length by simp]at hS
 have hS:=bF.put {c with cE:=c.cE++[x]} hS Xp;(exact bw hS)
end
section
variable (p:iO) (cf:cX) (kc:cT) (H:a_) (c:bq)
def Yx(v:gO)(t:bB)(hv:gn H v t)(hm:du t=true)(hr:c.s.L.length+c.s.out<kc.cap):SP 132 [bx p.np,agg (dD v)] [.ob (bF p cf kc H c),.mem H] (bA (Γ 0) [.ob (bF p cf kc H (c.put t)),.mem H]):=by
 refine Enzz λW F w hS=>?_;apply bC5;delta aI aW bk ai;refine zx hS λxb w hS=>?_;refine Gp ?_;refine Cc (YL H v t hv) ?_;clear hS;rintro r post hq w hS;unfold Bo at hq;rw[Rj hm]at hq
 obtain⟨bv,rfl,rfl⟩:=hq;try simp only[app]at hS
 obtain⟨dv,hS⟩:=bF.open hS Xr;obtain⟨ov,nv,hi,hS⟩:=cD.open hS Xr;refine Gp ?_;refine Υ ?_;refine Gn λw hS=>?_;obtain⟨a,ca,hb,_⟩:=bd.at hS (v:=bv) (t:=5) (sz:=1) (n:=(fr t).length) (cells:=(fr t).map bU) Xh;have gK:=jh hS (v:=bv) (t:=5) (sz:=1) Xh;refine Zd ⟨_,_,_,hb⟩ gK xxt yyz wwk ?_;refine Cg (bgi p.w.qp p.w.qb kc.cap c.s.out (c.s.L.map hU) (hU t) (by rw[zzv];exact hr)) λw hS=>?_;rw[show c.s.L.map hU++[hU t]=(c.s.L++[t]).map hU by simp]at hS
 have hS:=cD.dI (p:=p.w) (c:=kc) (H:=H) (k:=c.s.k) (L:=c.s.L++[t]) (out:=c.s.out) (fh:=c.s.fh) (eG:=c.s.eG) (held:=c.s.held) (n:=c.s.n) hS hi Xp;have hS:=bF.dI (p:=p) (cf:=cf) (k:=c.k) (m:=c.m) (dr:=c.dr) (q:=c.q) (pos:=c.pos) (due:=c.due) (last:=c.last) (cE:=c.cE) (now:=c.now) hS Xp;have hS:SL W (.ob (bF p cf kc H (c.put t))::_) w:=hS;(exact bw hS)
def aWo(hq:c.q=[]):SP 123 [bx p.np] [.ob (bF p cf kc H c)] (bA (.tuple #[agg (eb xD),.bool false]) [.ob (bF p cf kc H c)]):=by
 refine Enzz λW F w hS=>?_;apply XS;delta aW bk bJ ai bc;refine Gb λzb w hS=>?_;obtain⟨dv,hS⟩:=bF.open hS Xr;rw[hq,yy6]at hS
 refine Gp ?_;refine Cg (Wf p.rb kc.cap) λw hS=>?_;refine zw (λ_=>?_) (λh=>by cases h);refine Gn λw hS=>?_;rw[show ([]:Ψ)=c.q.map jZ by rw[hq];rfl]at hS
 have hS:=bF.put c hS Xp;(exact bw hS)
def Rt(t:bD)(q:List bD)(hq:c.q=t::q)(hm:c_ t=true):SP 123 [bx p.np] [.ob (bF p cf kc H c),.mem H] (λv post=>∃x H',H.le H'/\lE H' x t/\v= .tuple #[agg (eb x),.bool true]/\post=[.ob (bF p cf kc H' c),.mem H']):=by
 refine Enzz λW F w hS=>?_;apply XS;delta aW bk bJ ai bc;refine Gb λzb w hS=>?_;obtain⟨dv,hS⟩:=bF.open hS Xr;rw[hq,zzp]at hS
 refine Gp ?_;refine Cg (Wg p.rb kc.cap (jZ t) (q.map jZ)) λw hS=>?_;refine zw (λh=>by cases h) (λ_=>?_);rw[show jZ t::q.map jZ=c.q.map jZ by rw[hq];rfl]at hS
 have hS:=bF.put c hS Xp;refine Ye (bs:=fC t) hS yyz xxt wwk λbv w hS=>?_;refine Cc (QQ (.ob (bd bv 5 1 (fC t).length ((fC t).map bU))) H bv (fC t) cK.own) ?_;clear hS;rintro r post hd w hS;unfold Gs at hd;rw[Rk hm]at hd
 obtain⟨x,H',hh,rfl,hx,rfl⟩:=hd;try simp only[app]at hS
 have h1:∀v∈eb x,v.oneCell'=true:=Ab (aw:=x.aw) (kind:=x.kind) (mark:=x.mark) hx.cv.one hx.sv.one;refine Gm λb w hS=>?_;refine zr (vs:=eb x) hS Xu rfl rfl h1 λw hS=>?_;refine zz hS Xh rfl ?_;refine Gp ?_;refine zr (vs:=eb x) hS Xu rfl rfl h1 λw hS=>?_;refine zz hS Xh rfl ?_;have hS:=bF.mono hh (SL.bo hS (t:=.ob (bF p cf kc H c)::.mem H'::F) Xi);exact⟨_,⟨x,H',hh,hx,rfl,rfl⟩,aR hS⟩
end
def lE.FN{H:a_}{x:l_}{t:bD}(hx:lE H x t):∀v∈eb x,v.oneCell'=true:=Ab (aw:=x.aw) (kind:=x.kind) (mark:=x.mark) hx.cv.one hx.sv.one
def Bn(p:iO)(cf:cX)(kc:cT)(H:a_)(y:bq × pz)(v:Ε)(post:Β):Prop:=v= .tuple #[Γ y.2.il,Γ y.2.err]/\∃H',H.le H'/\post=[.ob (bF p cf kc H' y.1),.mem H']
section
variable (p:iO) (cf:cX) (kc:cT) (H:a_) (c:bq)
def Qn(t:bD)(hr:c.k.gA (c.pos+1)= .ok t)(hm:c_ t=true)(hq:c.q.length<kc.cap)(hp:0<=c.pos/\c.pos<=1099511627776){N:Nat}(hg:gX c.k.g N)(hN:N<=1000000000):SP 81 [bx p.np] [.ob (bF p cf kc H c),.mem H] (Bn p cf kc H ({c with q:=c.q++[t],pos:=c.pos+1},⟨0,0,1⟩)):=by
 refine Enzz λW F w hS=>?_;apply bJq;delta aI aW bg bk ai bc;refine⟨λus w=>∃(b:Nat) (x:l_) (H':a_),us=[bx b,Γ 0]/\H.le H'/\lE H' x t/\SL W (.pt b (eb x) 151::.ob (bF p cf kc H' c)::.mem H'::F) w,?_,?_⟩
 ·obtain⟨dv,hS⟩:=bF.open hS Xr;refine Gn λw hS=>?_;refine⟨?_,?_⟩
  ·refine Cc (Ze p.sp p.tp p.w.dp p.sl c.k hg hN H (c.pos+1) (by omega)) ?_;clear hS;rintro r post hq w hS;unfold BD at hq;rw[hr]at hq
   obtain⟨x,H',hh,rfl,hx,rfl⟩:=hq;refine Gm λb w hS=>?_;refine zr (vs:=eb x) hS Xu rfl rfl (hx.FN) λw hS=>?_;have hS:=bF.mono hh (bF.put c hS Xp);exact⟨_,x,H',rfl,hh,hx,aR hS⟩
  refine Gm λb w hS=>?_;refine Cc (Ze p.sp p.tp p.w.dp p.sl c.k hg hN H (c.pos+1) (by omega)) ?_;clear hS;rintro r post hq w hS;unfold BD at hq;rw[hr]at hq
  obtain⟨x,H',hh,rfl,hx,rfl⟩:=hq;(try simp only[app]at hS);refine Gp ?_
  refine zr (vs:=eb x) hS Xu rfl rfl (hx.FN) λw hS=>?_;have hS:=bF.mono hh (bF.put c hS Xp);exact⟨_,x,H',rfl,hh,hx,aR hS⟩
 clear hS;rintro v1 v2 w ⟨b,x,H',bM,hh,hx,hS⟩;cases bM;refine Gp ?_;refine Χ ?_;refine zz hS Xh rfl ?_;refine Cc (Z8 H' x t hx) ?_;clear hS;rintro r post ki w hS;unfold Bq at ki;rw[Rm hm]at ki
 obtain⟨bv,rfl,rfl⟩:=ki;try simp only[app]at hS
 obtain⟨dv,hS⟩:=bF.open hS Xr;refine Gp ?_;refine Χ ?_;refine Gn λw hS=>?_;obtain⟨a,ca,hb,_⟩:=bd.at hS (v:=bv) (t:=5) (sz:=1) (n:=(mN t).length) (cells:=(mN t).map bU) Xh;have gK:=jh hS (v:=bv) (t:=5) (sz:=1) Xh;refine Zd ⟨_,_,_,hb⟩ gK xxt yyz wwk ?_;refine Cc (YM p.rb kc.cap (c.q.map jZ) (cU (mN t))) ?_;clear hS;rintro v post ⟨rfl,rfl⟩ w hS;try simp only[app]at hS
 rw[zzc (by rw[zzv];exact hq),show c.q.map jZ++[cU (mN t)]=(c.q++[t]).map jZ by simp[jZ,fC]]at hS
 refine Gn λw hS=>?_;have hS:=bF.put {c with q:=c.q++[t],pos:=c.pos+1} hS Xp;exact⟨_,⟨rfl,H',hh,rfl⟩,aR hS⟩
def Qp(t:bD)(q:List bD)(m':cI)(x:bB)(hq:c.q=t::q)(hm:c_ t=true)(lN:0<c.j8 kc)(ud:c.m.take t=(m',(x,0)))(wT:du x=true)(rU:c.m.Ok)(hid : -9223372036854775808<=c.m.bz.id/\c.m.bz.id<=9223372036854775807):SP 82 [bx p.np] [.ob (bF p cf kc H c),.mem H] (Bn p cf kc H (({c with q:=q,m:=m'}:bq).Bf x,⟨0,0,2⟩)):=by
 refine Enzz λW F w hS=>?_;apply bJr;delta aI aW bg bk DW ai bc;refine Cc (Rt p cf kc H c t q hq hm) ?_;clear hS;rintro r post ⟨tx,H1,bX,hx,rfl,rfl⟩ w hS;refine Gm λb w hS=>?_;refine zr (vs:=eb tx) hS Xu rfl rfl hx.FN λw hS=>?_;obtain⟨dv,hS⟩:=bF.open hS Xr;rw[hq,zzp]at hS
 refine Gp ?_;refine Cg (Wj p.rb kc.cap (jZ t) (q.map jZ)) λw hS=>?_;refine⟨λus w=>∃(b:Nat) (y:gO) (H':a_),us=[bx b,Γ 0]/\H.le H'/\gn H' y x/\SL W (.pt b (dD y) 236::.ob (bF p cf kc H' {c with q:=q,m:=m'})::.mem H'::F) w,?_,?_⟩
 ·refine Gn λw hS=>?_;refine⟨?_,?_⟩
  ·refine Cc (Z6 p.mp p.wi H1 c.m rU tx t hx hid) ?_;clear hS;rintro r post ⟨y,H2,cF,rfl,hy,rfl⟩ w hS;rw[ud]at hy hS ⊢
   refine Gm λb w hS=>?_;refine zr (vs:=dD y) hS Xu rfl rfl (lK hy) λw hS=>?_;have hS:=cD.jU cF hS Xr;have hS:=bF.put {c with m:=m',q:=q} hS Xp;exact⟨_,y,H2,rfl,a_.le_trans bX cF,hy,aR hS⟩
  refine Gm λb w hS=>?_;refine Cc (Z6 p.mp p.wi H1 c.m rU tx t hx hid) ?_;clear hS;rintro r post ⟨y,H2,cF,rfl,hy,rfl⟩ w hS;rw[ud]at hy hS ⊢
  (try simp only[app]at hS);refine Gp ?_
  refine zr (vs:=dD y) hS Xu rfl rfl (lK hy) λw hS=>?_;have hS:=cD.jU cF hS Xr;have hS:=bF.put {c with m:=m',q:=q} hS Xp;exact⟨_,y,H2,rfl,a_.le_trans bX cF,hy,aR hS⟩
 clear hS;rintro v1 v2 w ⟨b,y,H',bM,hh,hy,hS⟩;cases bM;have tZ:=(nN.1 wT).1;refine Gp ?_;refine Υ ?_;refine Gp ?_;refine zn hy.ops ?_;refine Gp ?_;refine zn hy.g_ ?_;refine Gp ?_;unfold bq.Bf;refine za (λh=>?_) (λh=>?_)
 ·rw[zzc (by omega)];refine zz hS Xh rfl ?_;have bhm:c.s.L.length+c.s.out<kc.cap:=by unfold bq.j8 at lN;omega
  refine Cc (Yx p cf kc H' {c with q:=q,m:=m'} y x hy wT bhm) ?_;clear hS;rintro _ post ⟨rfl,rfl⟩ w hS;try simp only[app]at hS
  have hS:SL W (.ob (bF p cf kc H' ⟨{c.s with L:=c.s.L++[x]},c.k,m',c.dr,q,c.pos,c.due,c.last,c.cE,c.now⟩)::_) _:=hS;obtain⟨dv,hS⟩:=bF.open hS Xr;dsimp only at hS;refine Gn λw hS=>?_;refine Cg (Ym p.bp cf.every c.due c.last y.aw) λw hS=>?_;refine Χ ?_;rw[hy.aw]at hS
  have hS:=bF.put {c with s:={c.s with L:=c.s.L++[x]},m:=m',q:=q,last:=max c.last x.aw} hS Xp;exact⟨[.ob (bF p cf kc H' ⟨{c.s with L:=c.s.L++[x]},c.k,m',c.dr,q,c.pos,c.due,max c.last x.aw,c.cE,c.now⟩),.mem H'],⟨rfl,H',hh,rfl⟩,aR hS⟩
 rw[zzb (by omega)];refine Gp ?_;refine Χ ?_;exact⟨_,⟨rfl,H',hh,rfl⟩,aR hS⟩
def qo{bL f N m:Nat}(hI:oN kc bL c.s f)(hf:f<=1000000)(hk:Bw c.s.k N m)(hd:c.cE.length<=1024):SP 84 [bx p.np] [.ob (bF p cf kc H c),.mem H] (Bn p cf kc H (c.write kc)):=by
 refine Enzz λW F w hS=>?_;apply bJt;delta aI bh aW bg bk ai;refine⟨λus w=>us=[Γ c.draw]/\SL W (.ob (bF p cf kc H c)::.mem H::F) w,?_,?_⟩
 ·obtain⟨dv,hS⟩:=bF.open hS Xr;refine Gp ?_;refine zO hS (v:=dv) Xh ?_;refine bj (λh=>?_) (λh=>?_)
  ·have hx:c.cE[0]?=some c.draw:=by
    unfold bq.draw;cases hc:c.cE with
    | nil=>rw[hc]at h;simp at h
    | cons a l=>rfl
   refine Gp ?_;refine y3 (j:=0) (k:=.i64) hS (v:=dv) Xh (by omega) λab ao hb=>⟨_,Γ c.draw,rfl,hb 0 _ (by decide) (pM (enc:=wq) (n:=1) (λ_=>rfl) c.cE 0 0 c.draw (Γ c.draw) hx rfl),?_⟩;have hS:=bF.put c hS Xp;exact⟨rfl,aR hS⟩
  have hS:=bF.put c hS Xp;refine⟨?_,aR hS⟩;have:c.cE=[]:=yys.1 (by omega);unfold bq.draw;rw[this];rfl
 clear hS;rintro v1 w ⟨bM,hS⟩;cases bM;obtain⟨dv,hS⟩:=bF.open hS Xr;refine Gn λw hS=>?_;refine Cg (ye p.ck [] c.now) λw hS=>?_;refine Cc (bKr p.w kc H c.s c.now c.draw hI hf hk) ?_;clear hS;rintro _ post ⟨rfl,H',hh,rfl⟩ w hS;try simp only[app]at hS
 unfold bq.write;generalize c.s.step kc c.now c.draw=y at *
 obtain⟨s',il,err⟩:=y;dsimp only at hS ⊢;have hS:=bW.jU hh hS Xr;refine bj (λh=>?_) (λh=>?_)
 ·subst h;refine Gp ?_;refine zO hS (v:=dv) Xh ?_;refine bj (λh=>?_) (λh=>?_)
  ·refine Gp ?_;refine Yd (k:=1) (v:=dv) (Has.front hS Xr) (by omega) λu hS=>?_;rw[show (c.cE.map wq).flatten.drop (1*1)=(c.cE.tail.map wq).flatten by cases c.cE with|nil=>rfl|cons a l=>rfl,show c.cE.length-1=c.cE.tail.length by rw[List.length_tail]]at hS
   have h1:=cz.one hS .hd;refine Gn λw hS=>?_;have hS:=bF.put {c with s:=s',cE:=c.cE.tail} hS Xp;exact⟨[.ob (bF p cf kc H' ⟨s',c.k,c.m,c.dr,c.q,c.pos,c.due,c.last,c.cE.tail,c.now⟩),.mem H'],⟨rfl,H',hh,rfl⟩,aR hS⟩
  have e:c.cE.tail=c.cE:=by rw[yys.1 (show c.cE.length=0 by omega)];rfl
  rw[zzc rfl,e];have hS:=bF.put {c with s:=s'} hS Xp;exact⟨_,⟨rfl,H',hh,rfl⟩,aR hS⟩
 rw[zzb h];have hS:=bF.put {c with s:=s'} hS Xp;exact⟨_,⟨rfl,H',hh,rfl⟩,aR hS⟩
def Qq(he:1<=cf.every/\cf.every<=1073741824)(vv:c.due<=c.now/\(c.m.at_<=c.last\/0<c.j8 kc))(AF:c.s.L.length+c.s.out<=kc.cap)(hm:¬c.m.at_<=c.last->du ⟨c.m.at_,[],[]⟩=true):SP 85 [bx p.np] [.ob (bF p cf kc H c),.mem H] (Bn p cf kc H (c.tell cf)):=by
 refine Enzz λW F w hS=>?_;apply bJu;delta aI bg bk DX ai bc;have hr:c.due<=c.now/\(c.m.at_<=c.last\/0<((kc.cap-(c.s.L.map hU).length-c.s.out:Nat):Int)):=by
  rw[zzv];unfold bq.j8 at vv;omega
 obtain⟨y,x,il,s7,hy,CY,Im⟩:∃(y:gO) (x:bB) (il s7:Int),gn H y x/\(∀{v:Ε} {post:Β},(if c.m.at_<=c.last then v= .tuple #[agg (dD um),Γ 9]/\post=[jj p.bp cf.every (iM cf.every c.now) c.last] else v= .tuple #[agg (dD ⟨c.m.at_,Θ,Θ⟩),Γ 8]/\post=[jj p.bp cf.every (iM cf.every c.now) c.m.at_])->v= .tuple #[agg (dD y),Γ il]/\post=[jj p.bp cf.every (iM cf.every c.now) s7])/\((c.m.at_<=c.last/\il=9/\s7=c.last)\/(¬c.m.at_<=c.last/\il=8/\s7=c.m.at_/\x=⟨c.m.at_,[],[]⟩)):=by
  by_cases h:c.m.at_<=c.last
  ·exact⟨um,mX,9,c.last,⟨rfl,cn.nil _ _,cn.nil _ _⟩,λh2=>by rw[zzc h]at h2;exact h2,.inl ⟨h,rfl,rfl⟩⟩
  exact⟨⟨c.m.at_,Θ,Θ⟩,⟨c.m.at_,[],[]⟩,8,c.m.at_,⟨rfl,cn.nil _ _,cn.nil _ _⟩,λh2=>by rw[zzb h]at h2;exact h2,.inr ⟨h,rfl,rfl,rfl⟩⟩
 refine⟨λus w=>∃b:Nat,us=[bx b,Γ il]/\SL W (.pt b (dD y) 236::.ob (bF p cf kc H {c with due:=iM cf.every c.now,last:=s7})::.mem H::F) w,?_,?_⟩
 ·obtain⟨dv,hS⟩:=bF.open hS Xr;obtain⟨ov,nv,hi,hS⟩:=cD.open hS Xr;refine Gn λw hS=>?_;refine⟨?_,?_⟩
  ·refine Cg (ye p.ck [] c.now) λw hS=>?_;refine⟨?_,?_⟩
   ·refine Cg (yU p.mp p.wi H c.m) λw hS=>?_;refine⟨?_,?_⟩
    ·refine Cg (zK p.w.qp p.w.qb kc.cap c.s.out (c.s.L.map hU)) λw hS=>?_;refine⟨?_,?_⟩
     ·refine Cc (yo p.bp cf.every c.due c.last c.now c.m.at_ _ he hr) ?_;clear hS;rintro _ post eN w hS;obtain⟨rfl,rfl⟩:=CY eN;refine Gm λb w hS=>?_;refine zr (vs:=dD y) hS Xu rfl rfl (lK hy) λw hS=>?_;have hS:=cD.put c.s hS hi Xp;have hS:=bF.put {c with due:=iM cf.every c.now,last:=s7} hS Xp;exact⟨_,rfl,aR hS⟩
     refine Gm λb w hS=>?_;refine Cc (yo p.bp cf.every c.due c.last c.now c.m.at_ _ he hr) ?_;clear hS;rintro _ post eN w hS;obtain⟨rfl,rfl⟩:=CY eN;(try simp only[app]at hS);refine Gp ?_
     refine zr (vs:=dD y) hS Xu rfl rfl (lK hy) λw hS=>?_;have hS:=cD.put c.s hS hi Xp;have hS:=bF.put {c with due:=iM cf.every c.now,last:=s7} hS Xp;exact⟨_,rfl,aR hS⟩
    refine Gm λb w hS=>?_;refine Cg (zK p.w.qp p.w.qb kc.cap c.s.out (c.s.L.map hU)) λw hS=>?_;refine Cc (yo p.bp cf.every c.due c.last c.now c.m.at_ _ he hr) ?_;clear hS;rintro _ post eN w hS;obtain⟨rfl,rfl⟩:=CY eN;(try simp only[app]at hS);refine Gp ?_
    refine zr (vs:=dD y) hS Xu rfl rfl (lK hy) λw hS=>?_;have hS:=cD.put c.s hS hi Xp;have hS:=bF.put {c with due:=iM cf.every c.now,last:=s7} hS Xp;exact⟨_,rfl,aR hS⟩
   refine Gm λb w hS=>?_;refine Cg (yU p.mp p.wi H c.m) λw hS=>?_;refine Cg (zK p.w.qp p.w.qb kc.cap c.s.out (c.s.L.map hU)) λw hS=>?_;refine Cc (yo p.bp cf.every c.due c.last c.now c.m.at_ _ he hr) ?_;clear hS;rintro _ post eN w hS;obtain⟨rfl,rfl⟩:=CY eN;(try simp only[app]at hS);refine Gp ?_
   refine zr (vs:=dD y) hS Xu rfl rfl (lK hy) λw hS=>?_;have hS:=cD.put c.s hS hi Xp;have hS:=bF.put {c with due:=iM cf.every c.now,last:=s7} hS Xp;exact⟨_,rfl,aR hS⟩
  refine Gm λb w hS=>?_;refine Cg (ye p.ck [] c.now) λw hS=>?_;refine Cg (yU p.mp p.wi H c.m) λw hS=>?_;refine Cg (zK p.w.qp p.w.qb kc.cap c.s.out (c.s.L.map hU)) λw hS=>?_;refine Cc (yo p.bp cf.every c.due c.last c.now c.m.at_ _ he hr) ?_;clear hS;rintro _ post eN w hS;obtain⟨rfl,rfl⟩:=CY eN;(try simp only[app]at hS);refine Gp ?_
  refine zr (vs:=dD y) hS Xu rfl rfl (lK hy) λw hS=>?_;have hS:=cD.put c.s hS hi Xp;have hS:=bF.put {c with due:=iM cf.every c.now,last:=s7} hS Xp;exact⟨_,rfl,aR hS⟩
 clear hS;rintro v1 v2 w ⟨b,bM,hS⟩;cases bM;unfold bq.tell;refine Gp ?_;rcases Im with ⟨h1,rfl,rfl⟩|⟨h1,rfl,rfl,rfl⟩
 ·refine Υ ?_;rw[zzc h1];exact⟨_,⟨rfl,H,a_.le_refl H,rfl⟩,aR hS⟩
 refine Χ ?_;rw[zzb h1];refine zz hS Xh rfl ?_;have bj7:c.s.L.length+c.s.out<kc.cap:=by unfold bq.j8 at vv;omega
 refine Cg (Yx p cf kc H {c with due:=iM cf.every c.now,last:=c.m.at_} y ⟨c.m.at_,[],[]⟩ hy (hm h1) bj7) λw hS=>?_;refine Χ ?_;exact⟨[.ob (bF p cf kc H (bq.put {c with due:=iM cf.every c.now,last:=c.m.at_} ⟨c.m.at_,[],[]⟩)),.mem H],⟨rfl,H,a_.le_refl H,rfl⟩,aR hS⟩
end
def K4(p:iO)(cf:cX)(kc:cT)(H:a_)(y:bq × Int)(v:Ε)(post:Β):Prop:=v= Γ y.2/\∃H',H.le H'/\post=[.ob (bF p cf kc H' y.1),.mem H']
section
variable (p:iO) (cf:cX) (kc:cT) (H:a_) (c:bq)
def qh(f:eK)(dm:c.s.k.plan.length<=1024):SP 86 [bx p.np,agg (eY f)] [.ob (bF p cf kc H c),.mem H] (K4 p cf kc H (c.fault f)):=by
 refine Enzz λW F w hS=>?_;apply bJv;delta aI bg bk bJ ai;refine zx hS λxb w hS=>?_;refine Gp ?_;refine Cg (Zu f) λw hS=>?_;unfold bq.fault;refine zw (λh=>?_) (λh=>?_)
 ·rw[zzc h];exact⟨_,⟨rfl,H,a_.le_refl H,rfl⟩,aR hS⟩
 rw[zzb (by rw[h];decide)];obtain⟨dv,hS⟩:=bF.open hS Xr;obtain⟨ov,nv,hi,hS⟩:=cD.open hS Xr;refine Gn λw hS=>?_;refine⟨?_,?_⟩
 ·refine Cg (Z5 p.w.kp p.w.gp p.w.dp p.w.lp p.w.pp H c.s.k) λw hS=>?_;refine Gm λb w hS=>?_;have hS:=bd.full (t:=41) (n:=1) (sz:=2) rfl hS;obtain⟨H1,bX,hv,hS⟩:=zA (H:=H) (v:=.slice (some ⟨b,0,none⟩) 1 1) hS Xp;have hv:cn H1 2 (.slice (some ⟨b,0,none⟩) 1 1) [f].length ([f].map eY).flatten:=hv;have hS:=b5.jU bX hS Xr;have hS:=bW.jU bX hS Xr;have sX:=hi.mono bX;obtain⟨rv,hr,hS⟩:=b5.open hS Xr;refine Cc (Z1 H1 p.w.pp c.s.k.plan [f] (.slice (some ⟨b,0,none⟩) 1 1) hv (by simp) dm) ?_;clear hS;rintro _ post ⟨rfl,rfl⟩ w hS;try simp only[app]at hS
  rw[Dk];rw[Dk]at hS
  by_cases hl:1024<=c.s.k.plan.length
  ·rw[zzb (λh=>by omega)];rw[zzb (λh=>by omega)]at hS
   rw[zzc hl];refine Gp ?_;refine Υ ?_;have hS:=b5.dI (g:=c.s.k.g) (d:=c.s.k.d) (ts:=c.s.k.ts) (plan:=c.s.k.plan) (aw:=c.s.k.aw) (reqs:=c.s.k.reqs) hS hr Xp;have hS:=cD.dI (p:=p.w) (c:=kc) (k:=c.s.k) (L:=c.s.L) (held:=c.s.held) (n:=c.s.n) hS sX Xp;have hS:=bF.dI (p:=p) (cf:=cf) (kc:=kc) (H:=H1) (s:=c.s) (k:=c.k) (m:=c.m) (dr:=c.dr) (q:=c.q) (pos:=c.pos) (due:=c.due) (last:=c.last) (cE:=c.cE) (now:=c.now) hS Xp;exact⟨[.ob (bF p cf kc H1 c),.mem H1],⟨rfl,H1,bX,rfl⟩,aR hS⟩
  rw[zzc ⟨h,by omega⟩];rw[zzc ⟨h,by omega⟩]at hS
  rw[zzb hl,zza,yyb];refine Gp ?_;refine Χ ?_;have hS:=b5.dI (g:=c.s.k.g) (d:=c.s.k.d) (ts:=c.s.k.ts) (plan:=c.s.k.plan++[f]) (aw:=c.s.k.aw) (reqs:=c.s.k.reqs) hS hr Xp;have hS:=cD.dI (p:=p.w) (c:=kc) (k:={c.s.k with plan:=c.s.k.plan++[f]}) (L:=c.s.L) (held:=c.s.held) (n:=c.s.n) hS sX Xp;have hS:=bF.put {c with s:={c.s with k:={c.s.k with plan:=c.s.k.plan++[f]}}} hS Xp;exact⟨[.ob (bF p cf kc H1 {c with s:={c.s with k:={c.s.k with plan:=c.s.k.plan++[f]}}}),.mem H1],⟨rfl,H1,bX,rfl⟩,aR hS⟩
 refine Gm λb w hS=>?_;have hS:=bd.full (t:=41) (n:=1) (sz:=2) rfl hS;obtain⟨H1,bX,hv,hS⟩:=zA (H:=H) (v:=.slice (some ⟨b,0,none⟩) 1 1) hS Xp;have hv:cn H1 2 (.slice (some ⟨b,0,none⟩) 1 1) [f].length ([f].map eY).flatten:=hv;have hS:=b5.jU bX hS Xr;have hS:=bW.jU bX hS Xr;have sX:=hi.mono bX;refine Cg (Z5 p.w.kp p.w.gp p.w.dp p.w.lp p.w.pp H1 c.s.k) λw hS=>?_;obtain⟨rv,hr,hS⟩:=b5.open hS Xr;refine Cc (Z1 H1 p.w.pp c.s.k.plan [f] (.slice (some ⟨b,0,none⟩) 1 1) hv (by simp) dm) ?_;clear hS;rintro _ post ⟨rfl,rfl⟩ w hS;try simp only[app]at hS
 rw[Dk];rw[Dk]at hS
 by_cases hl:1024<=c.s.k.plan.length
 ·rw[zzb (λh=>by omega)];rw[zzb (λh=>by omega)]at hS
  rw[zzc hl];refine Gp ?_;refine Υ ?_;have hS:=b5.dI (g:=c.s.k.g) (d:=c.s.k.d) (ts:=c.s.k.ts) (plan:=c.s.k.plan) (aw:=c.s.k.aw) (reqs:=c.s.k.reqs) hS hr Xp;have hS:=cD.dI (p:=p.w) (c:=kc) (k:=c.s.k) (L:=c.s.L) (held:=c.s.held) (n:=c.s.n) hS sX Xp;have hS:=bF.dI (p:=p) (cf:=cf) (kc:=kc) (H:=H1) (s:=c.s) (k:=c.k) (m:=c.m) (dr:=c.dr) (q:=c.q) (pos:=c.pos) (due:=c.due) (last:=c.last) (cE:=c.cE) (now:=c.now) hS Xp;exact⟨[.ob (bF p cf kc H1 c),.mem H1],⟨rfl,H1,bX,rfl⟩,aR hS⟩
 rw[zzc ⟨h,by omega⟩];rw[zzc ⟨h,by omega⟩]at hS
 rw[zzb hl,zza,yyb];refine Gp ?_;refine Χ ?_;have hS:=b5.dI (g:=c.s.k.g) (d:=c.s.k.d) (ts:=c.s.k.ts) (plan:=c.s.k.plan++[f]) (aw:=c.s.k.aw) (reqs:=c.s.k.reqs) hS hr Xp;have hS:=cD.dI (p:=p.w) (c:=kc) (k:={c.s.k with plan:=c.s.k.plan++[f]}) (L:=c.s.L) (held:=c.s.held) (n:=c.s.n) hS sX Xp;have hS:=bF.put {c with s:={c.s with k:={c.s.k with plan:=c.s.k.plan++[f]}}} hS Xp;exact⟨[.ob (bF p cf kc H1 {c with s:={c.s with k:={c.s.k with plan:=c.s.k.plan++[f]}}}),.mem H1],⟨rfl,H1,bX,rfl⟩,aR hS⟩
def Gq(p:iO)(cf:cX)(kc:cT)(H:a_)(c:bq)(u:Ε)(v:Ε)(post:Β):Prop:=v=u/\∃H',H.le H'/\post=[.ob (bF p cf kc H' c),.mem H']
def aWj(comp:Int)(hm:∀t∈c.q,c_ t=true)(mq:c.m.reqs.length<=1000){N:Nat}(hg:gX c.k.g N)(hN:N<=1000000000)(AF:c.s.L.length+c.s.out<=kc.cap):SP 80 [bx p.np,Γ comp] [.ob (bF p cf kc H c),.mem H] (Gq p cf kc H c (.bool (c.en kc comp))):=by
 refine Enzz λW F w hS=>?_;apply bJp;delta aI bh aW bg bk br ai bc;obtain⟨dv,hS⟩:=bF.open hS Xr;have hS:=cD.take hS Xr;refine Gp ?_;refine Cg (zH p.w.dp c.s.k.d) λw hS=>?_;have hS:=cD.u_ c.s c.s.k.d hS Xp;have hS:SL W (.ob (cD p.w kc H c.s)::_) _:=hS;have hS:=bF.put c hS Xp;unfold bq.en;refine yJ (λho=>?_) (λho=>?_)
 ·rw[zzc ho];exact⟨_,⟨rfl,H,a_.le_refl H,rfl⟩,aR hS⟩
 rw[zzb (by rw[ho];decide)];refine bj (λh0=>?_) (λh0=>?_)
 ·rw[zzc h0];obtain⟨dv,hS⟩:=bF.open hS Xr;refine Gn λw hS=>?_;refine Cg (zN p.sp p.tp p.w.dp p.sl c.k hg hN) λw hS=>?_;refine za (λh1=>?_) (λh1=>?_)
  ·refine Gp ?_;refine Cg (yT p.rb kc.cap (c.q.map jZ)) λw hS=>?_;refine Cg (qf p.rb kc.cap (c.q.map jZ)) λw hS=>?_;have hS:=bF.put c hS Xp;refine⟨_,⟨?_,H,a_.le_refl H,rfl⟩,aR hS⟩;rw[zzv];congr 1;rw[yye];unfold bq.head;omega
  have hS:=bF.put c hS Xp;refine⟨_,⟨?_,H,a_.le_refl H,rfl⟩,aR hS⟩;congr 1;symm;rw[xxr];unfold bq.head;omega
 rw[zzb h0];refine bj (λh1=>?_) (λh1=>?_)
 ·rw[zzc h1];cases hq:c.q with
  | nil=>
   refine Cg (aWo p cf kc H c hq) λw hS=>?_;refine Gm λb w hS=>?_;exact⟨_,⟨rfl,H,a_.le_refl H,rfl⟩,aR hS⟩
  | cons t q=>
   refine Cc (Rt p cf kc H c t q hq (hm t (by rw[hq];exact .head _))) ?_;clear hS;rintro _ post ⟨x,H1,bX,hx,rfl,rfl⟩ w hS;refine Gm λb w hS=>?_;refine zr (vs:=eb x) hS Xu rfl rfl hx.FN λw hS=>?_;obtain⟨dv,hS⟩:=bF.open hS Xr;obtain⟨ov,nv,hi,hS⟩:=cD.open hS Xr;refine Gn λw hS=>?_;refine Cg (zK p.w.qp p.w.qb kc.cap c.s.out (c.s.L.map hU)) λw hS=>?_;rw[zzv];refine za (λh2=>?_) (λh2=>?_)
   ·have hS:=cD.put c.s hS hi Xp;obtain⟨rv,hr,hS⟩:=bW.iff.1 (SL.bo hS (t:=.ob (bW p.mp p.wi H1 c.m)::.ob (cD p.w kc H1 c.s)::.pt p.np (uv p cf c.pos dv) 96::uI dv c.cE::.ob (b8 p.sp p.tp p.w.dp p.sl c.k)::.pt p.sn (iV p.sp p.mp p.wi p.dg cf.chunk) 243::.ob (eH p.dg c.dr)::.ob (Ring p.rb kc.cap (c.q.map jZ))::.ob (gQ p.ck [] c.now)::jj p.bp cf.every c.due c.last::.pt b (eb x) 151::.mem H1::F) Xi);refine Gp ?_;refine yh (vs:=[bx p.wi]) hS Xh rfl (λj v h=>?_) ?_
    ·match j,h with
     | 0,h=>exact h
     | j+1,h=>simp at h
    refine zz hS Xh rfl ?_;refine Cg (ZI p.wi c.m.bz x) λw hS=>?_;have hS:=bW.put c.m rv hr hS Xp;have hS:=bF.put c hS Xp;refine⟨_,⟨?_,H1,bX,rfl⟩,aR hS⟩;dsimp only;rw[hx.kind,hx.mark,zzm (show 0<c.j8 kc by unfold bq.j8;omega),uuh]
   have hS:=cD.put c.s hS hi Xp;have hS:=bF.put c hS Xp;refine⟨_,⟨?_,H1,bX,rfl⟩,aR hS⟩;rw[zzx (by unfold bq.j8;omega)];rfl
 rw[zzb h1];refine bj (λh2=>?_) (λh2=>?_)
 ·rw[zzc h2];obtain⟨dv,hS⟩:=bF.open hS Xr;refine Gp ?_;refine Cg (Zp p.sp p.mp p.wi p.sn p.dg cf.chunk H c.m mq) λw hS=>?_;have hS:=bF.put c hS Xp;exact⟨_,⟨rfl,H,a_.le_refl H,rfl⟩,aR hS⟩
 rw[zzb h2];refine bj (λh3=>?_) (λh3=>?_)
 ·rw[zzc h3];obtain⟨dv,hS⟩:=bF.open hS Xr;refine Gn λw hS=>?_;refine Cg (ye p.ck [] c.now) λw hS=>?_;refine Cg (ZQ p.w kc H c.s c.now) λw hS=>?_;have hS:=bF.put c hS Xp;exact⟨_,⟨rfl,H,a_.le_refl H,rfl⟩,aR hS⟩
 rw[zzb h3];refine bj (λh4=>?_) (λh4=>?_)
 ·rw[zzc h4];obtain⟨dv,hS⟩:=bF.open hS Xr;obtain⟨ov,nv,hi,hS⟩:=cD.open hS Xr;refine Gn λw hS=>?_;refine Cg (ye p.ck [] c.now) λw hS=>?_;refine Cg (yU p.mp p.wi H c.m) λw hS=>?_;refine Cg (zK p.w.qp p.w.qb kc.cap c.s.out (c.s.L.map hU)) λw hS=>?_;refine Cg (Zh p.bp cf.every c.due c.last c.now c.m.at_ _) λw hS=>?_;have hS:=cD.put c.s hS hi Xp;have hS:=bF.put c hS Xp;refine⟨_,⟨?_,H,a_.le_refl H,rfl⟩,aR hS⟩;rw[zzv];congr 1;rw[yye];unfold bq.j8;omega
 rw[zzb h4];exact⟨_,⟨rfl,H,a_.le_refl H,rfl⟩,aR hS⟩
end
def eD.Good.AY{p:eD}{N:Nat}(h:p.Good N)(hN:N<=900000000):p.Ok:=
 ⟨⟨h.reqs,h.t1,by have:=h.rows;omega,h.lF⟩,h.d,h.d.len,⟨N,h.src,hN⟩,h.n,h.row.1,by have:=h.wid;omega⟩
def xK.okM{n:Nat}{ch:Int}{m:cI}(h:xK n ch m)(n1:1<=n)(n8:n<=8):m.Ok:=by
 have ht:=h.mA;have hl:=h.bz.len;exact⟨h.may,⟨by omega,by omega⟩,by omega,⟨h.lF,h.oQ⟩⟩
def br6(cf:cX)(kc:cT)(c:bq)(comp:Int):(c.pick cf kc comp).2.aw=0:=by
 unfold bq.pick;split
 ·rfl
 split
 ·rfl
 split
 ·unfold bq.read;split<;>rfl
 split
 ·unfold bq.take;split<;>rfl
 split
 ·rfl
 split
 ·rfl
 unfold bq.tell;split<;>rfl
def bz5(p:eD):p.step.1.n=p.n:=by
 unfold eD.step eD.C9 eD.vz eD.Cy;dsimp only;split
 ·rfl
 split
 ·split
  ·rfl
  unfold eD.C';split<;>rfl
 split
 ·rfl
 split<;>rfl
def jL.mono{W w:Ζ}{l:Β}{p:sE}{c:cT}{H H':a_}{s:ed}(hh:H.le H')(h:SL W (.ob (jL p c H s)::l) w):SL W (.ob (jL p c H' s)::l) w:=by
 unfold jL at *
 simp only[SL.ex,SL.fact,zzn,zzo]at *
 obtain⟨x,⟨hi,hr⟩,h⟩:=h;exact⟨x,⟨hi.mono hh,hr.mono hh⟩,h⟩
def jL.jU{W w:Ζ}{l F:Β}{p:sE}{c:cT}{H H':a_}{s:ed}(hh:H.le H')(hS:SL W l w)(r:eW (.ob (jL p c H s)) l F):SL W (.ob (jL p c H' s)::F) w:=jL.mono hh (hS.perm r.perm)
section
variable (p:iO) (cf:cX) (kc:cT) (H:a_) (c:bq)
def Qm{n j:Nat}{AL:List bD}(h:dJ cf kc n j AL c)(hc:CC cf kc n)(hj:j<=190)(comp:Int):SP 41 [bx p.np,Γ comp] [.ob (bF p cf kc H c),.mem H] (Bn p cf kc H (c.pick cf kc comp)):=by
 refine Enzz λW F w hS=>?_;apply bIk;delta aI aW bk bJ xS ai;have hn:=hc.n1;have E9:=hc.n8;have h':=h;obtain⟨tr,xs,hd,RS,RK,hb,ha⟩:=h';have wU:=vD j;have rU:=hb.mx.okM hn E9;have AF:=ha.jW.room;unfold bq.pick;refine bj (λh0=>?_) (λh0=>?_)
 ·rw[zzc (.inl h0)];exact⟨_,⟨rfl,H,a_.le_refl H,rfl⟩,aR hS⟩
 refine bj (λh1=>?_) (λh1=>?_)
 ·rw[zzc (.inr (by omega))];exact⟨_,⟨rfl,H,a_.le_refl H,rfl⟩,aR hS⟩
 rw[zzb (by omega)];refine Cc (aWj p cf kc H c comp hb.q (by have:=rU.reqs.1;omega) hb.sg (by omega) (by omega)) ?_;clear hS;rintro _ post ⟨rfl,H1,bX,rfl⟩ w hS;(try simp only[app]at hS);refine Gp ?_
 refine zw (λhe=>?_) (λhe=>?_)
 ·rw[zzc he];exact⟨_,⟨rfl,H1,bX,rfl⟩,aR hS⟩
 rw[zzb (by rw[he];decide)];refine bj (λh2=>?_) (λh2=>?_)
 ·rw[zzc h2];subst h2;obtain⟨t,e1,e2,e3,_⟩:=h.read he;have hq:c.q.length<kc.cap:=by
   have ho:=y' he;unfold bq.en at he;rw[zzb (by rw[ho];decide),zzc rfl,zz1]at he
   exact he.2
  rw[e3];refine Cc (Qn p cf kc H1 c t e1 e2 hq hb.pos hb.sg (by omega)) ?_;clear hS;rintro _ post ⟨rfl,H2,cF,rfl⟩ w hS;(try simp only[app]at hS);refine Gp ?_
  exact⟨_,⟨rfl,H2,a_.le_trans bX cF,rfl⟩,aR hS⟩
 rw[zzb h2];refine bj (λh3=>?_) (λh3=>?_)
 ·rw[zzc h3];subst h3;obtain⟨t,q,m',x,e1,e2,e3,e4,e5,e6,e7,_⟩:=h.take hc he;rw[e7];refine Cc (Qp p cf kc H1 c t q m' x e1 e2 e3 e4 e5 rU (by have:=hb.mx.bz.id;omega)) ?_;clear hS;rintro _ post ⟨rfl,H2,cF,rfl⟩ w hS;(try simp only[app]at hS);refine Gp ?_
  exact⟨_,⟨rfl,H2,a_.le_trans bX cF,rfl⟩,aR hS⟩
 rw[zzb h3];refine bj (λh4=>?_) (λh4=>?_)
 ·rw[zzc h4];obtain⟨dv,hS⟩:=bF.open hS Xr;have hS:=cD.take hS Xr;refine Gp ?_;have cZ:=hb.ops;have hS:SL W (.ob (bm p.w.dp (c.kR cf).k.d)::.ob (jL p.w kc H1 c.s)::.pt p.np (uv p cf c.pos dv) 96::uI dv c.cE::.ob (b8 p.sp p.tp p.w.dp p.sl (c.kR cf).k)::.ob (bW p.mp p.wi H1 (c.kR cf).m)::.pt p.sn (iV p.sp p.mp p.wi p.dg (c.kR cf).n) 243::.ob (eH p.dg (c.kR cf).d)::.ob (Ring p.rb kc.cap (c.q.map jZ))::.ob (gQ p.ck [] c.now)::jj p.bp cf.every c.due c.last::.mem H1::F) w:=hS;refine Cc (qT p.sp p.tp p.w.dp p.sl p.mp p.wi p.sn p.dg H1 (c.kR cf) ((hb.S0 hc).AY (by omega)) (by show c.s.k.d.ops<=90000;omega)) ?_;clear hS;rintro _ post ⟨H2,cF,rfl,rfl⟩ w hS;try simp only[app]at hS
  have AO:=bz5 (c.kR cf);have CX:c.snap cf=(c.Ga (c.kR cf).step.1,⟨(c.kR cf).step.2.2,0,(c.kR cf).step.2.1⟩):=rfl;rw[CX];generalize (c.kR cf).step=y at *
  obtain⟨⟨yk,ym,yd,yn⟩,il,err⟩:=y;dsimp only at hS AO ⊢;have AO:yn=cf.chunk:=AO;subst AO;have hS:=jL.jU cF hS Xr;have hS:=cD.u_ c.s yk.d hS Xp;refine Gp ?_;have hS:=bF.put {c with s:={c.s with k:={c.s.k with d:=yk.d}},k:=yk,m:=ym,dr:=yd} hS Xp;have hS:SL W (.ob (bF p cf kc H2 (c.Ga ⟨yk,ym,yd,cf.chunk⟩))::.mem H2::F) w:=hS;exact⟨[.ob (bF p cf kc H2 (c.Ga ⟨yk,ym,yd,cf.chunk⟩)),.mem H2],⟨rfl,H2,a_.le_trans bX cF,rfl⟩,aR hS⟩
 rw[zzb h4];refine bj (λh5=>?_) (λh5=>?_)
 ·rw[zzc h5];refine Cc (qo p cf kc H1 c hb.wt (by omega) (hb.kok hj E9) hb.dl) ?_;clear hS;rintro _ post ⟨rfl,H2,cF,rfl⟩ w hS;(try simp only[app]at hS);refine Gp ?_
  exact⟨_,⟨rfl,H2,a_.le_trans bX cF,rfl⟩,aR hS⟩
 rw[zzb h5];have h6:comp=4:=by omega
 subst h6;obtain⟨_,Im⟩:=h.tell hc he;have vv:c.due<=c.now/\(c.m.at_<=c.last\/0<c.j8 kc):=by
  have ho:=y' he;unfold bq.en at he;rw[zzb (by rw[ho];decide),zzb (by decide),zzb (by decide),zzb (by decide),zzb (by decide),zzc rfl,zz1]at he
  exact he
 refine Cc (Qq p cf kc H1 c ⟨hc.e1,hc.e2⟩ vv (by omega) (λhl=>by rcases Im with ⟨hh,_⟩|⟨_,_,hh,_⟩;exact absurd hh hl;exact hh)) ?_;clear hS;rintro _ post ⟨rfl,H2,cF,rfl⟩ w hS;(try simp only[app]at hS);refine Gp ?_
 exact⟨_,⟨rfl,H2,a_.le_trans bX cF,rfl⟩,aR hS⟩
def a_f{n j:Nat}{AL:List bD}(h:dJ cf kc n j AL c)(hc:CC cf kc n)(hj:j<=190)(x:gr)(s:cx)(hx:gH H x s)(hk:s.kind≠8):SP 42 [bx p.np,agg (dF x)] [.ob (bF p cf kc H c),.mem H] (K4 p cf kc H (c.other cf s)):=by
 refine Enzz λW F w hS=>?_;apply XZ;delta aI bh aW bg bk ai;refine zx hS λxb w hS=>?_;obtain⟨tr,xs,hd,RS,RK,hb,ha⟩:=h;have wU:=vD j;have lQ:=hx.kind;have nK:=hx.n;have Jb:=hx.ft;unfold dF at hS;rw[lQ,nK,Jb]at hS
 unfold bq.other;refine bj (λh3=>?_) (λh3=>?_)
 ·rw[zzc h3];refine Gp ?_;refine yh (vs:=eY s.ft) hS Xh rfl (λj v h=>?_) ?_
  ·match j,h with
   | 0,h=>exact h
   | 1,h=>exact h
   | j+2,h=>simp[eY]at h
  refine Cc (qh p cf kc H c s.ft hb.pl) ?_;clear hS;rintro _ post ⟨rfl,H1,bX,rfl⟩ w hS;try simp only[app]at hS
  exact⟨_,⟨rfl,H1,bX,rfl⟩,aR hS⟩
 rw[zzb h3];refine bj (λh4=>?_) (λh4=>?_)
 ·rw[zzc h4];refine Gp ?_;refine Cc (Qr p cf kc H c s.n hb.now) ?_;clear hS;rintro _ post ⟨rfl,rfl⟩ w hS;try simp only[app]at hS
  exact⟨_,⟨rfl,H,a_.le_refl H,rfl⟩,aR hS⟩
 rw[zzb h4];refine bj (λh5=>?_) (λh5=>?_)
 ·rw[zzc h5];refine Gp ?_;refine Cc (Qk p cf kc H c s.n hb.dl) ?_;clear hS;rintro _ post ⟨rfl,rfl⟩ w hS;try simp only[app]at hS
  exact⟨_,⟨rfl,H,a_.le_refl H,rfl⟩,aR hS⟩
 rw[zzb h5];refine bj (λh6=>?_) (λh6=>?_)
 ·rw[zzc h6];obtain⟨dv,hS⟩:=bF.open hS Xr;obtain⟨ov,nv,hi,hS⟩:=cD.open hS Xr;refine Gn λw hS=>?_;refine Cg (yH p.w.kp p.w.gp p.w.dp p.w.lp p.w.pp H c.s.k) λw hS=>?_;have hS:=cD.put c.s hS hi Xp;have hS:=cD.take hS Xr;have hS:SL W (.ob (bm p.w.dp c.src.d)::.ob (jL p.w kc H c.s)::.pt p.np (uv p cf c.pos dv) 96::uI dv c.cE::.ob (b8 p.sp p.tp p.w.dp p.sl c.src)::_) w:=hS;have cZ:=hb.ops;have oZ:=hb.al;have CW:c.src.g.bf.length<=AL.length+1:=by
   obtain⟨I,d0,f,lo,m,hL⟩:=ha.kv.live;exact hL.bf
  refine Cc (Q8 p.sp p.tp p.w.dp p.sl c.src H c.s.k.aw (hb.Dv hc.n1 hc.n8) (by omega) (by show c.s.k.d.ops+_<=90000;omega)) ?_;clear hS;rintro _ post ⟨rfl,H1,bX,rfl⟩ w hS;try simp only[app]at hS
  have ui:c.trim=(c.jg (c.src.gB c.s.k.aw).1,(c.src.gB c.s.k.aw).2):=rfl;rw[ui];generalize c.src.gB c.s.k.aw=y at *
  obtain⟨k',e⟩:=y;dsimp only at hS ⊢;have hS:=jL.jU bX hS Xr;have hS:=bW.jU bX hS Xr;have hS:=cD.u_ c.s k'.d hS Xp;have hS:=bF.put {c with s:={c.s with k:={c.s.k with d:=k'.d}},k:=k'} hS Xp;have hS:SL W (.ob (bF p cf kc H1 (c.jg k'))::_) w:=hS;exact⟨[.ob (bF p cf kc H1 (c.jg k')),.mem H1],⟨rfl,H1,bX,rfl⟩,aR hS⟩
 rw[zzb h6];refine bj (λh7=>?_) (λh7=>?_)
 ·rw[zzc h7];refine Gp ?_;refine Cc (aWa p cf kc H c s.n) ?_;clear hS;rintro _ post ⟨rfl,rfl⟩ w hS;try simp only[app]at hS
  exact⟨_,⟨rfl,H,a_.le_refl H,rfl⟩,aR hS⟩
 rw[zzb h7];refine Gp ?_;refine za (λh8=>absurd h8 hk) (λh8=>?_);rw[zzb h8];exact⟨_,⟨rfl,H,a_.le_refl H,rfl⟩,aR hS⟩
def aWe{n j:Nat}{AL:List bD}(h:CS cf kc n j AL c)(hc:CC cf kc n)(hj:j<=190)(H2:a_)(x:gr)(s:cx)(hx:gH H2 x s)(hl:s.l.length<=140737488351232)(hk:s.kind=1):SP 18 [bx p.np,agg (dF x)] [.ob (bF p cf kc H c),.mem H2] (bA (agg (Aa (c.fM cf kc s).2)) [.ob (bF p cf kc H (c.fM cf kc s).1),.mem H2]):=by
 refine Enzz λW F w hS=>?_;apply KF;delta aI bh aW bk ai;have lQ:=hx.kind;refine zx hS λxb w hS=>?_;refine Gb λzb w hS=>?_;unfold dF at hS;rw[lQ,hk]at hS
 refine⟨λus w=>us=[]/\c.s.k.d.off=false/\SL W (.pt zb [Γ 0,Γ 0,Γ 0] 56::.pt xb [Γ 1,Γ x.n,x.sv,x.cv,Γ x.ft.kind,Γ x.ft.keep,x.kv] 43::.ob (bF p cf kc H c)::.mem H2::F) w,?_,?_⟩
 ·obtain⟨dv,hS⟩:=bF.open hS Xr;have hS:=cD.take hS Xr;refine Gp ?_;refine Cg (zH p.w.dp c.s.k.d) λw hS=>?_;have hS:=cD.u_ c.s c.s.k.d hS Xp;have hS:SL W (.ob (cD p.w kc H c.s)::_) _:=hS;have hS:=bF.put c hS Xp;refine yJ (λho=>?_) (λho=>?_)
  ·refine Gp ?_;refine za (λ_=>?_) (λh=>absurd (show (1:Int)≠8 by decide) h);refine Gn λw hS=>?_;unfold bq.fM;rw[zzc ⟨ho,by omega⟩];exact⟨[.ob (bF p cf kc H c),.mem H2],⟨rfl,rfl⟩,aR hS⟩
  exact⟨rfl,ho,aR hS⟩
 clear hS;rintro w ⟨-,ho,hS⟩;have hA:dJ cf kc n j AL c:=by
  rcases h with h|h
  ·exact h
  rw[h.1]at ho;cases ho
 obtain⟨tr,xs,hd,RS,RK,hb,ha⟩:=hA;have wU:=vD j;have vi:c.fM cf kc s=c.ny s:=by
  unfold bq.fM;rw[zzb (λhh=>by rw[ho]at hh;cases hh.1),zzc hk]
 rw[vi];refine Gp ?_;refine za (λh1=>?_) (λh1=>absurd rfl h1);obtain⟨dv,hS⟩:=bF.open hS Xr;have hS:=cD.take hS Xr;refine Gn λw hS=>?_;have hS:SL W (.ob (bm p.w.dp c.src.d)::.ob (jL p.w kc H c.s)::.pt p.np (uv p cf c.pos dv) 96::uI dv c.cE::.ob (b8 p.sp p.tp p.w.dp p.sl c.src)::_) w:=hS;have cZ:=hb.ops;refine Cc (Y9 p.sp p.tp p.w.dp p.sl c.src H2 x.sv x.cv s.sg s.l hx.sv hx.cv hl (hb.Dv hc.n1 hc.n8) (by omega) (by show c.s.k.d.ops<=90000;omega)) ?_;clear hS;rintro _ post ⟨rfl,rfl⟩ w hS;try simp only[app]at hS
 have ui:c.ny s=(c.jg (c.src.nz s.sg s.l).1,⟨(c.src.nz s.sg s.l).2.2,(c.src.nz s.sg s.l).2.1,0⟩):=rfl;rw[ui];generalize c.src.nz s.sg s.l=y at *
 obtain⟨k',aw,e⟩:=y;dsimp only at hS ⊢;have hS:=cD.u_ c.s k'.d hS Xp;have hS:=bF.put {c with s:={c.s with k:={c.s.k with d:=k'.d}},k:=k'} hS Xp;have hS:SL W (.ob (bF p cf kc H (c.jg k'))::_) w:=hS;refine Gn λw hS=>?_;exact⟨[.ob (bF p cf kc H (c.jg k')),.mem H2],⟨rfl,rfl⟩,aR hS⟩
def awz(p:iO)(cf:cX)(kc:cT)(H:a_)(y:bq × pz)(v:Ε)(post:Β):Prop:=v=agg (Aa y.2)/\∃H',H.le H'/\post=[.ob (bF p cf kc H' y.1),.mem H']
def aWg{n j:Nat}{AL:List bD}(h:CS cf kc n j AL c)(hc:CC cf kc n)(hj:j<=190)(x:gr)(s:cx)(hx:gH H x s)(hl:s.l.length<=140737488351232)(hk:s.kind≠8):SP 18 [bx p.np,agg (dF x)] [.ob (bF p cf kc H c),.mem H] (awz p cf kc H (c.fM cf kc s)):=by
 by_cases o_:s.kind=1
 ·refine (aWe p cf kc H c h hc hj H x s hx hl o_).mono λv post hq=>?_;obtain⟨rfl,rfl⟩:=hq;exact⟨rfl,H,a_.le_refl H,rfl⟩
 refine Enzz λW F w hS=>?_;apply KF;delta aI bh aW bk ai;have lQ:=hx.kind;have nK:=hx.n;have Jb:=hx.ft;refine zx hS λxb w hS=>?_;refine Gb λzb w hS=>?_;unfold dF at hS;rw[lQ,nK,Jb]at hS
 refine⟨λus w=>us=[]/\c.s.k.d.off=false/\SL W (.pt zb [Γ 0,Γ 0,Γ 0] 56::.pt xb [Γ s.kind,Γ s.n,x.sv,x.cv,Γ s.ft.kind,Γ s.ft.keep,x.kv] 43::.ob (bF p cf kc H c)::.mem H::F) w,?_,?_⟩
 ·obtain⟨dv,hS⟩:=bF.open hS Xr;have hS:=cD.take hS Xr;refine Gp ?_;refine Cg (zH p.w.dp c.s.k.d) λw hS=>?_;have hS:=cD.u_ c.s c.s.k.d hS Xp;have hS:SL W (.ob (cD p.w kc H c.s)::_) _:=hS;have hS:=bF.put c hS Xp;refine yJ (λho=>?_) (λho=>?_)
  ·refine Gp ?_;refine za (λ_=>?_) (λh=>absurd hk h);refine Gn λw hS=>?_;unfold bq.fM;rw[zzc ⟨ho,hk⟩];exact⟨_,⟨rfl,H,a_.le_refl H,rfl⟩,aR hS⟩
  exact⟨rfl,ho,aR hS⟩
 clear hS;rintro w ⟨-,ho,hS⟩;have hA:dJ cf kc n j AL c:=by
  rcases h with h|h
  ·exact h
  rw[h.1]at ho;cases ho
 have iq:=hA;obtain⟨tr,xs,hd,RS,RK,hb,ha⟩:=iq;have wU:=vD j;have vi:c.fM cf kc s=if s.kind=1 then c.ny s else if s.kind=2 then c.pick cf kc s.n else ((c.other cf s).1,⟨(c.other cf s).2,0,0⟩):=by
  unfold bq.fM;rw[zzb (λhh=>by rw[ho]at hh;cases hh.1)]
 rw[vi];refine Gp ?_;refine za (λh1=>absurd h1 o_) (λh1=>?_);rw[zzb h1];refine bj (λh2=>?_) (λh2=>?_)
 ·rw[zzc h2];refine Gp ?_;refine Cc (Qm p cf kc H c hA hc hj s.n) ?_;clear hS;rintro _ post ⟨rfl,H1,bX,rfl⟩ w hS;refine Gn λw hS=>?_;exact⟨_,⟨by unfold Aa;rw[br6],H1,bX,rfl⟩,aR hS⟩
 rw[zzb h2];have kH:gH H ⟨s.kind,s.n,x.sv,x.cv,s.ft,x.kv⟩ s:=⟨rfl,rfl,rfl,hx.sv,hx.cv,hx.kv⟩;refine Gp ?_;refine Cc (a_f p cf kc H c hA hc hj ⟨s.kind,s.n,x.sv,x.cv,s.ft,x.kv⟩ s kH hk) ?_;clear hS;rintro _ post ⟨rfl,H1,bX,rfl⟩ w hS;refine Gn λw hS=>?_;exact⟨_,⟨rfl,H1,bX,rfl⟩,aR hS⟩
end
abbrev uw(cf:cX)(a0 a1 a2 a3 a4 a5 a6 a7 a8 a9 uP y z:Ε):Ξ:=[a0,a1,a2,a3,a4,a5,a6,a7,a8,a9,uP,Γ cf.tables,Γ cf.late,Γ cf.size,Γ cf.queue,Γ cf.chunk,Γ cf.batch,Γ cf.base,Γ cf.bI,Γ cf.rZ,Γ cf.every,y,z]
def aWn{cf:cX}{a0 a1 a2 a3 a4 a5 a6 a7 a8 a9 uP y z:Ε}:∀j v,(mf cf)[j]?=some v->(uw cf a0 a1 a2 a3 a4 a5 a6 a7 a8 a9 uP y z)[11+j]?=some v
 | 0,v,h=>h
 | 1,v,h=>h
 | 2,v,h=>h
 | 3,v,h=>h
 | 4,v,h=>h
 | 5,v,h=>h
 | 6,v,h=>h
 | 7,v,h=>h
 | 8,v,h=>h
 | 9,v,h=>h
 | j+10,v,h=>by simp[mf]at h
def z6:∀i,i<6->([Γ 0,Γ 0,Γ 0,Γ 0,Γ 0,Γ 0]:Ξ)[i]?=some (Γ 0)
 | 0,_=>rfl
 | 1,_=>rfl
 | 2,_=>rfl
 | 3,_=>rfl
 | 4,_=>rfl
 | 5,_=>rfl
section
variable (np dp ck sp tp sl kp gp lp pp:Nat) (cf:cX) (kc:cT) (H:a_) (k1:bQ) (k2:bO) (now:Int)
def qm{n:Nat}(hc:CC cf kc n)(a0 a1 a2 a3 a4 a5 a6 a7 a8 a9 uP:Ε)(CH:0<=now/\now<=1125899906842624)(hl:0<=k2.aw/\k2.aw<=1099511627776)(CG:fq k2.reqs)(mq:∀r∈k2.reqs,r.table<(n:Int)/\r.at_<=k2.aw):SP 75 [bx np,bx sp,bx kp] [.pt np (uw cf a0 a1 a2 a3 a4 a5 a6 a7 a8 a9 uP (bx dp) (bx ck)) 96,.ob (b8 sp tp dp sl k1),.ob (b5 kp gp dp lp pp H k2),.ob (gQ ck [] now),.mem H]
  (λv post=>v= Γ 0/\∃(p:iO) (H':a_),H.le H'/\p.np=np/\p.w.dp=dp/\p.ck=ck/\post=[.ob (bF p cf kc H' (bq.start cf k1 k2 now)),.mem H']):=by
 refine Enzz λW F w hS=>?_;apply bJj;delta aI bh aW bg bk ai bT bc gC;have eF:¬De cf.tables cf.late cf.chunk k2.aw k2.reqs:=by
  have h1:=hc.tables;have h2:=hc.n1;have h3:=hc.n8;have h4:=hc.U';have h5:=hc.U9;have h6:=hc.c1;have h7:=hc.we;rintro (h|h|h|h|h|h|h|h|h|⟨r,hr,h⟩)
  ·omega
  ·omega
  ·omega
  ·rw[h1,zzw]at h;omega
  ·omega
  ·omega
  ·omega
  ·omega
  ·exact h CG
  have:=mq r hr;omega
 refine Gp ?_;refine yh (o:=11) (vs:=mf cf) hS Xh rfl aWn ?_;refine Gm λb w hS=>?_;refine Cg (yH kp gp dp lp pp H k2) λw hS=>?_;refine Gm λb w hS=>?_;refine Gm λb w hS=>?_;rw[hc.queue];refine Cc (VO kc.cap hc.q1 hc.Dl) ?_;clear hS;rintro _ post ⟨rb,rfl,rfl⟩ w hS;refine Gn λw hS=>?_;refine yB (j:=0) (by decide) ?_;refine Gn λw hS=>?_;rw[hc.queue];refine Cc (bgd kc.cap hc.q1 hc.Dl) ?_;clear hS;rintro _ post ⟨qp,qb,rfl,rfl⟩ w hS;refine Gn λw hS=>?_;refine yB (j:=1) (by decide) ?_;refine Gn λw hS=>?_;rw[hc.base,hc.cm,hc.UY];refine Cc (bBg kc.b kc.m kc.j) ?_;clear hS;rintro _ post hq w hS;rw[zzc hc.may]at hq
 obtain⟨rp,rfl,rfl⟩:=hq;refine Gn λw hS=>?_;refine yB (j:=2) (by decide) ?_;refine Gn λw hS=>?_;refine Cg (ye ck [] now) λw hS=>?_;refine Cg (yH kp gp dp lp pp H k2) λw hS=>?_;refine Cc (aRw cf.every now k2.aw ⟨hc.e1,hc.e2⟩ CH hl) ?_;clear hS;rintro _ post ⟨bp,rfl,rfl⟩ w hS;refine Gn λw hS=>?_;refine yB (j:=3) (by decide) ?_;refine Gn λw hS=>?_;refine Cg (yH kp gp dp lp pp H k2) λw hS=>?_;refine Cc (QD kp gp dp lp pp H k2 CG.1) ?_;clear hS;rintro rv post ⟨H1,bX,Ui,rfl⟩ w hS;(try simp only[app]at hS);refine Gp ?_
 refine Cc (bqa H1 cf.tables cf.late cf.chunk k2.aw rv k2.reqs Ui (by have:=CG.1;omega)) ?_;clear hS;rintro _ post hq w hS;rcases hq with ⟨hb,_⟩|⟨_,mp,wi,H2,cF,rfl,rfl⟩
 ·exact absurd hb eF
 refine Gn λw hS=>?_;refine yB (j:=4) (by decide) ?_;refine Gn λw hS=>?_;rw[hc.batch];refine Cc (bKk kp qp rp kc.bI hc.b1 hc.He) ?_;clear hS;rintro _ post ⟨wp,rfl,rfl⟩ w hS;refine Gn λw hS=>?_;refine yB (j:=5) (by decide) ?_;refine Gn λw hS=>?_;refine⟨λus w'=>∃i:Nat,us=[Γ i]/\i<=6/\w'=w,λus _=>match us with|[.int _ i]=>(6-i).toNat|_=>0,⟨0,rfl,by decide,rfl⟩,?_⟩;rintro v96 w' ⟨i,bM,hi,rfl⟩;cases bM;refine bj (λh=>?_) (λh=>?_)
 ·have TJ:i<6:=by omega
  refine WK underlying202 (λw=>by kernel_rfl) (λw=>by kernel_rfl) TJ (z6 i TJ) ?_;refine Gp ?_;refine Χ ?_;refine Gp ?_;exact⟨⟨i+1,rfl,by omega,rfl⟩,by dsimp only;omega⟩
 refine Gp ?_;refine Cc (Q4 sp mp wi H2 ⟨cf.tables,cf.late,k2.aw,k2.reqs,l6 cf.chunk⟩ cf.chunk) ?_;clear hS;rintro _ post hq w hS;rcases hq with ⟨hb,_⟩|⟨_,sn,dg,rfl,rfl⟩
 ·exact absurd ⟨hc.c1,hc.we⟩ hb
 (try simp only[app]at hS);refine Gp ?_
 refine Υ ?_;refine Gn λw hS=>?_;refine Zn (o:=0) (vs:=[bx kp,bx sp,bx rb,Γ k2.aw,bx mp,bx sn,bx qp,bx rp,bx wp,bx bp,Θ]) hS Xu rfl (by show 11<=23;decide) (by simp[Value.oneCell']) λw hS=>?_;have hS:=b5.jU cF hS Xr;simp only[uw,List.take,List.drop,zzn,zzo,yyd]at hS;have hS:SL W (.pt wp (oI kp qp rp kc.bI 0 Θ Θ 0) 299::.ob (b5 kp gp dp lp pp H2 k2)::.ob (Gate qp qb kc.cap 0 [])::jK rp kc.b kc.m kc.j 0 0::.pt np (uw cf (bx kp) (bx sp) (bx rb) (Γ k2.aw) (bx mp) (bx sn) (bx qp) (bx rp) (bx wp) (bx bp) Θ (bx dp) (bx ck)) 96::.ob (b8 sp tp dp sl k1)::.ob (bW mp wi H2 ⟨cf.tables,cf.late,k2.aw,k2.reqs,l6 cf.chunk⟩)::.pt sn (iV sp mp wi dg cf.chunk) 243::.ob (eH dg wk)::.ob (Ring rb kc.cap [])::.ob (gQ ck [] now)::jj bp cf.every (iM cf.every now) k2.aw::.mem H2::F) w:=aR hS;have rS:gn H2 ⟨mX.aw,Θ,Θ⟩ mX:=⟨rfl,cn.nil _ _,cn.nil _ _⟩;have hS:=(cD.iff (p:=⟨wp,kp,gp,dp,lp,pp,qp,qb,rp⟩) (c:=kc) (H:=H2) (s:=⟨k2,[],0,0,0,mX,0⟩)).2 ⟨Θ,Θ,rS,hS⟩;have hS:=cz.p5 (t:=2) (sz:=1) (a:=none) hS;have hS:SL W (.pt np (uw cf (bx kp) (bx sp) (bx rb) (Γ k2.aw) (bx mp) (bx sn) (bx qp) (bx rp) (bx wp) (bx bp) Θ (bx dp) (bx ck)) 96::.ob (cz Θ 2 1 0 [])::.ob (cD ⟨wp,kp,gp,dp,lp,pp,qp,qb,rp⟩ kc H2 ⟨k2,[],0,0,0,mX,0⟩)::.ob (b8 sp tp dp sl k1)::.ob (bW mp wi H2 ⟨cf.tables,cf.late,k2.aw,k2.reqs,l6 cf.chunk⟩)::.pt sn (iV sp mp wi dg cf.chunk) 243::.ob (eH dg wk)::.ob (Ring rb kc.cap [])::.ob (gQ ck [] now)::jj bp cf.every (iM cf.every now) k2.aw::.mem H2::F) w:=aR hS;have hS:=(bF.iff (p:=⟨np,⟨wp,kp,gp,dp,lp,pp,qp,qb,rp⟩,sp,tp,sl,rb,mp,wi,sn,dg,bp,ck⟩) (cf:=cf) (kc:=kc) (H:=H2) (c:=bq.start cf k1 k2 now)).2 ⟨Θ,hS⟩;exact⟨[.ob (bF ⟨np,⟨wp,kp,gp,dp,lp,pp,qp,qb,rp⟩,sp,tp,sl,rb,mp,wi,sn,dg,bp,ck⟩ cf kc H2 (bq.start cf k1 k2 now)),.mem H2],⟨rfl,⟨np,⟨wp,kp,gp,dp,lp,pp,qp,qb,rp⟩,sp,tp,sl,rb,mp,wi,sn,dg,bp,ck⟩,H2,a_.le_trans bX cF,rfl,rfl,rfl,rfl⟩,aR hS⟩
def awx(np dp ck:Nat)(cf:cX)(kc:cT)(H:a_)(c:bq)(v:Ε)(post:Β):Prop:=v= Γ 0/\∃(p:iO) (H':a_),H.le H'/\p.np=np/\p.w.dp=dp/\p.ck=ck/\post=[.ob (bF p cf kc H' c),.mem H']
def ZY{n:Nat}(hc:CC cf kc n)(d:DS){N:Nat}(e1:kx d cf.tables cf.size=(k1.d,.ok k1))(e2:jH k1.d cf.tables cf.size=(k2.d,.ok k2))(bC:d.Ok N)(bjy:k1.d.Ok N)(hN:N<=100000000)(cZ:d.ops<=90000)(T8:k1.d.ops<=90000)(kG:∀d' g,dN d 16 cf.size=(d',.ok g)->(bR g.bf).length<=50000)(rV:∀d' g,dN k1.d 8192 cf.size=(d',.ok g)->(bR g.bf).length<=200)
  (a0 a1 a2 a3 a4 a5 a6 a7 a8 a9 uP:Ε) (CH:0<=now/\now<=1125899906842624) (hl:0<=k2.aw/\k2.aw<=1099511627776) (CG:fq k2.reqs) (mq:∀r∈k2.reqs,r.table<(n:Int)/\r.at_<=k2.aw):SP 38 [bx np] [.pt np (uw cf a0 a1 a2 a3 a4 a5 a6 a7 a8 a9 uP (bx dp) (bx ck)) 96,.ob (bm dp d),.ob (gQ ck [] now),.mem H] (awx np dp ck cf kc H (bq.start cf k1 k2 now)):=by
 refine Enzz λW F w hS=>?_;apply bIg;delta aI bh aW bk ai;refine Gn λw hS=>?_;refine Cc (Q2 H dp d cf.tables cf.size bC (by omega) cZ kG) ?_;clear hS;rintro r post hq w hS;unfold GB at hq;rw[e1]at hq
 obtain⟨sp,tp,sl,H1,bX,rfl,rfl⟩:=hq;(try simp only[app]at hS);refine Gp ?_
 refine Χ ?_;refine Gn λw hS=>?_;refine Cc (QB H1 dp k1.d cf.tables cf.size bjy hN T8 rV) ?_;clear hS;rintro r post hq w hS;unfold K3 at hq;rw[e2]at hq
 obtain⟨kp,gp,lp,pp,H2,cF,rfl,rfl⟩:=hq;(try simp only[app]at hS);refine Gp ?_
 refine Χ ?_;refine Cc (qm np dp ck sp tp sl kp gp lp pp cf kc H2 k1 k2 now hc a0 a1 a2 a3 a4 a5 a6 a7 a8 a9 uP CH hl CG mq) ?_;clear hS;rintro _ post ⟨rfl,p,H3,dG,mV,pc,AD,rfl⟩ w hS;try simp only[app]at hS
 exact⟨_,⟨rfl,p,H3,a_.le_trans bX (a_.le_trans cF dG),mV,pc,AD,rfl⟩,aR hS⟩
end
section
variable (p:iO) (cf:cX) (kc:cT) (H:a_) (c:bq)
def K0(H:a_)(X:Μ)(v:Ε)(l:Ω):Prop:=∀{W w:Ζ} {r:Β},SL W (.mem H::X::r) w->∃H',cn H' 1 v l.length (l.map (Value.int .i64))/\SL W (.mem H'::r) w/\∀{W' w':Ζ} {r':Β},SL W' (.mem H'::r') w'->SL W' (.mem H::X::r') w'
def qg{n j:Nat}{AL:List bD}(h:CS cf kc n j AL c)(hc:CC cf kc n)(hj:j<=190)(X:Μ)(x:gr)(s:cx)(lQ:x.kind=s.kind)(hx:K0 H X x.kv s.keep)(hk:s.kind=8):SP 42 [bx p.np,agg (dF x)] [.ob (bF p cf kc H c),X,.mem H] (λv post=>v= Γ 0/\∃(q:iO) (H':a_),H.le H'/\q.np=p.np/\q.w.dp=p.w.dp/\q.ck=p.ck/\post=[.ob (bF q cf kc H' (c.dB cf s.keep)),X,.mem H']):=by
 refine Enzz λW F w hS=>?_;apply XZ;delta aI bh aW bg bk ai;refine zx hS λxb w hS=>?_;obtain⟨k1,k2,dO,hK⟩:=h.dB hc hj s.keep;obtain⟨xs0,sV⟩:=h.nu;obtain⟨tr,xs,hd,RS,RK,hb,ha⟩:=hK.st;unfold dF at hS;rw[lQ,hk]at hS
 refine Gp ?_;refine za (λh3=>absurd h3 (by decide)) (λh3=>?_);refine Gp ?_;refine za (λh3=>absurd h3 (by decide)) (λh3=>?_);refine Gp ?_;refine za (λh3=>absurd h3 (by decide)) (λh3=>?_);refine Gp ?_;refine za (λh3=>absurd h3 (by decide)) (λh3=>?_);refine Gp ?_;refine za (λh3=>absurd h3 (by decide)) (λh3=>?_);refine Gp ?_;refine Υ ?_;obtain⟨dv,hS⟩:=bF.open hS Xr;have hS:=cD.take hS Xr;have vw:=sV.dk.Dn;have wU:=vD j;have T3:=JH j;have cZ:=sV.ops;have T8:=hK.ops;have kG:=hK.n1;refine Gn λw hS=>?_;obtain⟨H2,CF,hS,lj⟩:=hx (Has.front (SL.bo hS (t:=.mem H::X::.ob (bm p.w.dp c.s.k.d)::.pt p.np (uw cf (gW p.w.kp) (bx p.sp) (bx p.rb) (Γ c.pos) (bx p.mp) (bx p.sn) (bx p.w.qp) (bx p.w.rp) (bx p.w.wp) (bx p.bp) dv (bx p.w.dp) (bx p.ck)) 96::.ob (gQ p.ck [] c.now)::F) Xi) .hd);refine Cg (qk H2 p.w.dp c.s.k.d (nJ j) sV.dk (by omega) (by omega) x.kv s.keep CF) λw hS=>?_;have hS:=lj (Has.front (c:=.mem H2) hS Xr);have hS:SL W (.pt p.np (uw cf (gW p.w.kp) (bx p.sp) (bx p.rb) (Γ c.pos) (bx p.mp) (bx p.sn) (bx p.w.qp) (bx p.w.rp) (bx p.w.wp) (bx p.bp) dv (bx p.w.dp) (bx p.ck)) 96::.ob (bm p.w.dp (c.s.k.d.dB s.keep))::.ob (gQ p.ck [] c.now)::.mem H::X::F) w:=aR hS;refine Cc (ZY p.np p.w.dp p.ck cf kc H k1 k2 c.now hc (c.s.k.d.dB s.keep) (N:=nJ (j+1)) hK.e1 hK.e2 ((sV.dk.dB s.keep).mono (AW j)) hK.dk (by omega) (by show c.s.k.d.ops<=90000;omega) (by omega) (λd' g e=>yy1 (kG d' g e) (by decide)) hK.n2 _ _ _ _ _ _ _ _ _ _ _ sV.now ⟨ha.jW.l0,hb.mx.oQ⟩ hb.mx.may ha.lZ) ?_;clear hS;rintro _ post ⟨rfl,q,H3,dG,mV,pc,AD,rfl⟩ w hS;try simp only[app]at hS
 rw[hK.is];exact⟨_,⟨rfl,q,H3,dG,mV,pc,AD,rfl⟩,aR hS⟩
def aWf{n j:Nat}{AL:List bD}(h:CS cf kc n j AL c)(hc:CC cf kc n)(hj:j<=190)(X:Μ)(x:gr)(s:cx)(lQ:x.kind=s.kind)(hx:K0 H X x.kv s.keep)(hk:s.kind=8):SP 18 [bx p.np,agg (dF x)] [.ob (bF p cf kc H c),X,.mem H]
  (λv post=>v=agg (Aa ⟨0,0,0⟩)/\∃(q:iO) (H':a_),H.le H'/\q.np=p.np/\q.w.dp=p.w.dp/\q.ck=p.ck/\post=[.ob (bF q cf kc H' (c.dB cf s.keep)),X,.mem H']):=by
 refine Enzz λW F w hS=>?_;apply KF;delta aI bh aW bk ai;refine zx hS λxb w hS=>?_;refine Gb λzb w hS=>?_;unfold dF at hS;rw[lQ,hk]at hS
 refine⟨λus w=>us=[]/\SL W (.pt zb [Γ 0,Γ 0,Γ 0] 56::.pt xb [Γ 8,Γ x.n,x.sv,x.cv,Γ x.ft.kind,Γ x.ft.keep,x.kv] 43::.ob (bF p cf kc H c)::X::.mem H::F) w,?_,?_⟩
 ·obtain⟨dv,hS⟩:=bF.open hS Xr;have hS:=cD.take hS Xr;refine Gp ?_;refine Cg (zH p.w.dp c.s.k.d) λw hS=>?_;have hS:=cD.u_ c.s c.s.k.d hS Xp;have hS:SL W (.ob (cD p.w kc H c.s)::_) _:=hS;have hS:=bF.put c hS Xp;refine yJ (λho=>?_) (λho=>?_)
  ·refine Gp ?_;refine Χ ?_;exact⟨rfl,aR hS⟩
  exact⟨rfl,aR hS⟩
 clear hS;rintro w ⟨-,hS⟩;refine Gp ?_;refine za (λh3=>absurd h3 (by decide)) (λh3=>?_);refine Gp ?_;refine za (λh3=>absurd h3 (by decide)) (λh3=>?_);refine Gp ?_;refine Cc (qg p cf kc H c h hc hj X ⟨8,x.n,x.sv,x.cv,x.ft,x.kv⟩ s hk.symm hx hk) ?_;clear hS;rintro _ post ⟨rfl,q,H1,bX,mV,pc,AD,rfl⟩ w hS;refine Gn λw hS=>?_;exact⟨_,⟨rfl,q,H1,bX,mV,pc,AD,rfl⟩,aR hS⟩
def aWd{n j:Nat}{AL:List bD}(h:CS cf kc n j AL c)(hc:CC cf kc n)(hj:j<=190)(x:gr)(s:cx)(hx:gH H x s)(hk:s.kind=8):SP 18 [bx p.np,agg (dF x)] [.ob (bF p cf kc H c),.mem H]
  (λv post=>v=agg (Aa ⟨0,0,0⟩)/\∃(q:iO) (H':a_),H.le H'/\q.np=p.np/\q.w.dp=p.w.dp/\q.ck=p.ck/\post=[.ob (bF q cf kc H' (c.dB cf s.keep)),.mem H']):=by
 intro W F w hS;have hS:SL W (.ob (bF p cf kc H c)::.ob (zF True [])::.mem H::F) w:=(SL.fact.2 ⟨trivial,hS⟩:SL W (.ob (zF True [])::.ob (bF p cf kc H c)::.mem H::F) w).perm (.swap _ _ _);refine zJ.mono (aWf p cf kc H c h hc hj (.ob (zF True [])) x s hx.kind (λhS=>⟨H,hx.kv,(SL.fact.1 (hS.perm (.swap _ _ _))).2,λhS=>(SL.fact.2 ⟨trivial,hS⟩:SL _ (.ob (zF True [])::_) _).perm (.swap _ _ _)⟩) hk W F w hS) ?_;rintro u w ⟨post,⟨e,q,H',hh,h1,h2,h3,rfl⟩,hS⟩;exact⟨_,⟨e,q,H',hh,h1,h2,h3,rfl⟩,aR hS⟩
end
def z8(n a b:Int):SP 70 [Γ n,Γ a,Γ b] [] (bA (.bool (decide (a<=n/\n<=b))) []):=by
 refine Enzz λW F w hS=>?_;apply bJe;delta aI br;refine bj (λh=>?_) (λh=>?_)
 ·refine Gp ?_;rw[show decide (a<=n/\n<=b)=decide (n<=b) from yye.2 ⟨λh=>h.2,λh'=>⟨by omega,h'⟩⟩];(exact bw hS)
 rw[zzx (p:=a<=n/\n<=b) (by omega)];(exact bw hS)
def aWw{cf:cX}{kc:cT}{n:Nat}(hc:CC cf kc n):SP 35 [agg (mf cf)] [] (bA (.bool true) []):=by
 refine Enzz λW F w hS=>?_;apply bH9;delta aI aW br ai;have h1:=hc.tables;have h2:=hc.n1;have h3:=hc.n8;have h4:=hc.U';have h5:=hc.queue;have h6:=hc.batch;have h7:=hc.q1;have h8:=hc.Dl;have h9:=hc.b1;have sP:=hc.He;have hp:(2:Int) ^ n<=256:=by
  have:(2:Nat) ^ n<=2 ^ 8:=vvu (by decide) h3;have h:=Int.ofNat_le.2 this
  push_cast at h
  exact h
 have vr:(1:Int)<=2 ^ n:=by
  have h:=Int.ofNat_le.2 (Nat.one_le_two_pow (n:=n))
  push_cast at h
  exact h
 refine zx hS λxb w hS=>?_;unfold mf at hS;refine Gn λw hS=>?_;refine yE (by kernel_rfl) (z8 cf.tables 1 8) rfl hS Xp ?_;rintro _ post ⟨rfl,rfl⟩ w hS;try simp only[app]at hS
 rw[zzm (p:=1<=cf.tables/\cf.tables<=8) (by omega)];refine Gp ?_;rw[hc.tables];refine QY (n:=n) (by omega) (by omega) ?_;refine Gp ?_;refine yE (by kernel_rfl) (z8 cf.late 0 (1*2 ^ n-1)) rfl hS Xp ?_;rintro _ post ⟨rfl,rfl⟩ w hS;try simp only[app]at hS
 rw[zzm (p:=0<=cf.late/\cf.late<=(1*2 ^ n-1)) ⟨hc.U9,by omega⟩];refine Gp ?_;refine yE (by kernel_rfl) (z8 cf.size 64 65536) rfl hS Xp ?_;rintro _ post ⟨rfl,rfl⟩ w hS;try simp only[app]at hS
 rw[zzm (p:=64<=cf.size/\cf.size<=65536) ⟨hc.s0,hc.s1⟩];refine Gp ?_;refine yE (by kernel_rfl) (z8 cf.queue 1 64) rfl hS Xp ?_;rintro _ post ⟨rfl,rfl⟩ w hS;try simp only[app]at hS
 rw[zzm (p:=1<=cf.queue/\cf.queue<=64) (by omega)];refine Gp ?_;refine yE (by kernel_rfl) (z8 cf.chunk 1 64) rfl hS Xp ?_;rintro _ post ⟨rfl,rfl⟩ w hS;try simp only[app]at hS
 rw[zzm (p:=1<=cf.chunk/\cf.chunk<=64) ⟨hc.c1,hc.we⟩];refine Gp ?_;refine yE (by kernel_rfl) (z8 cf.batch 1 64) rfl hS Xp ?_;rintro _ post ⟨rfl,rfl⟩ w hS;try simp only[app]at hS
 rw[zzm (p:=1<=cf.batch/\cf.batch<=64) (by omega)];refine Gp ?_;rw[hc.base,hc.cm,hc.UY];refine Cc (y0 kc.b kc.m kc.j) ?_;clear hS;rintro _ post ⟨rfl,rfl⟩ w hS;try simp only[app]at hS
 rw[zzm hc.may];refine Gp ?_;refine za (λh=>?_) (λh=>absurd hc.e1 h);refine Gp ?_;rw[zzm hc.e2];(exact bw hS)
def Yw{cf:cX}{kc:cT}{n:Nat}(H:a_)(hc:CC cf kc n):SP 17 [agg (mf cf)] [.mem H] (λv post=>∃(p:iO) (H':a_),H.le H'/\v= .tuple #[bx p.np,Γ 0]/\post=[.ob (bF p cf kc H' (xZ cf n)),.mem H']):=by
 refine Enzz λW F w hS=>?_;apply bD6;delta aI bJ ai bT bc;obtain⟨e1,e2,h0⟩:=dJ.first (kc:=kc) hc;obtain⟨tr,xs,hd,RS,RK,hb,ha⟩:=h0;refine zx hS λxb w hS=>?_;refine Gp ?_;refine Cg (aWw hc) λw hS=>?_;refine zw (λh=>by cases h) (λ_=>?_);refine Gn λw hS=>?_;refine Cc (bqk) ?_;clear hS;rintro _ post ⟨dp,rfl,rfl⟩ w hS;(try simp only[app]at hS);refine Gp ?_
 refine Cc (bql 0) ?_;clear hS;rintro _ post ⟨ck,rfl,rfl⟩ w hS;try simp only[app]at hS
 rw[show rC 0=0 from rfl]at hS
 refine Gp ?_;refine⟨uw cf (.pointer none) (.pointer none) (.pointer none) (Γ 0) (.pointer none) (.pointer none) (.pointer none) (.pointer none) (.pointer none) (.pointer none) Θ (bx dp) (bx ck),rfl,_,rfl,zD hS λnp w hS=>?_⟩;have ho:∀(base:Int),0<=base->base<=12288->∀d' g,dN fU base cf.size=(d',.ok g)->(bR g.bf).length=0:=λbase b0 b1 d' g e=>by
  rw[JT b0 b1 hc.s0 hc.s1]at e
  cases e;rfl
 refine Cc (ZY np dp ck cf kc H (vy n cf.size) (r_ n cf.size) 0 hc fU (N:=nJ 0) e1 e2 (Ds _) (Ds _) (by decide) (by decide) (show (0:Nat)<=90000 by decide) (λd' g e=>by rw[ho 16 (by decide) (by decide) d' g e];decide) (λd' g e=>by rw[ho 8192 (by decide) (by decide) d' g e];decide) _ _ _ _ _ _ _ _ _ _ _ (by decide) ⟨ha.jW.l0,hb.mx.oQ⟩ hb.mx.may ha.lZ) ?_;clear hS;rintro _ post ⟨rfl,q,H3,dG,mV,pc,AD,rfl⟩ w hS;(try simp only[app]at hS);refine Gp ?_
 refine Χ ?_;have hS:SL W (.ob (bF q cf kc H3 (xZ cf n))::_) w:=hS;exact⟨_,⟨q,H3,dG,by rw[mV],rfl⟩,aR hS⟩
section
end
def bW.FP{W w:Ζ}{l F:Β}{mp wp:Nat}{H:a_}{m:cI}(hS:SL W l w)(r:eW (.ob (bW mp wp H m)) l F):∃rv,iz H rv m.reqs/\SL W (.pt mp (xr m wp rv) 110::.ob (cM wp m.bz)::F) w:=bW.iff.1 (hS.perm r.perm)
def Gate.FP{W w:Ζ}{l F:Β}{g b cap out:Nat}{L:Ψ}(hS:SL W l w)(r:eW (.ob (Gate g b cap out L)) l F):(L.length+out<=cap/\cap<=64)/\SL W (.pt g [Δ b,Γ out] 114::.ob (Ring b cap L)::F) w:=Gate.open (hS.perm r.perm)
def Gate.put{W w:Ζ}{l F:Β}{g b cap out:Nat}{L:Ψ}(hA:L.length+out<=cap/\cap<=64)(hS:SL W l w)(k:fK [.pt g [Δ b,Γ out] 114,.ob (Ring b cap L)] l F):SL W (.ob (Gate g b cap out L)::F) w:=Gate.close hA (hS.pick k)
section
variable (p:iO) (cf:cX) (kc:cT) (H:a_) (c:bq)
set_option maxHeartbeats 4000000 in
def Ql{N:Nat}(hg:gX c.k.g N)(hN:N<=1000000000)(AF:c.s.L.length+c.s.out<=kc.cap)(CP:c.m.bz.rows.length<=1000):SP 20 [bx p.np] [.ob (bF p cf kc H c),.mem H] (Gq p cf kc H c (agg (HF (c.look kc)))):=by
 refine Enzz λW F w hS=>?_;apply bE1;delta aW bg bk ai;obtain⟨dv,hS⟩:=bF.open hS Xr;obtain⟨ov,nv,hi,hS⟩:=cD.open hS Xr;obtain⟨rv,hr,hS⟩:=bW.FP hS Xr;obtain⟨hG,hS⟩:=Gate.FP hS Xr;refine Gm λb w hS=>?_;refine yh (vs:=[bx p.wi]) hS Xh rfl (λj v h=>?_) ?_
 ·match j,h with
  | 0,h=>exact h
  | j+1,h=>simp at h
 refine Cg (YH p.wi) λw hS=>?_;have hS:=bW.put c.m rv hr hS Xp;refine Cg (yH p.w.kp p.w.gp p.w.dp p.w.lp p.w.pp H c.s.k) λw hS=>?_;refine Cg (zN p.sp p.tp p.w.dp p.sl c.k hg hN) λw hS=>?_;refine Cg (ZC p.sp p.tp p.w.dp p.sl c.k hg hN) λw hS=>?_;refine Cg (ye p.ck [] c.now) λw hS=>?_;refine Cg (yU p.mp p.wi H c.m) λw hS=>?_;refine Cg (yT p.rb kc.cap (c.q.map jZ)) λw hS=>?_;refine Cg (yT p.w.qb kc.cap (c.s.L.map hU)) λw hS=>?_;have hS:=Gate.put hG hS Xp;refine Cg (bgf p.w.qp p.w.qb kc.cap c.s.out (c.s.L.map hU)) λw hS=>?_;refine Cg (zK p.w.qp p.w.qb kc.cap c.s.out (c.s.L.map hU)) λw hS=>?_;obtain⟨WI,wY,hS⟩:=bW.FP hS Xr;refine Cg (yZ p.wi c.m.bz) λw hS=>?_;refine Cc (bKo p.wi c.m.bz (by omega)) ?_;clear hS;rintro u post rfl w hS;(try simp only[app]at hS);refine Gp ?_
 refine zy hS Xh ?_;have hS:=bW.put c.m WI wY hS Xp;refine Cg (qY p.w.rp kc.b kc.m kc.j c.s.fh c.s.eG) λw hS=>?_;refine Cg (q5 p.w.rp kc.b kc.m kc.j c.s.fh c.s.eG) λw hS=>?_;refine Cg (Qj p.bp cf.every c.due c.last) λw hS=>?_;obtain⟨rv3,hr3,hS⟩:=b5.open hS Xr;refine Cg (zH p.w.dp c.s.k.d) λw hS=>?_;have hS:=b5.dI (g:=c.s.k.g) (d:=c.s.k.d) (ts:=c.s.k.ts) (plan:=c.s.k.plan) (aw:=c.s.k.aw) (reqs:=c.s.k.reqs) hS hr3 Xp;have hS:SL W (.ob (b5 p.w.kp p.w.gp p.w.dp p.w.lp p.w.pp H c.s.k)::_) w:=hS;have hS:=cD.put c.s hS hi Xp;have hS:=bF.put c hS Xp;exact⟨[.ob (bF p cf kc H c),.mem H],⟨rfl,H,a_.le_refl H,rfl⟩,aR hS⟩
end
def HS(comp il:Int):Prop:=(comp=0/\il=1)\/(comp=1/\il=2)\/(comp=2/\(il=3\/il=4\/il=5))\/(comp=3/\(il=6\/il=7))\/(comp=4/\(il=8\/il=9))
section
variable {cf:cX} {kc:cT} {n j:Nat} {AL:List bD} {c:bq}
def dJ.br7(h:dJ cf kc n j AL c)(hc:CC cf kc n)(hj:j<=190){comp:Int}(h0:0<=comp)(h5:comp<5):
  (c.en kc comp=false/\c.pick cf kc comp=(c,⟨0,0,0⟩))\/(c.en kc comp=true/\((∃il,(c.pick cf kc comp).2=⟨0,0,il⟩/\HS comp il)\/(c.pick cf kc comp).2=⟨8,0,0⟩)):=by
 unfold bq.pick;rw[zzb (by omega)];cases he:c.en kc comp with
 | false=>rw[zzc rfl];exact .inl ⟨rfl,rfl⟩
 | true=>
  rw[zzb (by decide)];refine .inr ⟨rfl,?_⟩;unfold HS;split
  ·rename_i e;subst e;obtain⟨t,_,_,h3,_⟩:=h.read he;rw[h3];exact .inl ⟨1,rfl,.inl ⟨rfl,rfl⟩⟩
  split
  ·rename_i e;subst e;obtain⟨_,_,_,_,_,_,_,_,_,_,h7,_⟩:=h.take hc he;rw[h7];exact .inl ⟨2,rfl,.inr (.inl ⟨rfl,rfl⟩)⟩
  split
  ·rename_i e;subst e;rcases h.snap hc hj he with ⟨_,_,_,h3⟩|⟨_,h3⟩
   ·rcases h3 with h3|h3|h3
    ·rw[h3];exact .inl ⟨3,rfl,.inr (.inr (.inl ⟨rfl,.inl rfl⟩))⟩
    ·rw[h3];exact .inl ⟨4,rfl,.inr (.inr (.inl ⟨rfl,.inr (.inl rfl)⟩))⟩
    rw[h3];exact .inl ⟨5,rfl,.inr (.inr (.inl ⟨rfl,.inr (.inr rfl)⟩))⟩
   exact .inr h3
  split
  ·rename_i e;subst e;rcases h.write hc hj he with ⟨_,h3⟩|⟨_,h3⟩
   ·rcases h3 with h3|h3
    ·rw[h3];exact .inl ⟨6,rfl,.inr (.inr (.inr (.inl ⟨rfl,.inl rfl⟩)))⟩
    rw[h3];exact .inl ⟨7,rfl,.inr (.inr (.inr (.inl ⟨rfl,.inr rfl⟩)))⟩
   exact .inr h3
  have:comp=4:=by omega
  subst this;rcases (h.tell hc he).2 with ⟨_,h3⟩|⟨_,_,_,h3⟩
  ·rw[h3];exact .inl ⟨9,rfl,.inr (.inr (.inr (.inr ⟨rfl,.inr rfl⟩)))⟩
  rw[h3];exact .inl ⟨8,rfl,.inr (.inr (.inr (.inr ⟨rfl,.inl rfl⟩)))⟩
def CS.on(h:CS cf kc n j AL c)(ho:c.s.k.d.off=false):dJ cf kc n j AL c:=by
 rcases h with h|h
 ·exact h
 rw[h.1]at ho;cases ho
def bcm(s:cx)(ho:c.s.k.d.off=true)(hk:s.kind≠8):c.fM cf kc s=(c,⟨8,0,0⟩):=by
 unfold bq.fM;rw[zzc ⟨ho,hk⟩]
end
def K8(np:Nat)(cf:cX)(kc:cT)(H:a_)(y:bq × pz)(v:Ε)(post:Β):Prop:=v=agg (Aa y.2)/\∃(q:iO) (H':a_),H.le H'/\q.np=np/\post=[.ob (bF q cf kc H' y.1),.mem H']
def R_{cf:cX}{kc:cT}{c:bq}{s:cx}(hk:s.kind=8):c.fM cf kc s=(c.dB cf s.keep,⟨0,0,0⟩):=by
 have e:c.other cf s=(c.dB cf s.keep,0):=by
  unfold bq.other;rw[zzb (by omega),zzb (by omega),zzb (by omega),zzb (by omega),zzb (by omega),zzc hk]
 unfold bq.fM;rw[zzb (λh=>h.2 hk),zzb (by omega),zzb (by omega),e]
def Qo(p:iO)(cf:cX)(kc:cT)(H:a_)(c:bq){n j:Nat}{AL:List bD}(h:CS cf kc n j AL c)(hc:CC cf kc n)(hj:j<=190)(x:gr)(s:cx)(hx:gH H x s)(hl:s.l.length<=140737488351232):SP 18 [bx p.np,agg (dF x)] [.ob (bF p cf kc H c),.mem H] (K8 p.np cf kc H (c.fM cf kc s)):=by
 by_cases hk:s.kind=8
 ·refine (aWd p cf kc H c h hc hj x s hx hk).mono λv post hq=>?_;obtain⟨e,q,H',hh,h1,_,_,hp⟩:=hq;rw[R_ hk];exact⟨e,q,H',hh,h1,hp⟩
 refine (aWg p cf kc H c h hc hj x s hx hl hk).mono λv post hq=>?_;obtain⟨e,H',hh,hp⟩:=hq;exact⟨e,p,H',hh,rfl,hp⟩
