/- Part. -/
import Derived.Test.YtgfbifafbkkghaaGreatDoorJ12
import Derived.Shelf.SlSortCmp.NoneTotal
namespace Go.Proofs.YtgfbifafbkkghaaGreatDoor
set_option linter.all false
set_option maxRecDepth 100000
open Go.RowKit Go.Sort Go.Shelf Go.Proofs.Tryz
def wwo:=@underlying4
def aw7:Go.Shelf.Ren:=⟨λ| 6=>243|15=>294|14=>293|28=>342|29=>257|20=>334|21=>335|22=>336|23=>337|24=>338|25=>339|26=>340|27=>341|46=>364|47=>365|48=>366|49=>367|50=>368|57=>383|n=>n,λ| 22=>175|24=>353|25=>356|3=>3|39=>75|0=>0|53=>366|55=>73|4=>4|46=>453|45=>452|50=>344|5=>5|9=>9|66=>488|70=>492|76=>501|77=>502|n=>n,λ| n=>n⟩
def Om:Go.Proofs.SlLaysF0.n6 prog aw7 where
 mixed:=by kernel_rfl
 f6 := ⟨ "slices.SortFunc[[]qanat/wheel.timer,qanat/wheel.timer]", by decide, func243.trans (yyl some (by kernel_rfl))⟩
 f14 := ⟨ "slices.pdqsortCmpFunc[qanat/wheel.timer]", by decide, func293.trans (yyl some (by kernel_rfl))⟩
 f15:=func294.trans (yyl some (by kernel_rfl))
 f20 := ⟨ "slices.insertionSortCmpFunc[qanat/wheel.timer]", by decide, func334.trans (yyl some (by kernel_rfl))⟩
 f21 := ⟨ "slices.heapSortCmpFunc[qanat/wheel.timer]", by decide, func335.trans (yyl some (by kernel_rfl))⟩
 f22 := ⟨ "slices.breakPatternsCmpFunc[qanat/wheel.timer]", by decide, func336.trans (yyl some (by kernel_rfl))⟩
 f23 := ⟨ "slices.choosePivotCmpFunc[qanat/wheel.timer]", by decide, func337.trans (yyl some (by kernel_rfl))⟩
 f24 := ⟨ "slices.reverseRangeCmpFunc[qanat/wheel.timer]", by decide, func338.trans (yyl some (by kernel_rfl))⟩
 f25 := ⟨ "slices.partialInsertionSortCmpFunc[qanat/wheel.timer]", by decide, func339.trans (yyl some (by kernel_rfl))⟩
 f26 := ⟨ "slices.partitionEqualCmpFunc[qanat/wheel.timer]", by decide, func340.trans (yyl some (by kernel_rfl))⟩
 f27 := ⟨ "slices.partitionCmpFunc[qanat/wheel.timer]", by decide, func341.trans (yyl some (by kernel_rfl))⟩
 f28:=func342.trans (yyl some (by kernel_rfl))
 f29:=func257.trans (yyl some (by kernel_rfl))
 f46 := ⟨ "slices.siftDownCmpFunc[qanat/wheel.timer]", by decide, func364.trans (yyl some (by kernel_rfl))⟩
 f47:=func365.trans (yyl some (by kernel_rfl))
 f48:=func366.trans (yyl some (by kernel_rfl))
 f49 := ⟨ "slices.medianAdjacentCmpFunc[qanat/wheel.timer]", by decide, func367.trans (yyl some (by kernel_rfl))⟩
 f50 := ⟨ "slices.medianCmpFunc[qanat/wheel.timer]", by decide, func368.trans (yyl some (by kernel_rfl))⟩
 f57 := ⟨ "slices.order2CmpFunc[qanat/wheel.timer]", by decide, func383.trans (yyl some (by kernel_rfl))⟩
 t0:=underlying0
 a0:=isAgg0
 z0:=sizeOf0
 v0:=zeroValue0
 t3:=zz9
 a3:=isAgg3
 z3:=sizeOf3
 v3:=zeroValue3
 t4:=wwo
 a4:=isAgg4
 z4:=sizeOf4
 v4:=zeroValue4
 t5:=yyy
 a5:=isAgg5
 z5:=sizeOf5
 v5:=zeroValue5
 t9:=yyx
 a9:=isAgg9
 z9:=sizeOf9
 v9:=zeroValue9
 t22:=underlying175
 a22:=isAgg175
 z22:=sizeOf175
 v22:=zeroValue175
 t25:=underlying356
 a25:=isAgg356
 z25:=sizeOf356
 v25:=zeroValue356
 t39:=underlying75
 a39:=isAgg75
 z39:=sizeOf75
 v39:=zeroValue75
 t45:=underlying452
 a45:=isAgg452
 z45:=sizeOf452
 v45:=zeroValue452
 t46:=underlying453
 a46:=isAgg453
 z46:=sizeOf453
 v46:=zeroValue453
 t50:=underlying344
 a50:=isAgg344
 z50:=sizeOf344
 v50:=zeroValue344
 t53:=underlying366
 a53:=isAgg366
 z53:=sizeOf366
 v53:=zeroValue366
 t55:=underlying73
 a55:=isAgg73
 z55:=sizeOf73
 v55:=zeroValue73
 t66:=underlying488
 a66:=isAgg488
 z66:=sizeOf488
 v66:=zeroValue488
 t70:=underlying492
 a70:=isAgg492
 z70:=sizeOf492
 v70:=zeroValue492
 t76:=underlying501
 a76:=isAgg501
 z76:=sizeOf501
 v76:=zeroValue501
 t77:=underlying502
 a77:=isAgg502
 z77:=sizeOf502
 v77:=zeroValue502
def Grown(W w:Ζ):Prop:=∃q os,w=grow (W.drewN q) os
def Grown.refl(W:Ζ):Grown W W:=⟨0,#[],by simp[World.drewN]⟩
def Grown.alloc{W w:Ζ}(h:Grown W w)(o:Obj):Grown W (w.alloc o):=by
 obtain⟨q,os,rfl⟩:=h;exact⟨q,os ++ #[o],by rw[alloc_eq_grow,grow_grow]⟩
def Grown.drew{W w:Ζ}(h:Grown W w):Grown W w.drew:=by
 obtain⟨q,os,rfl⟩:=h;exact⟨q+1,os,rfl⟩
section
variable {W0 W w:Ζ} {l l':Β} {P:Program}
def Kh{cs:Ξ}{t:Ι}{K:Ε->Ζ->Prop}(hS:SL W l w)(hG:Grown W0 w)(h:∀b w',SL W (.pt b cs t::l) w'->Grown W0 w'->K (Δ b) w'):zi cs t w K:=h _ _ hS.new (hG.alloc _)
def Tc{K:Ζ->Prop}(hS:SL W l w)(hG:Grown W0 w)(h:∀w',SL W l w'->Grown W0 w'->K w'):zl w K:=h _ hS.drew hG.drew
def Tb{z cells:Ξ}{ps:List (Nat × Nat × Ε)}{e:Ι}{n:Nat}{K:Ε->Ζ->Prop}(hS:SL W l w)(hG:Grown W0 w)(hc:eV z ps=some cells)
  (h:∀b w',SL W (.pt b cells e::l) w'->Grown W0 w'->K (.slice (some ⟨b,0,none⟩) n n) w'):zk z ps e n w K:=⟨cells,hc,h _ _ hS.new (hG.alloc _)⟩
def SL.grow{os:Array Obj}(hS:SL W l w):SL W l (Go.Sort.grow w os):=
 ⟨hS.os,hS.tape,hS.output,let ⟨k,s,m⟩:=hS.out;⟨k,s,λb o e=>by
  have:=m b o e;have cA:=(yyu.1 this).1;show (w.heap++os)[b]?=some o;rw[Array.getElem?_append_left cA];exact this⟩⟩
def SL.none(w:Ζ):SL w [] w:=⟨rfl,rfl,rfl,aX.emp,rfl,λb o e=>by cases e⟩
def XR(F:Array Ε)(cells rest:Ξ)(h:cells.length=F.size):putCells id 0 F (cells++rest).toArray=(F.toList++rest).toArray:=by
 apply Array.ext_getElem?;intro k;simp only[putCells,Array.getElem?_mapIdx,List.getElem?_toArray];by_cases hk:k<F.size
 ·rw[zzs (by omega),zzs (by simpa using hk)];have e1:cells[k]?=some (cells[k]'(by omega)):=zzc (by omega);have fm:0<=k/\k<0+F.size:=by omega
  rw[e1];simp[hk,vv5]
 rw[zz3 (by omega),zz3 (by simpa using hk)];have fm:¬(0<=k/\k<0+F.size):=by omega
 simp only[fm,wwq,Array.length_toList,h];cases rest[k-F.size]?<;>rfl
def SL.putRow{b n:Nat}{t:Ι}{cells rest:Ξ}{F:Array Ε}(hS:SL W (.pt b (cells++rest) t::l) w)(h:cells.length=F.size):SL W (.pt b (F.toList++rest) t::l) (Go.Sort.putRow id (Go.Sort.ahead w n) b 0 F):=by
 obtain⟨f,hf,e⟩:=hS.mO .hd;refine hS.ox (b:=b) (o':=.cells (F.toList++rest).toArray t f) .hd (λk hk=>by obtain⟨f,_,rfl⟩:=hk;exact⟨_,rfl⟩) ⟨f,by simpa [<- h] using hf,rfl⟩ ?_ ?_ rfl rfl rfl
 ·show (w.heap.modify b _)[b]?=_;rw[uub];simp[e,onCells,XR F cells rest h]
 intro x hx;show (w.heap.modify b _)[x]?=_;rw[uub,zzb (λe=>hx e.symm)]
def Kd{α:Type}[Inhabited α]{enc:α->Ξ}{k:Nat}(hk:∀x,(enc x).length=k)(xs:List α):(flatK enc k xs.toArray).toList=(xs.map enc).flatten:=by
 have hl:=nK hk xs;refine vv8 λt=>?_;by_cases ht:t<xs.length*k
 ·have k0:0<k:=by
   rcases yy7 k with h|h
   ·subst h;omega
   exact h
  have h1:t / k<xs.length:=(uuc k0).2 ht;have h2:t % k<(enc xs[t / k]).length:=by rw[hk];exact uun _ k0
  have h3:=oL hk xs (t / k) (t % k) xs[t / k] ((enc xs[t / k])[t % k]) (by simp[h1]) (by simp[h2]);rw[show t / k*k+t % k=t by rw[Nat.mul_comm];exact uu3 t k]at h3
  rw[h3];have h4:(flatK enc k xs.toArray)[t]! = (enc xs.toArray[t / k]!)[t % k]!:=get_flatK enc k xs.toArray t (by simpa using ht);have h5:xs.toArray[t / k]! = xs[t / k]:=by simp[h1,vv5]
  rw[h5]at h4
  rw[Array.getElem?_toList,xx5 (by simpa using ht)];rw[vv5 _ _ (by simpa using ht)]at h4
  rw[h4];congr 1;exact List.getElem!_eq_getElem?_getD.trans (by simp[h2])
 rw[yys (by simp;omega),yys (by omega)]
end
def nD(a b:Int):Int:=if a<b then -1 else if b<a then 1 else 0
def mR(x y:Tm):Int:=if nD x.when y.when≠0 then nD x.when y.when else nD x.id y.id
def Mr(x y:Tm):mR x y<0↔ll x y:=by
 unfold mR nD ll;repeat' split
 all_goals omega
def V8(x y:Tm):ltOf mR x y=true↔ll x y:=by unfold ltOf;rw[vv0];exact Mr x y
def tB(x y:Tm):ltOf mR x y=false↔¬ll x y:=by unfold ltOf;rw[yyq,Mr]
def OB:SWO (ltOf mR) where
 irrefl x:=by rw[tB];unfold ll;omega
 trans x y z h1 h2:=by rw[V8]at *;unfold ll at *;omega
 ntrans x y z h1 h2:=by rw[tB]at *;unfold ll at *;omega
def aIg(x y:Tm)(h1:ltOf mR x y=false)(h2:ltOf mR y x=false):x=y:=by
 rw[tB]at *
 obtain⟨a,b⟩:=x;obtain⟨c,d⟩:=y;unfold ll at *
 simp only at *
 simp only[Tm.mk.injEq];omega
def o7(xs:List Tm):List Tm:=xs.mergeSort λx y=>!(ltOf mR) y x
def On(xs:List Tm):(o7 xs).Perm xs:=List.mergeSort_perm _ _
def aw8(xs:List Tm):(o7 xs).Pairwise λx y=>¬ll y x:=by
 have h:=List.pairwise_mergeSort (le:=λx y=>!(ltOf mR) y x) (λa b c h1 h2=>by
  simp only[Bool.not_eq_true']at *;exact OB.ntrans c b a h2 h1) (λa b=>by
  by_cases h:ll b a
  ·have:¬ll a b:=by unfold ll at *;omega
   simp[(tB a b).2 this]
  simp[(tB b a).2 h]) xs
 refine h.imp λ{x y} LG=>?_;rw[Bool.not_eq_true']at LG
 exact (tB y x).1 LG
def L4{K:Ε->Ζ->Prop}{w:Ζ}{a:Int}(h:K (.bool false) w):aw 296 [Γ a] w K:=by
 apply aYh;refine QS ?_;simpa using h
def L1{K:Ε->Ζ->Prop}{w:Ζ}{a:Int}(h:K (.bool false) w):aw 295 [Γ a] w K:=by
 apply OZ;refine QS ?_;simpa using h
def RA{K:Ε->Ζ->Prop}{w:Ζ}{a b:Int}(h:K (Γ (nD a b)) w):aw 247 [Γ a,Γ b] w K:=by
 apply aXm;delta aF ai;unfold nD at h;refine L4 (L4 (zs (zs (wg (za (λh1=>?_) (λh1=>D_ (za (λh2=>?_) (λh2=>?_))))))))
 ·rwa [zzd h1]at h
 ·rwa [zzb h1,zzd h2]at h
 rwa [zzb h1,zzb h2]at h
def Ry{K:Ε->Ζ->Prop}{w:Ζ}{a b:Int}(h:K (Γ (nD a b)) w):aw 246 [Γ a,Γ b] w K:=by
 apply OY;delta aF ai;unfold nD at h;refine L1 (L1 (zs (zs (wg (za (λh1=>?_) (λh1=>D_ (za (λh2=>?_) (λh2=>?_))))))))
 ·rwa [zzd h1]at h
 ·rwa [zzb h1,zzd h2]at h
 rwa [zzb h1,zzb h2]at h
def Xy{K:Ε->Ζ->Prop}{W w:Ζ}{l:Β}{b:Nat}{c d:Int}{t:Ι}(hS:SL W (.pt b [Γ c,Γ d] t::l) w)(h:K (Γ (if c≠0 then c else d)) w):aw 245 [.slice (some ⟨b,0,none⟩) 2 2] w K:=by
 apply aXl;delta aF ai;refine zY ?_;refine⟨λus w'=>∃k:Nat,us=[Γ k]/\k<=2/\w'=w/\(1<=k->c=0)/\(2<=k->d=0),λus _=>match us with|[.int _ k]=>(2-k).toNat|_=>0,⟨0,rfl,by omega,rfl,by omega,by omega⟩,?_⟩;rintro v8 w' ⟨k,hv,hk,rfl,h1,h2⟩;cases hv;refine wg ?_;refine za (λcA=>?_) (λcA=>?_)
 ·have fm:k=0\/k=1:=by omega
  rcases fm with rfl|rfl
  ·refine zM (by decide) (zT hS .hd (v:=Γ c) rfl (QS (za (λhc=>?_) (λhc=>?_))))
   ·rwa [zzd hc]at h
   refine qL (by decide) ⟨⟨1,rfl,by omega,rfl,λ_=>by omega,λh=>by omega⟩,by dsimp only;omega⟩
  have hc:=h1 (by omega);refine zM (by decide) (zT hS .hd (v:=Γ d) rfl (QS (za (λhd=>?_) (λhd=>?_))))
  ·rwa [zzb (by omega)]at h
  refine qL (by decide) ⟨⟨2,rfl,by omega,rfl,λ_=>hc,λ_=>by omega⟩,by dsimp only;omega⟩
 have hc:=h1 (by omega);have hd:=h2 (by omega);rw[zzb (by omega),hd]at h
 exact h
def aIj(x y:Tm)(W:Ζ):aw 244 [agg (dZ x),agg (dZ y)] W λv w=>v= Γ (mR x y)/\Grown W w:=by
 apply aXk;delta aW ba ai;have hS:=SL.none W;have hG:=Grown.refl W;refine⟨_,rfl,Kh hS hG ?_⟩;clear hS hG;intro b1 w hS hG;refine⟨_,rfl,Kh hS hG ?_⟩;clear hS hG;intro b2 w hS hG;refine Tc hS hG ?_;clear hS hG;intro w hS hG;refine Gp ?_;refine Ry ?_;refine Gp ?_;refine RA ?_;refine Tb hS hG (cells:=[Γ (nD x.when y.when),Γ (nD x.id y.id)]) (by simp[eV,Value.cells,bq]) ?_;clear hS hG;intro b3 w hS hG;exact Xy hS ⟨rfl,hG⟩
def QV(v:Ε)(xs:List Tm)(hl:xs.length<=1000000):SP 243 [v,.func (.func 244) #[] #[]] [.ob (aY v 353 2 xs.length (xs.map dZ).flatten)]
  (bj (.tuple #[]) [.ob (aY v 353 2 (o7 xs).length ((o7 xs).map dZ).flatten)]):=by
 intro W F w hS;try simp only[app]at hS
 rcases aY.open hS with ⟨⟨a,rfl⟩,Ur,hc0,hS⟩|⟨b,cap,rest,rfl,vm,hlen,ij,hS⟩
 ·obtain rfl:xs=[]:=zzm Ur;refine uuo (AnyF.slices_SortFunc_none Om a 0 _ w) ?_;rintro e w' ⟨rfl,rfl⟩;have e:o7 []=[]:=by simp[o7]
  rw[e];exact⟨_,rfl,_,⟨rfl,rfl⟩,hS⟩
 have j3:=Kd nF xs;have gK:(flatK dZ 2 xs.toArray).size=(xs.map dZ).flatten.length:=by rw[<- j3];simp
 have hH:HoldsK dZ 2 w b 0 xs.toArray:=λj hj=>by
  have CX:j<(xs.map dZ).flatten.length:=by rw[<- gK];exact hj
  have e1:(flatK dZ 2 xs.toArray)[j]! = (xs.map dZ).flatten[j]:=by
   rw[vv5 (flatK dZ 2 xs.toArray) j hj];have:(flatK dZ 2 xs.toArray).toList[j]?=(xs.map dZ).flatten[j]?:=by rw[j3]
   rw[Array.getElem?_toList,xx5 hj,zzc CX]at this
   exact xxx this
  have hc:((xs.map dZ).flatten++rest)[0+j]?=some (xs.map dZ).flatten[j]:=by rw[zz2,zzs CX,zzc CX]
  rw[e1];exact⟨hS.cell .hd hc,hS.frozen .hd hc⟩
 have hb:b<w.heap.size:=by
  obtain⟨f,_,e⟩:=hS.mO .hd;exact (yyu.1 e).1
 have hK:=AnyQ.slices_SortFunc_total Om 2 (λw=>by kernel_rfl) (λw=>by kernel_rfl) dZ nF uV mR OB 244 #[] b 0 cap xs.toArray w
  (enters_of func244 (by kernel_rfl) rfl) (λm os dk _ x y=>by
   refine uuo (aIj x y (sortWorldK dZ 2 w b 0 m dk os)) ?_;rintro e w' ⟨v,rfl,rfl,q,Xz,hw⟩;exact⟨rfl,q,Xz,hw⟩) hH hb (by simp;omega) aIg
 refine uuo hK ?_;rintro e w' ⟨rfl,n,os,rfl⟩;refine⟨_,rfl,_,⟨rfl,rfl⟩,?_⟩;have vC:=On xs;have CP:=Kd nF (o7 xs);have UJ:(xs.map dZ).flatten.length=(flatK dZ 2 (o7 xs).toArray).size:=by
  rw[nK nF,size_flatK,List.size_toArray,vC.length_eq]
 have h2:=SL.grow (os:=os) (SL.putRow (n:=n) hS UJ);rw[CP]at h2
 rw[vC.length_eq];exact aY.mk vm (by rw[nK nF,vC.length_eq]) ij h2
set_option maxRecDepth 100000
open Go.RowKit
instance:DecidableRel ll:=λa b=>inferInstanceAs (Decidable (a.when<b.when\/(a.when=b.when/\a.id<b.id)))
abbrev ids(L:List Tm):Ξ:=L.map λt=>Γ t.id
def U3{L:List Tm}(hn:(L.map (·.id)).Nodup){a b:Tm}(ha:a∈L)(hb:b∈L)(h:a.id=b.id):a=b:=by
 induction L with
 | nil=>cases ha
 | cons x L ih=>
  rw[zzj,wwi]at hn
  rcases zzv.1 ha with rfl|xM<;>rcases zzv.1 hb with rfl|ig
  ·rfl
  ·exact absurd (zz1.2 ⟨b,ig,h.symm⟩) hn.1
  ·exact absurd (zz1.2 ⟨a,xM,h⟩) hn.1
  exact ih hn.2 xM ig
def q5(wp:Nat)(L:List Tm)(now x:Int)(hn:L.length<=1000000)(hd:(L.map (·.id)).Nodup):SP 181 [Δ wp,Γ x] [.ob (fY wp L now)]
  (λv post=>∃D:List Tm,D.Perm (gT (max now (mS x)) L)/\(D.Pairwise λx y=>¬ll y x)/\post=[.ob (fY wp (L.filter λt=>!decide (t.when<=max now (mS x))) (max now (mS x))),.ob (aY v 3 1 D.length (ids D))]):=by
 refine Enzz λW F w hS=>?_;apply aWk;delta aF aW cq ba bG ai aZ;obtain⟨xs,hx,hS⟩:=fY.iff.1 hS;refine Gn λw hS=>?_;refine zT hS Xh (wA hx.len) ?_;refine Cg (Z5 x) λw hS=>?_;refine zT hS Xh (wA hx.len) ?_;refine Gp ?_;generalize max now (mS x)=n2 at *
 refine ZN hS Xu (wA hx.len) rfl ?_;clear hS;intro w hS;rw[ban hx.len]at hS
 have j3:(xs.flatMap (·.2)).length<=1000000:=by rw[hx.perm.length_eq];exact hn
 refine Cc (Q5 wp xs n2 hx.len j3) ?_;clear hS;rintro dv post rfl w hS;try simp only[app]at hS
 have l6:(gT n2 (xs.flatMap (·.2))).length<=1000000:=xx3 (xx8 _ _) j3;have KU:(gT n2 (xs.flatMap (·.2))).Perm (gT n2 L):=hx.perm.filter _;refine Cg (QV dv _ l6) λw hS=>?_;have lK:=On (gT n2 (xs.flatMap (·.2)));have tu:=aw8 (gT n2 (xs.flatMap (·.2)));have CD:=lK.trans KU;have xK:=lK.length_eq;generalize o7 (gT n2 (xs.flatMap (·.2)))=D at *
 rw[<- xK]at l6
 clear lK KU;refine zB hS (t:=353) (sz:=2) (n:=D.length) (cells:=(D.map dZ).flatten) Xh ?_;have hS:=fY.iff.2 ⟨xs,hx,SL.bA hS (t:=.pt wp (gr xs n2) 178::.ob (ze jt xs)::.ob (aY dv 353 2 D.length ((D.map dZ).flatten))::F) Xi⟩;clear hx;have e0:L.filter (λt=>decide (t∉D.take 0))=L:=by simp
 refine⟨λus w=>∃(k:Nat) (o:Ε),us=[o,Γ k]/\k<=D.length/\SL W (.ob (aY o 3 1 k (ids (D.take k)))::.ob (fY wp (L.filter λt=>decide (t∉D.take k)) n2)::.ob (aY dv 353 2 D.length ((D.map dZ).flatten))::F) w,
  λus _=>match us with|[_,.int _ k]=>(D.length-k).toNat|_=>0,⟨0,_,rfl,by omega,by rw[e0];exact aY.nil hS⟩,?_⟩
 clear hS e0;rintro v6 v25 w ⟨k,o,bM,hk,hS⟩;cases bM;refine bw (λh=>?_) (λh=>?_)
 ·have ga:k<D.length:=by omega
  refine yK hS (t:=353) Xh nF (x:=D[k]) (by simp[ga]) ga ?_;refine zD hS ?_;clear hS;intro b w hS;refine zO (vs:=dZ D[k]) hS .hd rfl rfl (uV _) ?_;clear hS;intro w hS;refine Gp ?_;have CP:(L.filter λt=>decide (t∉D.take k)).length<=1000000:=xx3 (xx8 _ _) hn;refine Cg (Qs wp _ n2 D[k].id CP) λw hS=>?_;refine Gm λb w hS=>?_;have jx:lO (L.filter λt=>decide (t∉D.take k)) D[k].id=L.filter λt=>decide (t∉D.take (k+1)):=by
   unfold lO;rw[List.filter_filter];refine List.filter_congr λt ht=>?_;have Tx:D[k]∈L:=(xxf.1 (CD.subset (zzi ga))).1;have C8:t∈D.take (k+1)↔t∈D.take k\/t=D[k]:=by rw[zzh ga,yyb,zz8]
   have xY:t.id=D[k].id↔t=D[k]:=⟨λe=>U3 hd ht Tx e,λe=>by rw[e]⟩;rw[xxg];simp only[zzk,zzo,ne_eq];rw[C8,xY,not_or];first|exact And.comm|exact Iff.rfl
  rw[jx]at hS
  refine zx (n:=k) (m:=1) hS Xr (fC (cs:=[Γ D[k].id]) hS .hd rfl) rfl rfl (by simp[Value.oneCell']) (by omega) (by omega) ?_;clear hS;intro o2 w hS;refine Gp ?_;have ht:ids (D.take k)++[Γ D[k].id]=ids (D.take (k+1)):=by
   unfold ids;rw[zzh ga,zzx];rfl
  rw[ht]at hS
  exact⟨⟨k+1,o2,by simp,by omega,aI hS⟩,by dsimp only;omega⟩
 have x9:k=D.length:=by omega
 subst x9;rw[zz6]at hS
 have e:L.filter (λt=>decide (t∉D))=L.filter λt=>!decide (t.when<=n2):=by
  refine List.filter_congr λt ht=>?_;have:t∈D↔t.when<=n2:=by
   rw[CD.mem_iff];unfold gT;rw[xxf];simp[ht]
  by_cases hw:t.when<=n2
  ·simp[this,hw]
  have h3:t∉D:=λhm=>hw (this.1 hm);simp only[h3,not_false_eq_true,decide_true,hw,wwk,Bool.not_false]
 rw[e]at hS
 exact⟨_,⟨D,CD,tu,rfl⟩,aI hS⟩
def nB(p:uB)(c:df)(H:aX)(s:gZ):zw:=gi λh:Ε × Ε × Ε=>zG (jF H ⟨s.held.aR,h.1,h.2.1⟩ s.held/\fX H h.2.2 s.k.reqs)
 [.pt p.wp (pa p.kp p.qp p.rp c.cC s.held.aR h.1 h.2.1 s.n) 325,.pt p.kp (nj p.gp p.dp p.lp p.pp s.k.aR h.2.2) 198,.ob (fT p.gp s.k.ts),.ob (bQ p.lp p.dp s.k.g),.ob (kE p.pp s.k.plan),.ob (Gate p.qp p.qb c.cap s.out (s.L.map oq)),kG p.rp c.b c.m c.j s.ib s.jb]
section
variable {W w:Ζ} {l F:Β} {p:uB} {c:df} {H:aX} {s:gZ}
def fc.take(hS:SL W l w)(r:dW (.ob (fc p c H s)) l F):SL W (.ob (bk p.dp s.k.d)::.ob (nB p c H s)::F) w:=by
 obtain⟨ov,nv,hi,hS⟩:=fc.open hS r;obtain⟨rv,hr,hS⟩:=bX.open hS Xr;have h2:SL W (.ob (nB p c H s)::.ob (bk p.dp s.k.d)::F) w:=by
  unfold nB;simp only[SL.ex,SL.fact,zzq,zzp];exact⟨(ov,nv,rv),⟨hi,hr⟩,aI hS⟩
 exact h2.perm (.swap _ _ _)
def nB.open(hS:SL W l w)(r:dW (.ob (nB p c H s)) l F):∃ov nv rv,jF H ⟨s.held.aR,ov,nv⟩ s.held/\fX H rv s.k.reqs/\SL W (.pt p.wp (pa p.kp p.qp p.rp c.cC s.held.aR ov nv s.n) 325::.pt p.kp (nj p.gp p.dp p.lp p.pp s.k.aR rv) 198::.ob (fT p.gp s.k.ts)::.ob (bQ p.lp p.dp s.k.g)::.ob (kE p.pp s.k.plan)::.ob (Gate p.qp p.qb c.cap s.out (s.L.map oq))::kG p.rp c.b c.m c.j s.ib s.jb::F) w:=by
 have h:=hS.perm r.perm;unfold nB at h;simp only[SL.ex,SL.fact,zzq,zzp]at h;obtain⟨⟨ov,nv,rv⟩,⟨hi,hr⟩,h⟩:=h;exact⟨ov,nv,rv,hi,hr,h⟩
def fc.Cu(s:gZ)(d:DS)(hS:SL W l w)(k:eQ [.ob (bk p.dp d),.ob (nB p c H s)] l F):SL W (.ob (fc p c H {s with k:={s.k with d:=d}})::F) w:=by
 have hS:SL W (.ob (bk p.dp d)::.ob (nB p c H s)::F) w:=hS.pick k;obtain⟨ov,nv,rv,hi,hr,hS⟩:=nB.open hS Xr;have hS:=bX.lR (g:=s.k.g) (d:=d) (ts:=s.k.ts) (plan:=s.k.plan) (aR:=s.k.aR) (reqs:=s.k.reqs) hS hr Xp;exact fc.lR (k:={s.k with d:=d}) (L:=s.L) (held:=s.held) (n:=s.n) hS hi Xp
end
structure iq where
 np:Nat
 w:uB
 sp:Nat
 tp:Nat
 sl:Nat
 rb:Nat
 mp:Nat
 wi:Nat
 sn:Nat
 dg:Nat
 bp:Nat
 ck:Nat
abbrev vZ(p:iq)(cf:dm)(pos:Int)(dv:Ε):Ξ:=[iD p.w.kp,bH p.sp,bH p.rb,Γ pos,bH p.mp,bH p.sn,bH p.w.qp,bH p.w.rp,bH p.w.wp,bH p.bp,dv,Γ cf.tables,Γ cf.late,Γ cf.size,Γ cf.queue,Γ cf.chunk,Γ cf.batch,Γ cf.base,Γ cf.cC,Γ cf.Am,Γ cf.every,bH p.w.dp,bH p.ck]
def wm(t:bS):Η:=ji (jX t)
def Sj(n:Int):Ξ:=[Γ n]
abbrev uj(v:Ε)(l:Ω):Μ:=.ob (bP v 2 1 l.length (l.map Sj).flatten)
abbrev EK(p:iq)(cf:dm)(kc:df)(H:aX)(c:bE)(dv:Ε):Β:=[.pt p.np (vZ p cf c.pos dv) 142,uj dv c.iP,.ob (fc p.w kc H c.s),.ob (cj p.sp p.tp p.w.dp p.sl c.k),.ob (fD p.mp p.wi H c.m),.pt p.sn (sf p.sp p.mp p.wi p.dg cf.chunk) 270,.ob (ke p.dg c.dr),.ob (Ring p.rb kc.cap (c.q.map wm)),.ob (fY p.ck [] c.now),mD p.bp cf.every c.due c.last]
def dj(p:iq)(cf:dm)(kc:df)(H:aX)(c:bE):zw:=gi λdv:Ε=>zG True (EK p cf kc H c dv)
section
variable {W w:Ζ} {l F:Β} {p:iq} {cf:dm} {kc:df} {H:aX} {c:bE}
def dj.iff:SL W (.ob (dj p cf kc H c)::l) w↔∃dv,SL W (.pt p.np (vZ p cf c.pos dv) 142::uj dv c.iP::.ob (fc p.w kc H c.s)::.ob (cj p.sp p.tp p.w.dp p.sl c.k)::.ob (fD p.mp p.wi H c.m)::.pt p.sn (sf p.sp p.mp p.wi p.dg cf.chunk) 270::.ob (ke p.dg c.dr)::.ob (Ring p.rb kc.cap (c.q.map wm))::.ob (fY p.ck [] c.now)::mD p.bp cf.every c.due c.last::l) w:=by
 unfold dj;simp only[SL.ex,SL.fact,zzq,zzp,vv7]
def dj.open(hS:SL W l w)(r:dW (.ob (dj p cf kc H c)) l F):∃dv,SL W (.pt p.np (vZ p cf c.pos dv) 142::uj dv c.iP::.ob (fc p.w kc H c.s)::.ob (cj p.sp p.tp p.w.dp p.sl c.k)::.ob (fD p.mp p.wi H c.m)::.pt p.sn (sf p.sp p.mp p.wi p.dg cf.chunk) 270::.ob (ke p.dg c.dr)::.ob (Ring p.rb kc.cap (c.q.map wm))::.ob (fY p.ck [] c.now)::mD p.bp cf.every c.due c.last::F) w:=dj.iff.1 (hS.perm r.perm)
def dj.put(c:bE){dv:Ε}(hS:SL W l w)(k:eQ (EK p cf kc H c dv) l F):SL W (.ob (dj p cf kc H c)::F) w:=dj.iff.2 ⟨dv,hS.pick k⟩
def dj.lR{s:gZ}{k:b7}{m:fv}{dr:fW}{q:List bS}{pos due last:Int}{iP:Ω}{now:Int}{dv:Ε}(hS:SL W l w)(r:eQ [.pt p.np (vZ p cf pos dv) 142,uj dv iP,.ob (fc p.w kc H s),.ob (cj p.sp p.tp p.w.dp p.sl k),.ob (fD p.mp p.wi H m),.pt p.sn (sf p.sp p.mp p.wi p.dg cf.chunk) 270,.ob (ke p.dg dr),.ob (Ring p.rb kc.cap (q.map wm)),.ob (fY p.ck [] now),mD p.bp cf.every due last] l F):SL W (.ob (dj p cf kc H ⟨s,k,m,dr,q,pos,due,last,iP,now⟩)::F) w:=dj.iff.2 ⟨dv,hS.pick r⟩
end
section
variable (p:iq) (cf:dm) (kc:df) (H:aX) (c:bE)
def qr(n:Int)(hn:0<=c.now/\c.now<=1125899906842624):SP 129 [bH p.np,Γ n] [.ob (dj p cf kc H c)] (bj (Γ (c.tick n).2) [.ob (dj p cf kc H (c.tick n).1)]):=by
 refine Enzz λW F w hS=>?_;apply aRp;delta aF bd ba bG ai;unfold bE.tick;refine bw (λh=>?_) (λh1=>?_)
 ·rw[zzd (.inl h)];(exact bt hS)
 refine bw (λh=>?_) (λh2=>?_)
 ·rw[zzd (.inr (by omega))];(exact bt hS)
 rw[zzb (by omega)];obtain⟨dv,hS⟩:=dj.open hS Xr;refine Gp ?_;refine Cg (y7 p.ck [] c.now) λw hS=>?_;refine za (λh=>?_) (λh3=>?_)
 ·rw[zzd (by omega)];have hS:=dj.put c hS Xp;(exact bt hS)
 rw[zzb (by omega)];refine Gn λw hS=>?_;refine Cg (y7 p.ck [] c.now) λw hS=>?_;refine Cc (q5 p.ck [] c.now (c.now+n) (by simp) (by simp)) ?_;clear hS;rintro v post ⟨D,_,_,rfl⟩ w hS;try simp only[app]at hS
 have e:max c.now (mS (c.now+n))=c.now+n:=by unfold mS;omega
 rw[e,List.filter_nil]at hS
 have hS:=dj.lR (s:=c.s) (k:=c.k) (m:=c.m) (dr:=c.dr) (q:=c.q) (pos:=c.pos) (due:=c.due) (last:=c.last) (iP:=c.iP) hS Xp;(exact bt hS)
end
section
variable (p:iq) (cf:dm) (kc:df) (H:aX) (c:bE)
end
section
variable (p:iq) (cf:dm) (kc:df) (H:aX) (c:bE)
end
section
variable (p:iq) (cf:dm) (kc:df) (H:aX) (c:bE)
def EJ(p:iq)(cf:dm)(kc:df)(H:aX)(c:bE)(u:Ε)(v:Ε)(post:Β):Prop:=v=u/\∃H',H.le H'/\post=[.ob (dj p cf kc H' c),.mem H']
end
section
variable (p:iq) (cf:dm) (kc:df) (H:aX) (c:bE)
end
abbrev sa(cf:dm)(a0 a1 a2 a3 a4 a5 a6 a7 a8 a9 pg y z:Ε):Ξ:=[a0,a1,a2,a3,a4,a5,a6,a7,a8,a9,pg,Γ cf.tables,Γ cf.late,Γ cf.size,Γ cf.queue,Γ cf.chunk,Γ cf.batch,Γ cf.base,Γ cf.cC,Γ cf.Am,Γ cf.every,y,z]
def Rh{cf:dm}{a0 a1 a2 a3 a4 a5 a6 a7 a8 a9 pg y z:Ε}:∀j v,(pr cf)[j]?=some v->(sa cf a0 a1 a2 a3 a4 a5 a6 a7 a8 a9 pg y z)[11+j]?=some v
 | 0,v,h=>h
 | 1,v,h=>h
 | 2,v,h=>h
 | 3,v,h=>h
 | 4,v,h=>h
 | 5,v,h=>h
 | 6,v,h=>h
 | 7,v,h=>h
 | 8,v,h=>h
 | 9,v,h=>h
 | j+10,v,h=>by simp[pr]at h
def z6:∀i,i<6->([Γ 0,Γ 0,Γ 0,Γ 0,Γ 0,Γ 0]:Ξ)[i]?=some (Γ 0)
 | 0,_=>rfl
 | 1,_=>rfl
 | 2,_=>rfl
 | 3,_=>rfl
 | 4,_=>rfl
 | 5,_=>rfl
section
variable (np dp ck sp tp sl kp gp lp pp:Nat) (cf:dm) (kc:df) (H:aX) (k1:b7) (k2:c_) (now:Int)
def YH{n:Nat}(hc:CC cf kc n)(a0 a1 a2 a3 a4 a5 a6 a7 a8 a9 pg:Ε)(vA:0<=now/\now<=1125899906842624)(hl:0<=k2.aR/\k2.aR<=1099511627776)(vx:fV k2.reqs)(pJ:∀r∈k2.reqs,r.table<(n:Int)/\r.at_<=k2.aR):SP 118 [bH np,bH sp,bH kp] [.pt np (sa cf a0 a1 a2 a3 a4 a5 a6 a7 a8 a9 pg (bH dp) (bH ck)) 142,.ob (cj sp tp dp sl k1),.ob (bX kp gp dp lp pp H k2),.ob (fY ck [] now),.mem H]
  (λv post=>v= Γ 0/\∃(p:iq) (H':aX),H.le H'/\p.np=np/\p.w.dp=dp/\p.ck=ck/\post=[.ob (dj p cf kc H' (bE.start cf k1 k2 now)),.mem H']):=by
 refine Enzz λW F w hS=>?_;apply aRk;delta aF bd aW ba bG ai bC aZ wB;have f_:¬vY cf.tables cf.late cf.chunk k2.aR k2.reqs:=by
  have h1:=hc.tables;have h2:=hc.n1;have h3:=hc.n8;have h4:=hc.Mf;have h5:=hc.Me;have h6:=hc.c1;have h7:=hc.BO;rintro (h|h|h|h|h|h|h|h|h|⟨r,hr,h⟩)
  ·omega
  ·omega
  ·omega
  ·rw[h1,zzy]at h;omega
  ·omega
  ·omega
  ·omega
  ·omega
  ·exact h vx
  have:=pJ r hr;omega
 refine Gp ?_;refine yl (o:=11) (vs:=pr cf) hS Xh rfl Rh ?_;refine Gm λb w hS=>?_;refine Cg (yU kp gp dp lp pp H k2) λw hS=>?_;refine Gm λb w hS=>?_;refine Gm λb w hS=>?_;rw[hc.queue];refine Cc (M5 kc.cap hc.q1 hc.AM) ?_;clear hS;rintro _ post ⟨rb,rfl,rfl⟩ w hS;refine Gn λw hS=>?_;refine yu (j:=0) (by decide) ?_;refine Gn λw hS=>?_;rw[hc.queue];refine Cc (Tk kc.cap hc.q1 hc.AM) ?_;clear hS;rintro _ post ⟨qp,qb,rfl,rfl⟩ w hS;refine Gn λw hS=>?_;refine yu (j:=1) (by decide) ?_;refine Gn λw hS=>?_;rw[hc.base,hc.cm,hc.L5];refine Cc (QX kc.b kc.m kc.j) ?_;clear hS;rintro _ post hq w hS;rw[zzd hc.may]at hq
 obtain⟨rp,rfl,rfl⟩:=hq;refine Gn λw hS=>?_;refine yu (j:=2) (by decide) ?_;refine Gn λw hS=>?_;refine Cg (y7 ck [] now) λw hS=>?_;refine Cg (yU kp gp dp lp pp H k2) λw hS=>?_;refine Cc (P8 cf.every now k2.aR ⟨hc.e1,hc.e2⟩ vA hl) ?_;clear hS;rintro _ post ⟨bp,rfl,rfl⟩ w hS;refine Gn λw hS=>?_;refine yu (j:=3) (by decide) ?_;refine Gn λw hS=>?_;refine Cg (yU kp gp dp lp pp H k2) λw hS=>?_;refine Cc (qz kp gp dp lp pp H k2 vx.1) ?_;clear hS;rintro rv post ⟨H1,dF,Lt,rfl⟩ w hS;(try simp only[app]at hS);refine Gp ?_
 refine Cc (QH H1 cf.tables cf.late cf.chunk k2.aR rv k2.reqs Lt (by have:=vx.1;omega)) ?_;clear hS;rintro _ post hq w hS;rcases hq with ⟨hb,_⟩|⟨_,mp,wi,H2,cT,rfl,rfl⟩
 ·exact absurd hb f_
 refine Gn λw hS=>?_;refine yu (j:=4) (by decide) ?_;refine Gn λw hS=>?_;rw[hc.batch];refine Cc (baq kp qp rp kc.cC hc.b1 hc.BH) ?_;clear hS;rintro _ post ⟨wp,rfl,rfl⟩ w hS;refine Gn λw hS=>?_;refine yu (j:=5) (by decide) ?_;refine Gn λw hS=>?_;refine⟨λus w'=>∃i:Nat,us=[Γ i]/\i<=6/\w'=w,λus _=>match us with|[.int _ i]=>(6-i).toNat|_=>0,⟨0,rfl,by decide,rfl⟩,?_⟩;rintro v96 w' ⟨i,bM,hi,rfl⟩;cases bM;refine bw (λh=>?_) (λh=>?_)
 ·have K3:i<6:=by omega
  refine q8 underlying229 (λw=>by kernel_rfl) (λw=>by kernel_rfl) K3 (z6 i K3) ?_;refine Gp ?_;refine Χ ?_;refine Gp ?_;exact⟨⟨i+1,rfl,by omega,rfl⟩,by dsimp only;omega⟩
 refine Gp ?_;refine Cc (qS sp mp wi H2 ⟨cf.tables,cf.late,k2.aR,k2.reqs,mC cf.chunk⟩ cf.chunk) ?_;clear hS;rintro _ post hq w hS;rcases hq with ⟨hb,_⟩|⟨_,sn,dg,rfl,rfl⟩
 ·exact absurd ⟨hc.c1,hc.BO⟩ hb
 (try simp only[app]at hS);refine Gp ?_
 refine Υ ?_;refine Gn λw hS=>?_;refine Qm (o:=0) (vs:=[bH kp,bH sp,bH rb,Γ k2.aR,bH mp,bH sn,bH qp,bH rp,bH wp,bH bp,Θ]) hS Xu rfl (by show 11<=23;decide) (by simp[Value.oneCell']) λw hS=>?_;have hS:=bX.M0 cT hS Xr;simp only[sa,List.take,List.drop,zzq,zzp,zz2]at hS;have hS:SL W (.pt wp (pa kp qp rp kc.cC 0 Θ Θ 0) 325::.ob (bX kp gp dp lp pp H2 k2)::.ob (Gate qp qb kc.cap 0 [])::kG rp kc.b kc.m kc.j 0 0::.pt np (sa cf (bH kp) (bH sp) (bH rb) (Γ k2.aR) (bH mp) (bH sn) (bH qp) (bH rp) (bH wp) (bH bp) Θ (bH dp) (bH ck)) 142::.ob (cj sp tp dp sl k1)::.ob (fD mp wi H2 ⟨cf.tables,cf.late,k2.aR,k2.reqs,mC cf.chunk⟩)::.pt sn (sf sp mp wi dg cf.chunk) 270::.ob (ke dg rz)::.ob (Ring rb kc.cap [])::.ob (fY ck [] now)::mD bp cf.every (nk cf.every now) k2.aR::.mem H2::F) w:=aI hS;have pC:jF H2 ⟨nZ.aR,Θ,Θ⟩ nZ:=⟨rfl,bK.nil _ _,bK.nil _ _⟩;have hS:=(fc.iff (p:=⟨wp,kp,gp,dp,lp,pp,qp,qb,rp⟩) (c:=kc) (H:=H2) (s:=⟨k2,[],0,0,0,nZ,0⟩)).2 ⟨Θ,Θ,pC,hS⟩;have hS:=bP.lP (t:=2) (sz:=1) (a:=none) hS;have hS:SL W (.pt np (sa cf (bH kp) (bH sp) (bH rb) (Γ k2.aR) (bH mp) (bH sn) (bH qp) (bH rp) (bH wp) (bH bp) Θ (bH dp) (bH ck)) 142::.ob (bP Θ 2 1 0 [])::.ob (fc ⟨wp,kp,gp,dp,lp,pp,qp,qb,rp⟩ kc H2 ⟨k2,[],0,0,0,nZ,0⟩)::.ob (cj sp tp dp sl k1)::.ob (fD mp wi H2 ⟨cf.tables,cf.late,k2.aR,k2.reqs,mC cf.chunk⟩)::.pt sn (sf sp mp wi dg cf.chunk) 270::.ob (ke dg rz)::.ob (Ring rb kc.cap [])::.ob (fY ck [] now)::mD bp cf.every (nk cf.every now) k2.aR::.mem H2::F) w:=aI hS;have hS:=(dj.iff (p:=⟨np,⟨wp,kp,gp,dp,lp,pp,qp,qb,rp⟩,sp,tp,sl,rb,mp,wi,sn,dg,bp,ck⟩) (cf:=cf) (kc:=kc) (H:=H2) (c:=bE.start cf k1 k2 now)).2 ⟨Θ,hS⟩;exact⟨[.ob (dj ⟨np,⟨wp,kp,gp,dp,lp,pp,qp,qb,rp⟩,sp,tp,sl,rb,mp,wi,sn,dg,bp,ck⟩ cf kc H2 (bE.start cf k1 k2 now)),.mem H2],⟨rfl,⟨np,⟨wp,kp,gp,dp,lp,pp,qp,qb,rp⟩,sp,tp,sl,rb,mp,wi,sn,dg,bp,ck⟩,H2,aX.le_trans dF cT,rfl,rfl,rfl,rfl⟩,aI hS⟩
def Po(np dp ck:Nat)(cf:dm)(kc:df)(H:aX)(c:bE)(v:Ε)(post:Β):Prop:=v= Γ 0/\∃(p:iq) (H':aX),H.le H'/\p.np=np/\p.w.dp=dp/\p.ck=ck/\post=[.ob (dj p cf kc H' c),.mem H']
def qn{n:Nat}(hc:CC cf kc n)(d:DS){N:Nat}(e1:nr d cf.tables cf.size=(k1.d,.ok k1))(e2:mj k1.d cf.tables cf.size=(k2.d,.ok k2))(br:d.Ok N)(Uw:k1.d.Ok N)(hN:N<=100000000)(dH:d.ops<=90000)(Uz:k1.d.ops<=90000)(kY:∀d' g,eO d 16 cf.size=(d',.ok g)->(cr g.a_).length<=50000)(kZ:∀d' g,eO k1.d 8192 cf.size=(d',.ok g)->(cr g.a_).length<=200)
  (a0 a1 a2 a3 a4 a5 a6 a7 a8 a9 pg:Ε) (vA:0<=now/\now<=1125899906842624) (hl:0<=k2.aR/\k2.aR<=1099511627776) (vx:fV k2.reqs) (pJ:∀r∈k2.reqs,r.table<(n:Int)/\r.at_<=k2.aR):SP 80 [bH np] [.pt np (sa cf a0 a1 a2 a3 a4 a5 a6 a7 a8 a9 pg (bH dp) (bH ck)) 142,.ob (bk dp d),.ob (fY ck [] now),.mem H] (Po np dp ck cf kc H (bE.start cf k1 k2 now)):=by
 refine Enzz λW F w hS=>?_;apply a_z;delta aF bd aW bG ai;refine Gn λw hS=>?_;refine Cc (qR H dp d cf.tables cf.size br (by omega) dH kY) ?_;clear hS;rintro r post hq w hS;unfold Bd at hq;rw[e1]at hq
 obtain⟨sp,tp,sl,H1,dF,rfl,rfl⟩:=hq;(try simp only[app]at hS);refine Gp ?_
 refine Χ ?_;refine Gn λw hS=>?_;refine Cc (qx H1 dp k1.d cf.tables cf.size Uw hN Uz kZ) ?_;clear hS;rintro r post hq w hS;unfold EU at hq;rw[e2]at hq
 obtain⟨kp,gp,lp,pp,H2,cT,rfl,rfl⟩:=hq;(try simp only[app]at hS);refine Gp ?_
 refine Χ ?_;refine Cc (YH np dp ck sp tp sl kp gp lp pp cf kc H2 k1 k2 now hc a0 a1 a2 a3 a4 a5 a6 a7 a8 a9 pg vA hl vx pJ) ?_;clear hS;rintro _ post ⟨rfl,p,H3,da,pG,tn,Lo,rfl⟩ w hS;try simp only[app]at hS
 exact⟨_,⟨rfl,p,H3,aX.le_trans dF (aX.le_trans cT da),pG,tn,Lo,rfl⟩,aI hS⟩
end
section
variable (p:iq) (cf:dm) (kc:df) (H:aX) (c:bE)
end
def z7(n a b:Int):SP 113 [Γ n,Γ a,Γ b] [] (bj (.bool (decide (a<=n/\n<=b))) []):=by
 refine Enzz λW F w hS=>?_;apply aRf;delta aF bc;refine bw (λh=>?_) (λh=>?_)
 ·refine Gp ?_;rw[show decide (a<=n/\n<=b)=decide (n<=b) from yyd.2 ⟨λh=>h.2,λh'=>⟨by omega,h'⟩⟩];(exact bt hS)
 rw[zz5 (p:=a<=n/\n<=b) (by omega)];(exact bt hS)
def Qq{cf:dm}{kc:df}{n:Nat}(hc:CC cf kc n):SP 77 [agg (pr cf)] [] (bj (.bool true) []):=by
 refine Enzz λW F w hS=>?_;apply a_v;delta aF aW bc ai;have h1:=hc.tables;have h2:=hc.n1;have h3:=hc.n8;have h4:=hc.Mf;have h5:=hc.queue;have h6:=hc.batch;have h7:=hc.q1;have h8:=hc.AM;have h9:=hc.b1;have kR:=hc.BH;have hp:(2:Int) ^ n<=256:=by
  have:(2:Nat) ^ n<=2 ^ 8:=uug (by decide) h3;have h:=Int.ofNat_le.2 this
  push_cast at h
  exact h
 have Ln:(1:Int)<=2 ^ n:=by
  have h:=Int.ofNat_le.2 (Nat.one_le_two_pow (n:=n))
  push_cast at h
  exact h
 refine zu hS λxb w hS=>?_;unfold pr at hS;refine Gn λw hS=>?_;refine yh (by kernel_rfl) (z7 cf.tables 1 8) rfl hS Xp ?_;rintro _ post ⟨rfl,rfl⟩ w hS;try simp only[app]at hS
 rw[zzr (p:=1<=cf.tables/\cf.tables<=8) (by omega)];refine Gp ?_;rw[hc.tables];refine N8 (n:=n) (by omega) (by omega) ?_;refine Gp ?_;refine yh (by kernel_rfl) (z7 cf.late 0 (1*2 ^ n-1)) rfl hS Xp ?_;rintro _ post ⟨rfl,rfl⟩ w hS;try simp only[app]at hS
 rw[zzr (p:=0<=cf.late/\cf.late<=(1*2 ^ n-1)) ⟨hc.Me,by omega⟩];refine Gp ?_;refine yh (by kernel_rfl) (z7 cf.size 64 65536) rfl hS Xp ?_;rintro _ post ⟨rfl,rfl⟩ w hS;try simp only[app]at hS
 rw[zzr (p:=64<=cf.size/\cf.size<=65536) ⟨hc.s0,hc.s1⟩];refine Gp ?_;refine yh (by kernel_rfl) (z7 cf.queue 1 64) rfl hS Xp ?_;rintro _ post ⟨rfl,rfl⟩ w hS;try simp only[app]at hS
 rw[zzr (p:=1<=cf.queue/\cf.queue<=64) (by omega)];refine Gp ?_;refine yh (by kernel_rfl) (z7 cf.chunk 1 64) rfl hS Xp ?_;rintro _ post ⟨rfl,rfl⟩ w hS;try simp only[app]at hS
 rw[zzr (p:=1<=cf.chunk/\cf.chunk<=64) ⟨hc.c1,hc.BO⟩];refine Gp ?_;refine yh (by kernel_rfl) (z7 cf.batch 1 64) rfl hS Xp ?_;rintro _ post ⟨rfl,rfl⟩ w hS;try simp only[app]at hS
 rw[zzr (p:=1<=cf.batch/\cf.batch<=64) (by omega)];refine Gp ?_;rw[hc.base,hc.cm,hc.L5];refine Cc (ZZ kc.b kc.m kc.j) ?_;clear hS;rintro _ post ⟨rfl,rfl⟩ w hS;try simp only[app]at hS
 rw[zzr hc.may];refine Gp ?_;refine za (λh=>?_) (λh=>absurd hc.e1 h);refine Gp ?_;rw[zzr hc.e2];(exact bt hS)
def Z1{cf:dm}{kc:df}{n:Nat}(H:aX)(hc:CC cf kc n):SP 44 [agg (pr cf)] [.mem H] (λv post=>∃(p:iq) (H':aX),H.le H'/\v= .tuple #[bH p.np,Γ 0]/\post=[.ob (dj p cf kc H' (po cf n)),.mem H']):=by
 refine Enzz λW F w hS=>?_;apply aZw;delta aF bD ai bC aZ;obtain⟨e1,e2,h0⟩:=sw.first (kc:=kc) hc;obtain⟨tr,xs,hd,RS,RK,hb,ha⟩:=h0;refine zu hS λxb w hS=>?_;refine Gp ?_;refine Cg (Qq hc) λw hS=>?_;refine zr (λh=>by cases h) (λ_=>?_);refine Gn λw hS=>?_;refine Cc (QI) ?_;clear hS;rintro _ post ⟨dp,rfl,rfl⟩ w hS;(try simp only[app]at hS);refine Gp ?_
 refine Cc (QJ 0) ?_;clear hS;rintro _ post ⟨ck,rfl,rfl⟩ w hS;try simp only[app]at hS
 rw[show mS 0=0 from rfl]at hS
 refine Gp ?_;refine⟨sa cf (.pointer none) (.pointer none) (.pointer none) (Γ 0) (.pointer none) (.pointer none) (.pointer none) (.pointer none) (.pointer none) (.pointer none) Θ (bH dp) (bH ck),rfl,_,rfl,zD hS λnp w hS=>?_⟩;have ho:∀(base:Int),0<=base->base<=12288->∀d' g,eO eP base cf.size=(d',.ok g)->(cr g.a_).length=0:=λbase b0 b1 d' g e=>by
  rw[DT b0 b1 hc.s0 hc.s1]at e
  cases e;rfl
 refine Cc (qn np dp ck cf kc H (oX n cf.size) (ni n cf.size) 0 hc eP (N:=nJ 0) e1 e2 (we _) (we _) (by decide) (by decide) (show (0:Nat)<=90000 by decide) (λd' g e=>by rw[ho 16 (by decide) (by decide) d' g e];decide) (λd' g e=>by rw[ho 8192 (by decide) (by decide) d' g e];decide) _ _ _ _ _ _ _ _ _ _ _ (by decide) ⟨ha.XK.l0,hb.mx.Jd⟩ hb.mx.may ha.rqk) ?_;clear hS;rintro _ post ⟨rfl,q,H3,da,pG,tn,Lo,rfl⟩ w hS;(try simp only[app]at hS);refine Gp ?_
 refine Χ ?_;have hS:SL W (.ob (dj q cf kc H3 (po cf n))::_) w:=hS;exact⟨_,⟨q,H3,da,by rw[pG],rfl⟩,aI hS⟩
section
end
def fD.AI{W w:Ζ}{l F:Β}{mp wp:Nat}{H:aX}{m:fv}(hS:SL W l w)(r:dW (.ob (fD mp wp H m)) l F):∃rv,fX H rv m.reqs/\SL W (.pt mp (AE m wp rv) 156::.ob (iN wp m.eh)::F) w:=fD.iff.1 (hS.perm r.perm)
def Gate.AI{W w:Ζ}{l F:Β}{g b cap out:Nat}{L:Ψ}(hS:SL W l w)(r:dW (.ob (Gate g b cap out L)) l F):(L.length+out<=cap/\cap<=64)/\SL W (.pt g [Δ b,Γ out] 159::.ob (Ring b cap L)::F) w:=Gate.open (hS.perm r.perm)
def Gate.put{W w:Ζ}{l F:Β}{g b cap out:Nat}{L:Ψ}(hA:L.length+out<=cap/\cap<=64)(hS:SL W l w)(k:eQ [.pt g [Δ b,Γ out] 159,.ob (Ring b cap L)] l F):SL W (.ob (Gate g b cap out L)::F) w:=Gate.close hA (hS.pick k)
section
variable (p:iq) (cf:dm) (kc:df) (H:aX) (c:bE)
set_option maxHeartbeats 4000000 in
def ZD{N:Nat}(hg:gY c.k.g N)(hN:N<=1000000000)(Lr:c.s.L.length+c.s.out<=kc.cap)(bc9:c.m.eh.rows.length<=1000):SP 47 [bH p.np] [.ob (dj p cf kc H c),.mem H] (EJ p cf kc H c (agg (B8 (c.look kc)))):=by
 refine Enzz λW F w hS=>?_;apply aZy;delta aW ba bG ai;obtain⟨dv,hS⟩:=dj.open hS Xr;obtain⟨ov,nv,hi,hS⟩:=fc.open hS Xr;obtain⟨rv,hr,hS⟩:=fD.AI hS Xr;obtain⟨hG,hS⟩:=Gate.AI hS Xr;refine Gm λb w hS=>?_;refine yl (vs:=[bH p.wi]) hS Xh rfl (λj v h=>?_) ?_
 ·match j,h with
  | 0,h=>exact h
  | j+1,h=>simp at h
 refine Cg (Yb p.wi) λw hS=>?_;have hS:=fD.put c.m rv hr hS Xp;refine Cg (yU p.w.kp p.w.gp p.w.dp p.w.lp p.w.pp H c.s.k) λw hS=>?_;refine Cg (yv p.sp p.tp p.w.dp p.sl c.k hg hN) λw hS=>?_;refine Cg (Zo p.sp p.tp p.w.dp p.sl c.k hg hN) λw hS=>?_;refine Cg (y7 p.ck [] c.now) λw hS=>?_;refine Cg (Q8 p.mp p.wi H c.m) λw hS=>?_;refine Cg (ZF p.rb kc.cap (c.q.map wm)) λw hS=>?_;refine Cg (ZF p.w.qb kc.cap (c.s.L.map oq)) λw hS=>?_;have hS:=Gate.put hG hS Xp;refine Cg (Qx p.w.qp p.w.qb kc.cap c.s.out (c.s.L.map oq)) λw hS=>?_;refine Cg (Yl p.w.qp p.w.qb kc.cap c.s.out (c.s.L.map oq)) λw hS=>?_;obtain⟨NV,pI,hS⟩:=fD.AI hS Xr;refine Cg (qk p.wi c.m.eh) λw hS=>?_;refine Cc (q6 p.wi c.m.eh (by omega)) ?_;clear hS;rintro u post rfl w hS;(try simp only[app]at hS);refine Gp ?_
 refine zB hS Xh ?_;have hS:=fD.put c.m NV pI hS Xp;refine Cg (qh p.w.rp kc.b kc.m kc.j c.s.ib c.s.jb) λw hS=>?_;refine Cg (qi p.w.rp kc.b kc.m kc.j c.s.ib c.s.jb) λw hS=>?_;refine Cg (qm p.bp cf.every c.due c.last) λw hS=>?_;obtain⟨rv3,UC,hS⟩:=bX.open hS Xr;refine Cg (yc p.w.dp c.s.k.d) λw hS=>?_;have hS:=bX.lR (g:=c.s.k.g) (d:=c.s.k.d) (ts:=c.s.k.ts) (plan:=c.s.k.plan) (aR:=c.s.k.aR) (reqs:=c.s.k.reqs) hS UC Xp;have hS:SL W (.ob (bX p.w.kp p.w.gp p.w.dp p.w.lp p.w.pp H c.s.k)::_) w:=hS;have hS:=fc.put c.s hS hi Xp;have hS:=dj.put c hS Xp;exact⟨[.ob (dj p cf kc H c),.mem H],⟨rfl,H,aX.le_refl H,rfl⟩,aI hS⟩
end
section
variable {cf:dm} {kc:df} {n j:Nat} {AL:List bS} {c:bE}
end
def EZ(np:Nat)(cf:dm)(kc:df)(H:aX)(y:bE × mK)(v:Ε)(post:Β):Prop:=v=agg (xm y.2)/\∃(q:iq) (H':aX),H.le H'/\q.np=np/\post=[.ob (dj q cf kc H' y.1),.mem H']
