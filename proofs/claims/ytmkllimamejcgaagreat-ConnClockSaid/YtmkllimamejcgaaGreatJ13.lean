/- Part of the proof. -/
import Derived.Test.YtmkllimamejcgaaGreatJ12
import Derived.Shelf.SlSortCmp.NoneTotal
import Derived.Ground.SlsfProg
import Derived.Test.YtmkllimamejcgaaGreatProg
import Derived.Test.YtmkllimamejcgaaGreatChecked
import Derived.Test.YtmkllimamejcgaaGreatQVcI
import Derived.Test.YtmkllimamejcgaaGreatQVcG
import Derived.Test.YtmkllimamejcgaaGreatQVcF
namespace Go.Proofs.YtmkllimamejcgaaGreat
set_option linter.all false
set_option maxRecDepth 100000
open Go.RowKit Go.Sort Go.Shelf
def vve:=@Tryz.underlying4
def ttd:=@run_equalIn_bool'
def xxv:=@Int.tdiv_eq_ediv_of_nonneg
def uur:=@ByteArray.size_append
def uuu:=@Nat.add_le_add_right
def cAf:Go.Shelf.Ren:=⟨λ| 6=>243|15=>192|14=>303|28=>266|29=>267|20=>346|21=>347|22=>348|23=>349|24=>350|25=>351|26=>352|27=>353|46=>376|47=>317|48=>318|49=>377|50=>378|57=>393|n=>n,λ| 22=>170|24=>361|25=>364|3=>3|39=>107|0=>0|53=>380|55=>163|4=>4|46=>373|45=>372|50=>352|5=>5|9=>9|66=>428|70=>432|76=>483|77=>484|n=>n,λ| n=>n⟩
def W1:Go.Proofs.SlLaysF0.n6 Tryz.prog cAf where
 mixed:=by kernel_rfl
 f6 := ⟨ "slices.SortFunc[[]qanat/wheel.timer,qanat/wheel.timer]", by decide, Tryz.func243.trans (yyu some (by kernel_rfl))⟩
 f14 := ⟨ "slices.pdqsortCmpFunc[qanat/wheel.timer]", by decide, Tryz.func303.trans (yyu some (by kernel_rfl))⟩
 f15:=Tryz.func192.trans (yyu some (by kernel_rfl))
 f20 := ⟨ "slices.insertionSortCmpFunc[qanat/wheel.timer]", by decide, Tryz.func346.trans (yyu some (by kernel_rfl))⟩
 f21 := ⟨ "slices.heapSortCmpFunc[qanat/wheel.timer]", by decide, Tryz.func347.trans (yyu some (by kernel_rfl))⟩
 f22 := ⟨ "slices.breakPatternsCmpFunc[qanat/wheel.timer]", by decide, Tryz.func348.trans (yyu some (by kernel_rfl))⟩
 f23 := ⟨ "slices.choosePivotCmpFunc[qanat/wheel.timer]", by decide, Tryz.func349.trans (yyu some (by kernel_rfl))⟩
 f24 := ⟨ "slices.reverseRangeCmpFunc[qanat/wheel.timer]", by decide, Tryz.func350.trans (yyu some (by kernel_rfl))⟩
 f25 := ⟨ "slices.partialInsertionSortCmpFunc[qanat/wheel.timer]", by decide, Tryz.func351.trans (yyu some (by kernel_rfl))⟩
 f26 := ⟨ "slices.partitionEqualCmpFunc[qanat/wheel.timer]", by decide, Tryz.func352.trans (yyu some (by kernel_rfl))⟩
 f27 := ⟨ "slices.partitionCmpFunc[qanat/wheel.timer]", by decide, Tryz.func353.trans (yyu some (by kernel_rfl))⟩
 f28:=Tryz.func266.trans (yyu some (by kernel_rfl))
 f29:=Tryz.func267.trans (yyu some (by kernel_rfl))
 f46 := ⟨ "slices.siftDownCmpFunc[qanat/wheel.timer]", by decide, Tryz.func376.trans (yyu some (by kernel_rfl))⟩
 f47:=Tryz.func317.trans (yyu some (by kernel_rfl))
 f48:=Tryz.func318.trans (yyu some (by kernel_rfl))
 f49 := ⟨ "slices.medianAdjacentCmpFunc[qanat/wheel.timer]", by decide, Tryz.func377.trans (yyu some (by kernel_rfl))⟩
 f50 := ⟨ "slices.medianCmpFunc[qanat/wheel.timer]", by decide, Tryz.func378.trans (yyu some (by kernel_rfl))⟩
 f57 := ⟨ "slices.order2CmpFunc[qanat/wheel.timer]", by decide, Tryz.func393.trans (yyu some (by kernel_rfl))⟩
 t0:=Tryz.underlying0
 a0:=Tryz.isAgg0
 z0:=Tryz.sizeOf0
 v0:=Tryz.zeroValue0
 t3:=yyc
 a3:=Tryz.isAgg3
 z3:=Tryz.sizeOf3
 v3:=Tryz.zeroValue3
 t4:=vve
 a4:=Tryz.isAgg4
 z4:=Tryz.sizeOf4
 v4:=Tryz.zeroValue4
 t5:=wwk
 a5:=Tryz.isAgg5
 z5:=Tryz.sizeOf5
 v5:=Tryz.zeroValue5
 t9:=yy1
 a9:=Tryz.isAgg9
 z9:=Tryz.sizeOf9
 v9:=Tryz.zeroValue9
 t22:=Tryz.underlying170
 a22:=Tryz.isAgg170
 z22:=Tryz.sizeOf170
 v22:=Tryz.zeroValue170
 t25:=Tryz.underlying364
 a25:=Tryz.isAgg364
 z25:=Tryz.sizeOf364
 v25:=Tryz.zeroValue364
 t39:=Tryz.underlying107
 a39:=Tryz.isAgg107
 z39:=Tryz.sizeOf107
 v39:=Tryz.zeroValue107
 t45:=Tryz.underlying372
 a45:=Tryz.isAgg372
 z45:=Tryz.sizeOf372
 v45:=Tryz.zeroValue372
 t46:=Tryz.underlying373
 a46:=Tryz.isAgg373
 z46:=Tryz.sizeOf373
 v46:=Tryz.zeroValue373
 t50:=Tryz.underlying352
 a50:=Tryz.isAgg352
 z50:=Tryz.sizeOf352
 v50:=Tryz.zeroValue352
 t53:=Tryz.underlying380
 a53:=Tryz.isAgg380
 z53:=Tryz.sizeOf380
 v53:=Tryz.zeroValue380
 t55:=Tryz.underlying163
 a55:=Tryz.isAgg163
 z55:=Tryz.sizeOf163
 v55:=Tryz.zeroValue163
 t66:=Tryz.underlying428
 a66:=Tryz.isAgg428
 z66:=Tryz.sizeOf428
 v66:=Tryz.zeroValue428
 t70:=Tryz.underlying432
 a70:=Tryz.isAgg432
 z70:=Tryz.sizeOf432
 v70:=Tryz.zeroValue432
 t76:=Tryz.underlying483
 a76:=Tryz.isAgg483
 z76:=Tryz.sizeOf483
 v76:=Tryz.zeroValue483
 t77:=Tryz.underlying484
 a77:=Tryz.isAgg484
 z77:=Tryz.sizeOf484
 v77:=Tryz.zeroValue484
def Grown(W w:Ζ):Prop:=∃q os,w=grow (W.drewN q) os
def Grown.refl(W:Ζ):Grown W W:=⟨0,#[],by simp[World.drewN]⟩
def Grown.alloc{W w:Ζ}(h:Grown W w)(o:Obj):Grown W (w.alloc o):=by
 obtain⟨q,os,rfl⟩:=h;exact⟨q,os ++ #[o],by rw[alloc_eq_grow,grow_grow]⟩
def Grown.drew{W w:Ζ}(h:Grown W w):Grown W w.drew:=by
 obtain⟨q,os,rfl⟩:=h;exact⟨q+1,os,rfl⟩
section
variable {W0 W w:Ζ} {l l':Β} {P:Program}
def SC{cs:Ξ}{t:Ι}{K:Ε->Ζ->Prop}(hS:SL W l w)(hG:Grown W0 w)(h:∀b w',SL W (.pt b cs t::l) w'->Grown W0 w'->K (Δ b) w'):zh cs t w K:=h _ _ hS.new (hG.alloc _)
def bFr{K:Ζ->Prop}(hS:SL W l w)(hG:Grown W0 w)(h:∀w',SL W l w'->Grown W0 w'->K w'):zi w K:=h _ hS.drew hG.drew
def bFq{z cells:Ξ}{ps:List (Nat × Nat × Ε)}{e:Ι}{n:Nat}{K:Ε->Ζ->Prop}(hS:SL W l w)(hG:Grown W0 w)(hc:ir z ps=some cells)
  (h:∀b w',SL W (.pt b cells e::l) w'->Grown W0 w'->K (.slice (some ⟨b,0,none⟩) n n) w'):zn z ps e n w K:=⟨cells,hc,h _ _ hS.new (hG.alloc _)⟩
def SL.grow{os:Array Obj}(hS:SL W l w):SL W l (Go.Sort.grow w os):=
 ⟨hS.os,hS.tape,hS.output,let ⟨k,s,m⟩:=hS.out;⟨k,s,λb o e=>by
  have:=m b o e;have dd:=(xxh.1 this).1;show (w.heap++os)[b]?=some o;rw[Array.getElem?_append_left dd];exact this⟩⟩
def SL.none(w:Ζ):SL w [] w:=⟨rfl,rfl,rfl,bw.emp,rfl,λb o e=>by cases e⟩
def cnd(F:Array Ε)(cells rest:Ξ)(h:cells.length=F.size):putCells id 0 F (cells++rest).toArray=(F.toList++rest).toArray:=by
 apply Array.ext_getElem?;intro k;simp only[putCells,Array.getElem?_mapIdx,List.getElem?_toArray];by_cases hk:k<F.size
 ·rw[zzt (by omega),zzt (by simpa using hk)];have e1:cells[k]?=some (cells[k]'(by omega)):=zzd (by omega);have fO:0<=k/\k<0+F.size:=by omega
  rw[e1];simp[hk,wwv]
 rw[yya (by omega),yya (by simpa using hk)];have fO:¬(0<=k/\k<0+F.size):=by omega
 simp only[fO,vvo,Array.length_toList,h];cases rest[k-F.size]?<;>rfl
def SL.putRow{b n:Nat}{t:Ι}{cells rest:Ξ}{F:Array Ε}(hS:SL W (.pt b (cells++rest) t::l) w)(h:cells.length=F.size):SL W (.pt b (F.toList++rest) t::l) (Go.Sort.putRow id (Go.Sort.ahead w n) b 0 F):=by
 obtain⟨f,hf,e⟩:=hS.oK .hd;refine hS.rK (b:=b) (o':=.cells (F.toList++rest).toArray t f) .hd (λk hk=>by obtain⟨f,_,rfl⟩:=hk;exact⟨_,rfl⟩) ⟨f,by simpa [<- h] using hf,rfl⟩ ?_ ?_ rfl rfl rfl
 ·show (w.heap.modify b _)[b]?=_;rw[ww3];simp[e,onCells,cnd F cells rest h]
 intro x hx;show (w.heap.modify b _)[x]?=_;rw[ww3,zzb (λe=>hx e.symm)]
def Sy{α:Type}[Inhabited α]{enc:α->Ξ}{k:Nat}(hk:∀x,(enc x).length=k)(xs:List α):(flatK enc k xs.toArray).toList=(xs.map enc).flatten:=by
 have hl:=oP hk xs;refine uul λt=>?_;by_cases ht:t<xs.length*k
 ·have k0:0<k:=by
   rcases yy8 k with h|h
   ·subst h;omega
   exact h
  have h1:t / k<xs.length:=(uuo k0).2 ht;have h2:t % k<(enc xs[t / k]).length:=by rw[hk];exact vvi _ k0
  have h3:=p' hk xs (t / k) (t % k) xs[t / k] ((enc xs[t / k])[t % k]) (by simp[h1]) (by simp[h2]);rw[show t / k*k+t % k=t by rw[Nat.mul_comm];exact vv8 t k]at h3
  rw[h3];have h4:(flatK enc k xs.toArray)[t]! = (enc xs.toArray[t / k]!)[t % k]!:=get_flatK enc k xs.toArray t (by simpa using ht);have h5:xs.toArray[t / k]! = xs[t / k]:=by simp[h1,wwv]
  rw[h5]at h4
  rw[Array.getElem?_toList,ww4 (by simpa using ht)];rw[wwv _ _ (by simpa using ht)]at h4
  rw[h4];congr 1;exact List.getElem!_eq_getElem?_getD.trans (by simp[h2])
 rw[yyr (by simp;omega),yyr (by omega)]
end
def sW(a b:Int):Int:=if a<b then -1 else if b<a then 1 else 0
def rU(x y:Tm):Int:=if sW x.when y.when≠0 then sW x.when y.when else sW x.id y.id
def Ve(x y:Tm):rU x y<0↔pe x y:=by
 unfold rU sW pe;repeat' split
 all_goals omega
def bXz(x y:Tm):ltOf rU x y=true↔pe x y:=by unfold ltOf;rw[uud];exact Ve x y
def Bc(x y:Tm):ltOf rU x y=false↔¬pe x y:=by unfold ltOf;rw[yy7,Ve]
def Xe:SWO (ltOf rU) where
 irrefl x:=by rw[Bc];unfold pe;omega
 trans x y z h1 h2:=by rw[bXz]at *;unfold pe at *;omega
 ntrans x y z h1 h2:=by rw[Bc]at *;unfold pe at *;omega
def cCd(x y:Tm)(h1:ltOf rU x y=false)(h2:ltOf rU y x=false):x=y:=by
 rw[Bc]at *
 obtain⟨a,b⟩:=x;obtain⟨c,d⟩:=y;unfold pe at *
 simp only at *
 simp only[Tm.mk.injEq];omega
def uO(xs:List Tm):List Tm:=xs.mergeSort λx y=>!(ltOf rU) y x
def W2(xs:List Tm):(uO xs).Perm xs:=List.mergeSort_perm _ _
def cAg(xs:List Tm):(uO xs).Pairwise λx y=>¬pe y x:=by
 have h:=List.pairwise_mergeSort (le:=λx y=>!(ltOf rU) y x) (λa b c h1 h2=>by
  simp only[ttc]at *;exact Xe.ntrans c b a h2 h1) (λa b=>by
  by_cases h:pe b a
  ·have:¬pe a b:=by unfold pe at *;omega
   simp[(Bc a b).2 this]
  simp[(Bc b a).2 h]) xs
 refine h.imp λ{x y} Ut=>?_;rw[ttc]at Ut
 exact (Bc y x).1 Ut
def UO{K:Ε->Ζ->Prop}{w:Ζ}{a:Int}(h:K (.bool false) w):aF 305 [Γ a] w K:=by
 apply cHz;unfold Oa;refine Br ?_;simpa using h
def UN{K:Ε->Ζ->Prop}{w:Ζ}{a:Int}(h:K (.bool false) w):aF 304 [Γ a] w K:=by
 apply XK;unfold GQ;refine Br ?_;simpa using h
def aRg{K:Ε->Ζ->Prop}{w:Ζ}{a b:Int}(h:K (Γ (sW a b)) w):aF 247 [Γ a,Γ b] w K:=by
 apply cGr;delta Nt aI ai;unfold sW at h;refine UO (UO (zp (zp (DE (za (λh1=>?_) (λh1=>Ki (za (λh2=>?_) (λh2=>?_))))))))
 ·rwa [zzc h1]at h
 ·rwa [zzb h1,zzc h2]at h
 rwa [zzb h1,zzb h2]at h
def aRe{K:Ε->Ζ->Prop}{w:Ζ}{a b:Int}(h:K (Γ (sW a b)) w):aF 246 [Γ a,Γ b] w K:=by
 apply XI;delta GO aI ai;unfold sW at h;refine UN (UN (zp (zp (DE (za (λh1=>?_) (λh1=>Ki (za (λh2=>?_) (λh2=>?_))))))))
 ·rwa [zzc h1]at h
 ·rwa [zzb h1,zzc h2]at h
 rwa [zzb h1,zzb h2]at h
def b_m{K:Ε->Ζ->Prop}{W w:Ζ}{l:Β}{b:Nat}{c d:Int}{t:Ι}(hS:SL W (.pt b [Γ c,Γ d] t::l) w)(h:K (Γ (if c≠0 then c else d)) w):aF 245 [.slice (some ⟨b,0,none⟩) 2 2] w K:=by
 apply cGq;delta Ns aI ai;refine yc ?_;refine⟨λus w'=>∃k:Nat,us=[Γ k]/\k<=2/\w'=w/\(1<=k->c=0)/\(2<=k->d=0),λus _=>match us with|[.int _ k]=>(2-k).toNat|_=>0,⟨0,rfl,by omega,rfl,by omega,by omega⟩,?_⟩;rintro v8 w' ⟨k,hv,hk,rfl,h1,h2⟩;cases hv;refine DE ?_;refine za (λdd=>?_) (λdd=>?_)
 ·have fO:k=0\/k=1:=by omega
  rcases fO with rfl|rfl
  ·refine zG (by decide) (zV hS .hd (v:=Γ c) rfl (Br (za (λhc=>?_) (λhc=>?_))))
   ·rwa [zzc hc]at h
   refine QP (by decide) ⟨⟨1,rfl,by omega,rfl,λ_=>by omega,λh=>by omega⟩,by dsimp only;omega⟩
  have hc:=h1 (by omega);refine zG (by decide) (zV hS .hd (v:=Γ d) rfl (Br (za (λhd=>?_) (λhd=>?_))))
  ·rwa [zzb (by omega)]at h
  refine QP (by decide) ⟨⟨2,rfl,by omega,rfl,λ_=>hc,λ_=>by omega⟩,by dsimp only;omega⟩
 have hc:=h1 (by omega);have hd:=h2 (by omega);rw[zzb (by omega),hd]at h
 exact h
def cCk(x y:Tm)(W:Ζ):aF 244 [agg (gi x),agg (gi y)] W λv w=>v= Γ (rU x y)/\Grown W w:=by
 apply cGp;delta Nr a_ aR ai;have hS:=SL.none W;have hG:=Grown.refl W;refine⟨_,rfl,SC hS hG ?_⟩;clear hS hG;intro b1 w hS hG;refine⟨_,rfl,SC hS hG ?_⟩;clear hS hG;intro b2 w hS hG;refine bFr hS hG ?_;clear hS hG;intro w hS hG;refine Gp ?_;refine aRe ?_;refine Gp ?_;refine aRg ?_;refine bFq hS hG (cells:=[Γ (sW x.when y.when),Γ (sW x.id y.id)]) (by simp[ir,Value.cells,cK]) ?_;clear hS hG;intro b3 w hS hG;exact b_m hS ⟨rfl,hG⟩
def cAh(v:Ε)(xs:List Tm)(hl:xs.length<=1000000):SP 243 [v,.func (.func 244) #[] #[]] [.ob (bI v 361 2 xs.length (xs.map gi).flatten)]
  (cC (.tuple #[]) [.ob (bI v 361 2 (uO xs).length ((uO xs).map gi).flatten)]):=by
 intro W F w hS;try simp only[app]at hS
 rcases bI.open hS with ⟨⟨a,rfl⟩,IQ,w9,hS⟩|⟨b,cap,rest,rfl,oU,hlen,jN,hS⟩
 ·obtain rfl:xs=[]:=zzp IQ;refine Calls.mono (AnyF.slices_SortFunc_none W1 a 0 _ w) ?_;rintro e w' ⟨rfl,rfl⟩;have e:uO []=[]:=by simp[uO]
  rw[e];exact⟨_,rfl,_,⟨rfl,rfl⟩,hS⟩
 have mT:=Sy s4 xs;have fS:(flatK gi 2 xs.toArray).size=(xs.map gi).flatten.length:=by rw[<- mT];simp
 have hH:HoldsK gi 2 w b 0 xs.toArray:=λj hj=>by
  have IC:j<(xs.map gi).flatten.length:=by rw[<- fS];exact hj
  have e1:(flatK gi 2 xs.toArray)[j]! = (xs.map gi).flatten[j]:=by
   rw[wwv (flatK gi 2 xs.toArray) j hj];have:(flatK gi 2 xs.toArray).toList[j]?=(xs.map gi).flatten[j]?:=by rw[mT]
   rw[Array.getElem?_toList,ww4 hj,zzd IC]at this
   exact xx5 this
  have hc:((xs.map gi).flatten++rest)[0+j]?=some (xs.map gi).flatten[j]:=by rw[yye,zzt IC,zzd IC]
  rw[e1];exact⟨hS.cell .hd hc,hS.frozen .hd hc⟩
 have hb:b<w.heap.size:=by
  obtain⟨f,_,e⟩:=hS.oK .hd;exact (xxh.1 e).1
 have hK:=AnyQ.slices_SortFunc_total W1 2 (λw=>by kernel_rfl) (λw=>by kernel_rfl) gi s4 Ch rU Xe 244 #[] b 0 cap xs.toArray w
  (ttm Tryz.func244 (by kernel_rfl) rfl) (λm os dk _ x y=>by
   refine Calls.mono (cCk x y (sortWorldK gi 2 w b 0 m dk os)) ?_;rintro e w' ⟨v,rfl,rfl,q,os',hw⟩;exact⟨rfl,q,os',hw⟩) hH hb (by simp;omega) cCd
 refine Calls.mono hK ?_;rintro e w' ⟨rfl,n,os,rfl⟩;refine⟨_,rfl,_,⟨rfl,rfl⟩,?_⟩;have CZ:=W2 xs;have Ix:=Sy s4 (uO xs);have bVa:(xs.map gi).flatten.length=(flatK gi 2 (uO xs).toArray).size:=by
  rw[oP s4,size_flatK,List.size_toArray,CZ.length_eq]
 have h2:=SL.grow (os:=os) (SL.putRow (n:=n) hS bVa);rw[Ix]at h2
 rw[CZ.length_eq];exact bI.mk oU (by rw[oP s4,CZ.length_eq]) jN h2
set_option maxRecDepth 100000
open Go.RowKit
instance:DecidableRel pe:=λa b=>inferInstanceAs (Decidable (a.when<b.when\/(a.when=b.when/\a.id<b.id)))
abbrev ids(L:List Tm):Ξ:=L.map λt=>Γ t.id
def bV3{L:List Tm}(hn:(L.map (·.id)).Nodup){a b:Tm}(ha:a∈L)(hb:b∈L)(h:a.id=b.id):a=b:=by
 induction L with
 | nil=>cases ha
 | cons x L ih=>
  rw[zzo,wwu]at hn
  rcases zz8.1 ha with rfl|uq<;>rcases zz8.1 hb with rfl|mP
  ·rfl
  ·exact absurd (zzv.2 ⟨b,mP,h.symm⟩) hn.1
  ·exact absurd (zzv.2 ⟨a,uq,h⟩) hn.1
  exact ih hn.2 uq mP
def cCl(wp:Nat)(L:List Tm)(now x:Int)(hn:L.length<=1000000)(hd:(L.map (·.id)).Nodup):SP 180 [Δ wp,Γ x] [.ob (iq wp L now)]
  (λv post=>∃D:List Tm,D.Perm (kr (max now (rV x)) L)/\(D.Pairwise λx y=>¬pe y x)/\post=[.ob (iq wp (L.filter λt=>!decide (t.when<=max now (rV x))) (max now (rV x))),.ob (bI v 3 1 D.length (ids D))]):=by
 refine Enzz λW F w hS=>?_;apply cE1;delta Mq aI a_ cV aR bV ai bR;obtain⟨xs,hx,hS⟩:=iq.iff.1 hS;refine Gn λw hS=>?_;refine zV hS Xh (DR hx.len) ?_;refine Cg (Yx x) λw hS=>?_;refine zV hS Xh (DR hx.len) ?_;refine Gp ?_;generalize max now (rV x)=n2 at *
 refine ZA hS Xu (DR hx.len) rfl ?_;clear hS;intro w hS;rw[cK3 hx.len]at hS
 have mT:(xs.flatMap (·.2)).length<=1000000:=by rw[hx.perm.length_eq];exact hn
 refine Cc (a_h wp xs n2 hx.len mT) ?_;clear hS;rintro dv post rfl w hS;try simp only[app]at hS
 have oY:(kr n2 (xs.flatMap (·.2))).length<=1000000:=yyy (yym _ _) mT;have Ts:(kr n2 (xs.flatMap (·.2))).Perm (kr n2 L):=hx.perm.filter _;refine Cg (cAh dv _ oY) λw hS=>?_;have pS:=W2 (kr n2 (xs.flatMap (·.2)));have A2:=cAg (kr n2 (xs.flatMap (·.2)));have Ie:=pS.trans Ts;have ER:=pS.length_eq;generalize uO (kr n2 (xs.flatMap (·.2)))=D at *
 rw[<- ER]at oY
 clear pS Ts;refine zt hS (t:=361) (sz:=2) (n:=D.length) (cells:=(D.map gi).flatten) Xh ?_;have hS:=iq.iff.2 ⟨xs,hx,SL.bZ hS (t:=.pt wp (jE xs n2) 173::.ob (ze mj xs)::.ob (bI dv 361 2 D.length ((D.map gi).flatten))::F) Xi⟩;clear hx;have e0:L.filter (λt=>decide (t∉D.take 0))=L:=by simp
 refine⟨λus w=>∃(k:Nat) (o:Ε),us=[o,Γ k]/\k<=D.length/\SL W (.ob (bI o 3 1 k (ids (D.take k)))::.ob (iq wp (L.filter λt=>decide (t∉D.take k)) n2)::.ob (bI dv 361 2 D.length ((D.map gi).flatten))::F) w,
  λus _=>match us with|[_,.int _ k]=>(D.length-k).toNat|_=>0,⟨0,_,rfl,by omega,by rw[e0];exact bI.nil hS⟩,?_⟩
 clear hS e0;rintro v6 v25 w ⟨k,o,cO,hk,hS⟩;cases cO;refine bY (λh=>?_) (λh=>?_)
 ·have om:k<D.length:=by omega
  refine zT hS (t:=361) Xh s4 (x:=D[k]) (by simp[om]) om ?_;refine zE hS ?_;clear hS;intro b w hS;refine zr (vs:=gi D[k]) hS .hd rfl rfl (Ch _) ?_;clear hS;intro w hS;refine Gp ?_;have Ix:(L.filter λt=>decide (t∉D.take k)).length<=1000000:=yyy (yym _ _) hn;refine Cg (aWy wp _ n2 D[k].id Ix) λw hS=>?_;refine Gm λb w hS=>?_;have kZ:pU (L.filter λt=>decide (t∉D.take k)) D[k].id=L.filter λt=>decide (t∉D.take (k+1)):=by
   unfold pU;rw[List.filter_filter];refine uun λt ht=>?_;have hDm:D[k]∈L:=(xx6.1 (Ie.subset (zzg om))).1;have xk:t∈D.take (k+1)↔t∈D.take k\/t=D[k]:=by rw[zze om,zz1,zz3]
   have Fi:t.id=D[k].id↔t=D[k]:=⟨λe=>bV3 hd ht hDm e,λe=>by rw[e]⟩;rw[uuv];simp only[zz9,zzy,ne_eq];rw[xk,Fi,not_or];first|exact And.comm|exact Iff.rfl
  rw[kZ]at hS
  refine zJ (n:=k) (m:=1) hS Xr (j8 (cs:=[Γ D[k].id]) hS .hd rfl) rfl rfl (by simp[Value.oneCell']) (by omega) (by omega) ?_;clear hS;intro o2 w hS;refine Gp ?_;have ht:ids (D.take k)++[Γ D[k].id]=ids (D.take (k+1)):=by
   unfold ids;rw[zze om,zzs];rfl
  rw[ht]at hS
  exact⟨⟨k+1,o2,by simp,by omega,aW hS⟩,by dsimp only;omega⟩
 have uz:k=D.length:=by omega
 subst uz;rw[zz0]at hS
 have e:L.filter (λt=>decide (t∉D))=L.filter λt=>!decide (t.when<=n2):=by
  refine uun λt ht=>?_;have:t∈D↔t.when<=n2:=by
   rw[Ie.mem_iff];unfold kr;rw[xx6];simp[ht]
  by_cases hw:t.when<=n2
  ·simp[this,hw]
  have h3:t∉D:=λhm=>hw (this.1 hm);simp only[h3,not_false_eq_true,tti,hw,ww7,Bool.not_false]
 rw[e]at hS
 exact⟨_,⟨D,Ie,A2,rfl⟩,aW hS⟩
def kG(p:sU)(c:dU)(H:bw)(s:fo):zC:=jF λh:Ε × Ε × Ε=>zH (gZ H ⟨s.held.aw,h.1,h.2.1⟩ s.held/\jc H h.2.2 s.k.reqs)
 [.pt p.wp (oD p.kp p.qp p.rp c.cJ s.held.aw h.1 h.2.1 s.n) 216,.pt p.kp (nM p.gp p.dp p.lp p.pp s.k.aw h.2.2) 90,.ob (gm p.gp s.k.ts),.ob (dc p.lp p.dp s.k.g),.ob (gy p.pp s.k.plan),.ob (Gate p.qp p.qb c.cap s.out (s.L.map iy)),ki p.rp c.b c.m c.j s.fR s.eK]
section
variable {W w:Ζ} {l F:Β} {p:sU} {c:dU} {H:bw} {s:fo}
def dt.take(hS:SL W l w)(r:fY (.ob (dt p c H s)) l F):SL W (.ob (bX p.dp s.k.d)::.ob (kG p c H s)::F) w:=by
 obtain⟨ov,nv,hi,hS⟩:=dt.open hS r;obtain⟨rv,hr,hS⟩:=db.open hS Xr;have h2:SL W (.ob (kG p c H s)::.ob (bX p.dp s.k.d)::F) w:=by
  unfold kG;simp only[SL.ex,SL.fact,zzu,zzq];exact⟨(ov,nv,rv),⟨hi,hr⟩,aW hS⟩
 exact h2.perm (.swap _ _ _)
def kG.open(hS:SL W l w)(r:fY (.ob (kG p c H s)) l F):∃ov nv rv,gZ H ⟨s.held.aw,ov,nv⟩ s.held/\jc H rv s.k.reqs/\SL W (.pt p.wp (oD p.kp p.qp p.rp c.cJ s.held.aw ov nv s.n) 216::.pt p.kp (nM p.gp p.dp p.lp p.pp s.k.aw rv) 90::.ob (gm p.gp s.k.ts)::.ob (dc p.lp p.dp s.k.g)::.ob (gy p.pp s.k.plan)::.ob (Gate p.qp p.qb c.cap s.out (s.L.map iy))::ki p.rp c.b c.m c.j s.fR s.eK::F) w:=by
 have h:=hS.perm r.perm;unfold kG at h;simp only[SL.ex,SL.fact,zzu,zzq]at h;obtain⟨⟨ov,nv,rv⟩,⟨hi,hr⟩,h⟩:=h;exact⟨ov,nv,rv,hi,hr,h⟩
def dt.wQ(s:fo)(d:DS)(hS:SL W l w)(k:gx [.ob (bX p.dp d),.ob (kG p c H s)] l F):SL W (.ob (dt p c H {s with k:={s.k with d:=d}})::F) w:=by
 have hS:SL W (.ob (bX p.dp d)::.ob (kG p c H s)::F) w:=hS.pick k;obtain⟨ov,nv,rv,hi,hr,hS⟩:=kG.open hS Xr;have hS:=db.eO (g:=s.k.g) (d:=d) (ts:=s.k.ts) (plan:=s.k.plan) (aw:=s.k.aw) (reqs:=s.k.reqs) hS hr Xp;exact dt.eO (k:={s.k with d:=d}) (L:=s.L) (held:=s.held) (n:=s.n) hS hi Xp
end
structure iO where
 np:Nat
 w:sU
 sp:Nat
 tp:Nat
 sl:Nat
 rb:Nat
 mp:Nat
 wi:Nat
 sn:Nat
 dg:Nat
 bp:Nat
 ck:Nat
abbrev sE(p:iO)(cf:dI)(pos:Int)(dv:Ε):Ξ:=[iH p.w.kp,cF p.sp,cF p.rb,Γ pos,cF p.mp,cF p.sn,cF p.w.qp,cF p.w.rp,cF p.w.wp,cF p.bp,dv,Γ cf.tables,Γ cf.late,Γ cf.size,Γ cf.queue,Γ cf.chunk,Γ cf.batch,Γ cf.base,Γ cf.cJ,Γ cf.sy,Γ cf.every,cF p.w.dp,cF p.ck]
def jR(t:cH):Η:=dW (gn t)
def wH(n:Int):Ξ:=[Γ n]
abbrev sN(v:Ε)(l:Ω):Μ:=.ob (dq v 2 1 l.length (l.map wH).flatten)
abbrev KW(p:iO)(cf:dI)(kc:dU)(H:bw)(c:bW)(dv:Ε):Β:=[.pt p.np (sE p cf c.pos dv) 84,sN dv c.dy,.ob (dt p.w kc H c.s),.ob (df p.sp p.tp p.w.dp p.sl c.k),.ob (cW p.mp p.wi H c.m),.pt p.sn (ji p.sp p.mp p.wi p.dg cf.chunk) 208,.ob (fq p.dg c.dr),.ob (Ring p.rb kc.cap (c.q.map jR)),.ob (iq p.ck [] c.now),jb p.bp cf.every c.due c.last]
def cz(p:iO)(cf:dI)(kc:dU)(H:bw)(c:bW):zC:=jF λdv:Ε=>zH True (KW p cf kc H c dv)
section
variable {W w:Ζ} {l F:Β} {p:iO} {cf:dI} {kc:dU} {H:bw} {c:bW}
def cz.iff:SL W (.ob (cz p cf kc H c)::l) w↔∃dv,SL W (.pt p.np (sE p cf c.pos dv) 84::sN dv c.dy::.ob (dt p.w kc H c.s)::.ob (df p.sp p.tp p.w.dp p.sl c.k)::.ob (cW p.mp p.wi H c.m)::.pt p.sn (ji p.sp p.mp p.wi p.dg cf.chunk) 208::.ob (fq p.dg c.dr)::.ob (Ring p.rb kc.cap (c.q.map jR))::.ob (iq p.ck [] c.now)::jb p.bp cf.every c.due c.last::l) w:=by
 unfold cz;simp only[SL.ex,SL.fact,zzu,zzq,uuk]
def cz.open(hS:SL W l w)(r:fY (.ob (cz p cf kc H c)) l F):∃dv,SL W (.pt p.np (sE p cf c.pos dv) 84::sN dv c.dy::.ob (dt p.w kc H c.s)::.ob (df p.sp p.tp p.w.dp p.sl c.k)::.ob (cW p.mp p.wi H c.m)::.pt p.sn (ji p.sp p.mp p.wi p.dg cf.chunk) 208::.ob (fq p.dg c.dr)::.ob (Ring p.rb kc.cap (c.q.map jR))::.ob (iq p.ck [] c.now)::jb p.bp cf.every c.due c.last::F) w:=cz.iff.1 (hS.perm r.perm)
def cz.put(c:bW){dv:Ε}(hS:SL W l w)(k:gx (KW p cf kc H c dv) l F):SL W (.ob (cz p cf kc H c)::F) w:=cz.iff.2 ⟨dv,hS.pick k⟩
def cz.eO{s:fo}{k:cQ}{m:dC}{dr:dA}{q:List cH}{pos due last:Int}{dy:Ω}{now:Int}{dv:Ε}(hS:SL W l w)(r:gx [.pt p.np (sE p cf pos dv) 84,sN dv dy,.ob (dt p.w kc H s),.ob (df p.sp p.tp p.w.dp p.sl k),.ob (cW p.mp p.wi H m),.pt p.sn (ji p.sp p.mp p.wi p.dg cf.chunk) 208,.ob (fq p.dg dr),.ob (Ring p.rb kc.cap (q.map jR)),.ob (iq p.ck [] now),jb p.bp cf.every due last] l F):SL W (.ob (cz p cf kc H ⟨s,k,m,dr,q,pos,due,last,dy,now⟩)::F) w:=cz.iff.2 ⟨dv,hS.pick r⟩
def cz.mono{H':bw}(hh:H.le H')(h:SL W (.ob (cz p cf kc H c)::l) w):SL W (.ob (cz p cf kc H' c)::l) w:=by
 obtain⟨dv,hS⟩:=cz.iff.1 h;have hS:=dt.jm hh hS Xr;have hS:=cW.jm hh hS Xr;exact cz.put c hS Xp
end
section
variable (p:iO) (cf:dI) (kc:dU) (H:bw) (c:bW)
def Qo(n:Int)(hn:0<=c.now/\c.now<=1125899906842624):SP 118 [cF p.np,Γ n] [.ob (cz p cf kc H c)] (cC (Γ (c.tick n).2) [.ob (cz p cf kc H (c.tick n).1)]):=by
 refine Enzz λW F w hS=>?_;apply cDi;delta Lr aI bU aR bV ai;unfold bW.tick;refine bY (λh=>?_) (λh1=>?_)
 ·rw[zzc (.inl h)];(exact cA hS)
 refine bY (λh=>?_) (λh2=>?_)
 ·rw[zzc (.inr (by omega))];(exact cA hS)
 rw[zzb (by omega)];obtain⟨dv,hS⟩:=cz.open hS Xr;refine Gp ?_;refine Cg (zY p.ck [] c.now) λw hS=>?_;refine za (λh=>?_) (λh3=>?_)
 ·rw[zzc (by omega)];have hS:=cz.put c hS Xp;(exact cA hS)
 rw[zzb (by omega)];refine Gn λw hS=>?_;refine Cg (zY p.ck [] c.now) λw hS=>?_;refine Cc (cCl p.ck [] c.now (c.now+n) (by simp) (by simp)) ?_;clear hS;rintro v post ⟨D,_,_,rfl⟩ w hS;try simp only[app]at hS
 have e:max c.now (rV (c.now+n))=c.now+n:=by unfold rV;omega
 rw[e,List.filter_nil]at hS
 have hS:=cz.eO (s:=c.s) (k:=c.k) (m:=c.m) (dr:=c.dr) (q:=c.q) (pos:=c.pos) (due:=c.due) (last:=c.last) (dy:=c.dy) hS Xp;(exact cA hS)
def aIt(x:Int):SP 121 [cF p.np,Γ x] [.ob (cz p cf kc H c)] (cC (Γ (c.tW x).2) [.ob (cz p cf kc H (c.tW x).1)]):=by
 refine Enzz λW F w hS=>?_;apply cDl;delta Lu aI bU ai;unfold bW.tW;refine bY (λh=>?_) (λh1=>?_)
 ·rw[zzc (.inl h)];(exact cA hS)
 refine bY (λh=>?_) (λh2=>?_)
 ·rw[zzc (.inr (by omega))];(exact cA hS)
 rw[zzb (by omega)];obtain⟨dv,hS⟩:=cz.open hS Xr;have hS:=dt.take hS Xr;refine Gp ?_;refine Cg (aw5 p.w.dp c.s.k.d x) λw hS=>?_;have hS:=dt.wQ c.s (c.s.k.d.p5 x) hS Xp;have hS:=cz.eO (p:=p) (cf:=cf) (s:={c.s with k:={c.s.k with d:=c.s.k.d.p5 x}}) (k:=c.k) (m:=c.m) (dr:=c.dr) (q:=c.q) (pos:=c.pos) (due:=c.due) (last:=c.last) (dy:=c.dy) (now:=c.now) hS Xp;(exact cA hS)
def q7(x:Int)(hd:c.dy.length<=1024):SP 119 [cF p.np,Γ x] [.ob (cz p cf kc H c)] (cC (Γ (c.drawn x).2) [.ob (cz p cf kc H (c.drawn x).1)]):=by
 refine Enzz λW F w hS=>?_;apply cDj;delta Ls aI a_ bV ai;unfold bW.drawn;refine bY (λh=>?_) (λh1=>?_)
 ·rw[zzc (.inl h)];(exact cA hS)
 refine bY (λh=>?_) (λh2=>?_)
 ·rw[zzc (.inr (by omega))];(exact cA hS)
 rw[zzb (by omega)];obtain⟨dv,hS⟩:=cz.open hS Xr;refine Gp ?_;refine zK hS (v:=dv) Xh ?_;refine bY (λh=>?_) (λh3=>?_)
 ·rw[zzc (by omega)];have hS:=cz.put c hS Xp;(exact cA hS)
 rw[zzb (by omega)];refine Gm λb w hS=>?_;refine qL (t:=2) (n:=c.dy.length) (xs:=c.dy) (y:=x) (enc:=wH) hS Xr Xh (λ_=>rfl) (by simp[wH,Value.oneCell']) rfl rfl (by omega) (by omega) ?_;clear hS;intro nv w hS;have h1:=dq.one hS .hd;refine Gn λw hS=>?_;have hS:SL W (.pt p.np (sE p cf c.pos nv) 84::.ob (dq nv 2 1 (c.dy.length+1) ((c.dy++[x]).map wH).flatten)::.ob (dt p.w kc H c.s)::.ob (df p.sp p.tp p.w.dp p.sl c.k)::.ob (cW p.mp p.wi H c.m)::.pt p.sn (ji p.sp p.mp p.wi p.dg cf.chunk) 208::.ob (fq p.dg c.dr)::.ob (Ring p.rb kc.cap (c.q.map jR))::.ob (iq p.ck [] c.now)::jb p.bp cf.every c.due c.last::F) w:=aW hS;rw[show c.dy.length+1=(c.dy++[x]).length by simp]at hS
 have hS:=cz.eO (p:=p) (cf:=cf) (s:=c.s) (k:=c.k) (m:=c.m) (dr:=c.dr) (q:=c.q) (pos:=c.pos) (due:=c.due) (last:=c.last) (dy:=c.dy++[x]) (now:=c.now) hS Xp;(exact cA hS)
end
section
variable (p:iO) (cf:dI) (kc:dU) (H:bw) (c:bW)
def Yt(v:iA)(t:cD)(hv:gZ H v t)(hm:ep t=true)(hr:c.s.L.length+c.s.out<kc.cap):SP 168 [cF p.np,agg (eJ v)] [.ob (cz p cf kc H c),.mem H] (cC (Γ 0) [.ob (cz p cf kc H (c.put t)),.mem H]):=by
 refine Enzz λW F w hS=>?_;apply cEo;delta Md aI a_ bV ai;refine zw hS λxb w hS=>?_;refine Gp ?_;refine Cc (YJ H v t hv) ?_;clear hS;rintro r post hq w hS;unfold BI at hq;rw[Re hm]at hq
 obtain⟨bv,rfl,rfl⟩:=hq;try simp only[app]at hS
 obtain⟨dv,hS⟩:=cz.open hS Xr;obtain⟨ov,nv,hi,hS⟩:=dt.open hS Xr;refine Gp ?_;refine za (λ_=>?_) (λh=>absurd rfl h);refine Gn λw hS=>?_;obtain⟨a,ca,hb,_⟩:=bI.at hS (v:=bv) (t:=5) (sz:=1) (n:=(gh t).length) (cells:=(gh t).map cX) Xh;have iw:=mZ hS (v:=bv) (t:=5) (sz:=1) Xh;refine Zd ⟨_,_,_,hb⟩ iw xxm yy1 wwk ?_;refine Cg (bF5 p.w.qp p.w.qb kc.cap c.s.out (c.s.L.map iy) (iy t) (by rw[zzn];exact hr)) λw hS=>?_;rw[show c.s.L.map iy++[iy t]=(c.s.L++[t]).map iy by simp]at hS
 have hS:=dt.eO (p:=p.w) (c:=kc) (H:=H) (k:=c.s.k) (L:=c.s.L++[t]) (out:=c.s.out) (fR:=c.s.fR) (eK:=c.s.eK) (held:=c.s.held) (n:=c.s.n) hS hi Xp;have hS:=cz.eO (p:=p) (cf:=cf) (k:=c.k) (m:=c.m) (dr:=c.dr) (q:=c.q) (pos:=c.pos) (due:=c.due) (last:=c.last) (dy:=c.dy) (now:=c.now) hS Xp;have hS:SL W (.ob (cz p cf kc H (c.put t))::_) w:=hS;(exact cA hS)
def aI5(hq:c.q=[]):SP 62 [cF p.np] [.ob (cz p cf kc H c)] (cC (.tuple #[agg (fm xZ),.bool false]) [.ob (cz p cf kc H c)]):=by
 refine Enzz λW F w hS=>?_;apply XO;delta GW a_ bV cL ai bR;refine Gb λzb w hS=>?_;obtain⟨dv,hS⟩:=cz.open hS Xr;rw[hq,yy4]at hS
 refine Gp ?_;refine Cg (V7 p.rb kc.cap) λw hS=>?_;refine zu (λ_=>?_) (λh=>by cases h);refine Gn λw hS=>?_;rw[show ([]:Ψ)=c.q.map jR by rw[hq];rfl]at hS
 have hS:=cz.put c hS Xp;(exact cA hS)
def Rj(t:cH)(q:List cH)(hq:c.q=t::q)(hm:eg t=true):SP 62 [cF p.np] [.ob (cz p cf kc H c),.mem H] (λv post=>∃x H',H.le H'/\lz H' x t/\v= .tuple #[agg (fm x),.bool true]/\post=[.ob (cz p cf kc H' c),.mem H']):=by
 refine Enzz λW F w hS=>?_;apply XO;delta GW a_ bV cL ai bR;refine Gb λzb w hS=>?_;obtain⟨dv,hS⟩:=cz.open hS Xr;rw[hq,zzo]at hS
 refine Gp ?_;refine Cg (V8 p.rb kc.cap (jR t) (q.map jR)) λw hS=>?_;refine zu (λh=>by cases h) (λ_=>?_);rw[show jR t::q.map jR=c.q.map jR by rw[hq];rfl]at hS
 have hS:=cz.put c hS Xp;refine Yf (bs:=gn t) hS yy1 xxm wwk λbv w hS=>?_;refine Cc (Z7 (.ob (bI bv 5 1 (gn t).length ((gn t).map cX))) H bv (gn t) dP.own) ?_;clear hS;rintro r post hd w hS;unfold vX at hd;rw[Rf hm]at hd
 obtain⟨x,H',hh,rfl,hx,rfl⟩:=hd;try simp only[app]at hS
 have h1:∀v∈fm x,v.oneCell'=true:=As (aw:=x.aw) (kind:=x.kind) (mark:=x.mark) hx.cv.one hx.sv.one;refine Gm λb w hS=>?_;refine zr (vs:=fm x) hS Xu rfl rfl h1 λw hS=>?_;refine zA hS Xh rfl ?_;refine Gp ?_;refine zr (vs:=fm x) hS Xu rfl rfl h1 λw hS=>?_;refine zA hS Xh rfl ?_;have hS:=cz.mono hh (SL.bZ hS (t:=.ob (cz p cf kc H c)::.mem H'::F) Xi);exact⟨_,⟨x,H',hh,hx,rfl,rfl⟩,aW hS⟩
end
def lz.Bh{H:bw}{x:mK}{t:cH}(hx:lz H x t):∀v∈fm x,v.oneCell'=true:=As (aw:=x.aw) (kind:=x.kind) (mark:=x.mark) hx.cv.one hx.sv.one
def BH(p:iO)(cf:dI)(kc:dU)(H:bw)(y:bW × po)(v:Ε)(post:Β):Prop:=v= .tuple #[Γ y.2.jJ,Γ y.2.err]/\∃H',H.le H'/\post=[.ob (cz p cf kc H' y.1),.mem H']
section
variable (p:iO) (cf:dI) (kc:dU) (H:bw) (c:bW)
def Ql(t:cH)(hr:c.k.gP (c.pos+1)= .ok t)(hm:eg t=true)(hq:c.q.length<kc.cap)(hp:0<=c.pos/\c.pos<=1099511627776){N:Nat}(hg:ij c.k.g N)(hN:N<=1000000000):SP 112 [cF p.np] [.ob (cz p cf kc H c),.mem H] (BH p cf kc H ({c with q:=c.q++[t],pos:=c.pos+1},⟨0,0,1⟩)):=by
 refine Enzz λW F w hS=>?_;apply cDc;delta Ll aI a_ aR bV ai bR;refine⟨λus w=>∃(b:Nat) (x:mK) (H':bw),us=[cF b,Γ 0]/\H.le H'/\lz H' x t/\SL W (.pt b (fm x) 101::.ob (cz p cf kc H' c)::.mem H'::F) w,?_,?_⟩
 ·obtain⟨dv,hS⟩:=cz.open hS Xr;refine Gn λw hS=>?_;refine⟨?_,?_⟩
  ·refine Cc (yS p.sp p.tp p.w.dp p.sl c.k hg hN H (c.pos+1) (by omega)) ?_;clear hS;rintro r post hq w hS;unfold uV at hq;rw[hr]at hq
   obtain⟨x,H',hh,rfl,hx,rfl⟩:=hq;refine Gm λb w hS=>?_;refine zr (vs:=fm x) hS Xu rfl rfl (hx.Bh) λw hS=>?_;have hS:=cz.mono hh (cz.put c hS Xp);exact⟨_,x,H',rfl,hh,hx,aW hS⟩
  refine Gm λb w hS=>?_;refine Cc (yS p.sp p.tp p.w.dp p.sl c.k hg hN H (c.pos+1) (by omega)) ?_;clear hS;rintro r post hq w hS;unfold uV at hq;rw[hr]at hq
  obtain⟨x,H',hh,rfl,hx,rfl⟩:=hq;(try simp only[app]at hS);refine Gp ?_
  refine zr (vs:=fm x) hS Xu rfl rfl (hx.Bh) λw hS=>?_;have hS:=cz.mono hh (cz.put c hS Xp);exact⟨_,x,H',rfl,hh,hx,aW hS⟩
 clear hS;rintro v1 v2 w ⟨b,x,H',cO,hh,hx,hS⟩;cases cO;refine Gp ?_;refine za (λh=>absurd rfl h) (λ_=>?_);refine zA hS Xh rfl ?_;refine Cc (Z8 H' x t hx) ?_;clear hS;rintro r post kz w hS;unfold BJ at kz;rw[Rh hm]at kz
 obtain⟨bv,rfl,rfl⟩:=kz;try simp only[app]at hS
 obtain⟨dv,hS⟩:=cz.open hS Xr;refine Gp ?_;refine za (λh=>absurd rfl h) (λ_=>?_);refine Gn λw hS=>?_;obtain⟨a,ca,hb,_⟩:=bI.at hS (v:=bv) (t:=5) (sz:=1) (n:=(nz t).length) (cells:=(nz t).map cX) Xh;have iw:=mZ hS (v:=bv) (t:=5) (sz:=1) Xh;refine Zd ⟨_,_,_,hb⟩ iw xxm yy1 wwk ?_;refine Cc (YK p.rb kc.cap (c.q.map jR) (dW (nz t))) ?_;clear hS;rintro v post ⟨rfl,rfl⟩ w hS;try simp only[app]at hS
 rw[zzc (by rw[zzn];exact hq),show c.q.map jR++[dW (nz t)]=(c.q++[t]).map jR by simp[jR,gn]]at hS
 refine Gn λw hS=>?_;have hS:=cz.eO (p:=p) (cf:=cf) (kc:=kc) (H:=H') (s:=c.s) (k:=c.k) (m:=c.m) (dr:=c.dr) (q:=c.q++[t]) (pos:=c.pos+1) (due:=c.due) (last:=c.last) (dy:=c.dy) (now:=c.now) hS Xp;exact⟨_,⟨rfl,H',hh,rfl⟩,aW hS⟩
def Qm(t:cH)(q:List cH)(m':dC)(x:cD)(hq:c.q=t::q)(hm:eg t=true)(l6:0<c.kU kc)(su:c.m.take t=(m',(x,0)))(uB:ep x=true)(sr:c.m.Ok)(hid : -9223372036854775808<=c.m.cB.id/\c.m.cB.id<=9223372036854775807):SP 113 [cF p.np] [.ob (cz p cf kc H c),.mem H] (BH p cf kc H (({c with q:=q,m:=m'}:bW).vT x,⟨0,0,2⟩)):=by
 refine Enzz λW F w hS=>?_;apply cDd;delta Lm aI a_ aR bV D7 ai bR;refine Cc (Rj p cf kc H c t q hq hm) ?_;clear hS;rintro r post ⟨tx,H1,dj,hx,rfl,rfl⟩ w hS;refine Gm λb w hS=>?_;refine zr (vs:=fm tx) hS Xu rfl rfl hx.Bh λw hS=>?_;obtain⟨dv,hS⟩:=cz.open hS Xr;rw[hq,zzo]at hS
 refine Gp ?_;refine Cg (V_ p.rb kc.cap (jR t) (q.map jR)) λw hS=>?_;refine⟨λus w=>∃(b:Nat) (y:iA) (H':bw),us=[cF b,Γ 0]/\H.le H'/\gZ H' y x/\SL W (.pt b (eJ y) 214::.ob (cz p cf kc H' {c with q:=q,m:=m'})::.mem H'::F) w,?_,?_⟩
 ·refine Gn λw hS=>?_;refine⟨?_,?_⟩
  ·refine Cc (Z4 p.mp p.wi H1 c.m sr tx t hx hid) ?_;clear hS;rintro r post ⟨y,H2,dQ,rfl,hy,rfl⟩ w hS;rw[su]at hy hS ⊢
   refine Gm λb w hS=>?_;refine zr (vs:=eJ y) hS Xu rfl rfl (mq hy) λw hS=>?_;have hS:=dt.jm dQ hS Xr;have hS:=cz.eO (p:=p) (cf:=cf) (kc:=kc) (H:=H2) (s:=c.s) (k:=c.k) (m:=m') (dr:=c.dr) (q:=q) (pos:=c.pos) (due:=c.due) (last:=c.last) (dy:=c.dy) (now:=c.now) hS Xp;exact⟨_,y,H2,rfl,bw.le_trans dj dQ,hy,aW hS⟩
  refine Gm λb w hS=>?_;refine Cc (Z4 p.mp p.wi H1 c.m sr tx t hx hid) ?_;clear hS;rintro r post ⟨y,H2,dQ,rfl,hy,rfl⟩ w hS;rw[su]at hy hS ⊢
  (try simp only[app]at hS);refine Gp ?_
  refine zr (vs:=eJ y) hS Xu rfl rfl (mq hy) λw hS=>?_;have hS:=dt.jm dQ hS Xr;have hS:=cz.eO (p:=p) (cf:=cf) (kc:=kc) (H:=H2) (s:=c.s) (k:=c.k) (m:=m') (dr:=c.dr) (q:=q) (pos:=c.pos) (due:=c.due) (last:=c.last) (dy:=c.dy) (now:=c.now) hS Xp;exact⟨_,y,H2,rfl,bw.le_trans dj dQ,hy,aW hS⟩
 clear hS;rintro v1 v2 w ⟨b,y,H',cO,hh,hy,hS⟩;cases cO;have vv:=(oy.1 uB).1;refine Gp ?_;refine za (λ_=>?_) (λh=>absurd rfl h);refine Gp ?_;refine zo hy.ops ?_;refine Gp ?_;refine zo hy.iN ?_;refine Gp ?_;unfold bW.vT;refine za (λh=>?_) (λh=>?_)
 ·rw[zzc (by omega)];refine zA hS Xh rfl ?_;have bRa:c.s.L.length+c.s.out<kc.cap:=by unfold bW.kU at l6;omega
  refine Cc (Yt p cf kc H' {c with q:=q,m:=m'} y x hy uB bRa) ?_;clear hS;rintro _ post ⟨rfl,rfl⟩ w hS;try simp only[app]at hS
  have hS:SL W (.ob (cz p cf kc H' ⟨{c.s with L:=c.s.L++[x]},c.k,m',c.dr,q,c.pos,c.due,c.last,c.dy,c.now⟩)::_) _:=hS;obtain⟨dv,hS⟩:=cz.open hS Xr;dsimp only at hS;refine Gn λw hS=>?_;refine Cg (Yl p.bp cf.every c.due c.last y.aw) λw hS=>?_;refine za (λh=>absurd rfl h) (λ_=>?_);rw[hy.aw]at hS
  have hS:=cz.eO (p:=p) (cf:=cf) (kc:=kc) (H:=H') (s:={c.s with L:=c.s.L++[x]}) (k:=c.k) (m:=m') (dr:=c.dr) (q:=q) (pos:=c.pos) (due:=c.due) (last:=max c.last x.aw) (dy:=c.dy) (now:=c.now) hS Xp;exact⟨[.ob (cz p cf kc H' ⟨{c.s with L:=c.s.L++[x]},c.k,m',c.dr,q,c.pos,c.due,max c.last x.aw,c.dy,c.now⟩),.mem H'],⟨rfl,H',hh,rfl⟩,aW hS⟩
 rw[zzb (by omega)];refine Gp ?_;refine za (λh=>absurd rfl h) (λ_=>?_);exact⟨_,⟨rfl,H',hh,rfl⟩,aW hS⟩
def qn{cM f N m:Nat}(hI:pq kc cM c.s f)(hf:f<=1000000)(hk:BO c.s.k N m)(hd:c.dy.length<=1024):SP 115 [cF p.np] [.ob (cz p cf kc H c),.mem H] (BH p cf kc H (c.write kc)):=by
 refine Enzz λW F w hS=>?_;apply cDf;delta Lo aI bU a_ aR bV ai;refine⟨λus w=>us=[Γ c.draw]/\SL W (.ob (cz p cf kc H c)::.mem H::F) w,?_,?_⟩
 ·obtain⟨dv,hS⟩:=cz.open hS Xr;refine Gp ?_;refine zK hS (v:=dv) Xh ?_;refine bY (λh=>?_) (λh=>?_)
  ·have hx:c.dy[0]?=some c.draw:=by
    unfold bW.draw;cases hc:c.dy with
    | nil=>rw[hc]at h;simp at h
    | cons a l=>rfl
   refine Gp ?_;refine y2 (j:=0) (k:=.i64) hS (v:=dv) Xh (by omega) λab ao hb=>⟨_,Γ c.draw,rfl,hb 0 _ (by decide) (p' (enc:=wH) (n:=1) (λ_=>rfl) c.dy 0 0 c.draw (Γ c.draw) hx rfl),?_⟩;have hS:=cz.put c hS Xp;exact⟨rfl,aW hS⟩
  have hS:=cz.put c hS Xp;refine⟨?_,aW hS⟩;have:c.dy=[]:=wwc.1 (by omega);unfold bW.draw;rw[this];rfl
 clear hS;rintro v1 w ⟨cO,hS⟩;cases cO;obtain⟨dv,hS⟩:=cz.open hS Xr;refine Gn λw hS=>?_;refine Cg (zY p.ck [] c.now) λw hS=>?_;refine Cc (cLh p.w kc H c.s c.now c.draw hI hf hk) ?_;clear hS;rintro _ post ⟨rfl,H',hh,rfl⟩ w hS;try simp only[app]at hS
 unfold bW.write;generalize c.s.step kc c.now c.draw=y at *
 obtain⟨s',jJ,err⟩:=y;dsimp only at hS ⊢;have hS:=cW.jm hh hS Xr;refine bY (λh=>?_) (λh=>?_)
 ·subst h;refine Gp ?_;refine zK hS (v:=dv) Xh ?_;refine bY (λh=>?_) (λh=>?_)
  ·refine Gp ?_;refine Yd (k:=1) (v:=dv) (Has.front hS Xr) (by omega) λu hS=>?_;rw[show (c.dy.map wH).flatten.drop (1*1)=(c.dy.tail.map wH).flatten by cases c.dy with|nil=>rfl|cons a l=>rfl,show c.dy.length-1=c.dy.tail.length by rw[List.length_tail]]at hS
   have h1:=dq.one hS .hd;refine Gn λw hS=>?_;have hS:=cz.eO (p:=p) (cf:=cf) (kc:=kc) (H:=H') (s:=s') (k:=c.k) (m:=c.m) (dr:=c.dr) (q:=c.q) (pos:=c.pos) (due:=c.due) (last:=c.last) (dy:=c.dy.tail) (now:=c.now) hS Xp;exact⟨[.ob (cz p cf kc H' ⟨s',c.k,c.m,c.dr,c.q,c.pos,c.due,c.last,c.dy.tail,c.now⟩),.mem H'],⟨rfl,H',hh,rfl⟩,aW hS⟩
  have e:c.dy.tail=c.dy:=by rw[wwc.1 (show c.dy.length=0 by omega)];rfl
  rw[zzc rfl,e];have hS:=cz.eO (p:=p) (cf:=cf) (kc:=kc) (H:=H') (s:=s') (k:=c.k) (m:=c.m) (dr:=c.dr) (q:=c.q) (pos:=c.pos) (due:=c.due) (last:=c.last) (dy:=c.dy) (now:=c.now) hS Xp;exact⟨_,⟨rfl,H',hh,rfl⟩,aW hS⟩
 rw[zzb h];have hS:=cz.eO (p:=p) (cf:=cf) (kc:=kc) (H:=H') (s:=s') (k:=c.k) (m:=c.m) (dr:=c.dr) (q:=c.q) (pos:=c.pos) (due:=c.due) (last:=c.last) (dy:=c.dy) (now:=c.now) hS Xp;exact⟨_,⟨rfl,H',hh,rfl⟩,aW hS⟩
def Qn(he:1<=cf.every/\cf.every<=1073741824)(tB:c.due<=c.now/\(c.m.at_<=c.last\/0<c.kU kc))(AZ:c.s.L.length+c.s.out<=kc.cap)(hm:¬c.m.at_<=c.last->ep ⟨c.m.at_,[],[]⟩=true):SP 116 [cF p.np] [.ob (cz p cf kc H c),.mem H] (BH p cf kc H (c.tell cf)):=by
 refine Enzz λW F w hS=>?_;apply cDg;delta Lp aI aR bV D8 ai bR;have hr:c.due<=c.now/\(c.m.at_<=c.last\/0<((kc.cap-(c.s.L.map iy).length-c.s.out:Nat):Int)):=by
  rw[zzn];unfold bW.kU at tB;omega
 obtain⟨y,x,jJ,tG,hy,C',Ip⟩:∃(y:iA) (x:cD) (jJ tG:Int),gZ H y x/\(∀{v:Ε} {post:Β},(if c.m.at_<=c.last then v= .tuple #[agg (eJ uI),Γ 9]/\post=[jb p.bp cf.every (jo cf.every c.now) c.last] else v= .tuple #[agg (eJ ⟨c.m.at_,Θ,Θ⟩),Γ 8]/\post=[jb p.bp cf.every (jo cf.every c.now) c.m.at_])->v= .tuple #[agg (eJ y),Γ jJ]/\post=[jb p.bp cf.every (jo cf.every c.now) tG])/\((c.m.at_<=c.last/\jJ=9/\tG=c.last)\/(¬c.m.at_<=c.last/\jJ=8/\tG=c.m.at_/\x=⟨c.m.at_,[],[]⟩)):=by
  by_cases h:c.m.at_<=c.last
  ·exact⟨uI,nK,9,c.last,⟨rfl,dx.nil _ _,dx.nil _ _⟩,λh2=>by rw[zzc h]at h2;exact h2,.inl ⟨h,rfl,rfl⟩⟩
  exact⟨⟨c.m.at_,Θ,Θ⟩,⟨c.m.at_,[],[]⟩,8,c.m.at_,⟨rfl,dx.nil _ _,dx.nil _ _⟩,λh2=>by rw[zzb h]at h2;exact h2,.inr ⟨h,rfl,rfl,rfl⟩⟩
 refine⟨λus w=>∃b:Nat,us=[cF b,Γ jJ]/\SL W (.pt b (eJ y) 214::.ob (cz p cf kc H {c with due:=jo cf.every c.now,last:=tG})::.mem H::F) w,?_,?_⟩
 ·obtain⟨dv,hS⟩:=cz.open hS Xr;obtain⟨ov,nv,hi,hS⟩:=dt.open hS Xr;refine Gn λw hS=>?_;refine⟨?_,?_⟩
  ·refine Cg (zY p.ck [] c.now) λw hS=>?_;refine⟨?_,?_⟩
   ·refine Cg (yw p.mp p.wi H c.m) λw hS=>?_;refine⟨?_,?_⟩
    ·refine Cg (zI p.w.qp p.w.qb kc.cap c.s.out (c.s.L.map iy)) λw hS=>?_;refine⟨?_,?_⟩
     ·refine Cc (yi p.bp cf.every c.due c.last c.now c.m.at_ _ he hr) ?_;clear hS;rintro _ post fX w hS;obtain⟨rfl,rfl⟩:=C' fX;refine Gm λb w hS=>?_;refine zr (vs:=eJ y) hS Xu rfl rfl (mq hy) λw hS=>?_;have hS:=dt.put c.s hS hi Xp;have hS:=cz.eO (p:=p) (cf:=cf) (kc:=kc) (H:=H) (s:=c.s) (k:=c.k) (m:=c.m) (dr:=c.dr) (q:=c.q) (pos:=c.pos) (due:=jo cf.every c.now) (last:=tG) (dy:=c.dy) (now:=c.now) hS Xp;exact⟨_,rfl,aW hS⟩
     refine Gm λb w hS=>?_;refine Cc (yi p.bp cf.every c.due c.last c.now c.m.at_ _ he hr) ?_;clear hS;rintro _ post fX w hS;obtain⟨rfl,rfl⟩:=C' fX;(try simp only[app]at hS);refine Gp ?_
     refine zr (vs:=eJ y) hS Xu rfl rfl (mq hy) λw hS=>?_;have hS:=dt.put c.s hS hi Xp;have hS:=cz.eO (p:=p) (cf:=cf) (kc:=kc) (H:=H) (s:=c.s) (k:=c.k) (m:=c.m) (dr:=c.dr) (q:=c.q) (pos:=c.pos) (due:=jo cf.every c.now) (last:=tG) (dy:=c.dy) (now:=c.now) hS Xp;exact⟨_,rfl,aW hS⟩
    refine Gm λb w hS=>?_;refine Cg (zI p.w.qp p.w.qb kc.cap c.s.out (c.s.L.map iy)) λw hS=>?_;refine Cc (yi p.bp cf.every c.due c.last c.now c.m.at_ _ he hr) ?_;clear hS;rintro _ post fX w hS;obtain⟨rfl,rfl⟩:=C' fX;(try simp only[app]at hS);refine Gp ?_
    refine zr (vs:=eJ y) hS Xu rfl rfl (mq hy) λw hS=>?_;have hS:=dt.put c.s hS hi Xp;have hS:=cz.eO (p:=p) (cf:=cf) (kc:=kc) (H:=H) (s:=c.s) (k:=c.k) (m:=c.m) (dr:=c.dr) (q:=c.q) (pos:=c.pos) (due:=jo cf.every c.now) (last:=tG) (dy:=c.dy) (now:=c.now) hS Xp;exact⟨_,rfl,aW hS⟩
   refine Gm λb w hS=>?_;refine Cg (yw p.mp p.wi H c.m) λw hS=>?_;refine Cg (zI p.w.qp p.w.qb kc.cap c.s.out (c.s.L.map iy)) λw hS=>?_;refine Cc (yi p.bp cf.every c.due c.last c.now c.m.at_ _ he hr) ?_;clear hS;rintro _ post fX w hS;obtain⟨rfl,rfl⟩:=C' fX;(try simp only[app]at hS);refine Gp ?_
   refine zr (vs:=eJ y) hS Xu rfl rfl (mq hy) λw hS=>?_;have hS:=dt.put c.s hS hi Xp;have hS:=cz.eO (p:=p) (cf:=cf) (kc:=kc) (H:=H) (s:=c.s) (k:=c.k) (m:=c.m) (dr:=c.dr) (q:=c.q) (pos:=c.pos) (due:=jo cf.every c.now) (last:=tG) (dy:=c.dy) (now:=c.now) hS Xp;exact⟨_,rfl,aW hS⟩
  refine Gm λb w hS=>?_;refine Cg (zY p.ck [] c.now) λw hS=>?_;refine Cg (yw p.mp p.wi H c.m) λw hS=>?_;refine Cg (zI p.w.qp p.w.qb kc.cap c.s.out (c.s.L.map iy)) λw hS=>?_;refine Cc (yi p.bp cf.every c.due c.last c.now c.m.at_ _ he hr) ?_;clear hS;rintro _ post fX w hS;obtain⟨rfl,rfl⟩:=C' fX;(try simp only[app]at hS);refine Gp ?_
  refine zr (vs:=eJ y) hS Xu rfl rfl (mq hy) λw hS=>?_;have hS:=dt.put c.s hS hi Xp;have hS:=cz.eO (p:=p) (cf:=cf) (kc:=kc) (H:=H) (s:=c.s) (k:=c.k) (m:=c.m) (dr:=c.dr) (q:=c.q) (pos:=c.pos) (due:=jo cf.every c.now) (last:=tG) (dy:=c.dy) (now:=c.now) hS Xp;exact⟨_,rfl,aW hS⟩
 clear hS;rintro v1 v2 w ⟨b,cO,hS⟩;cases cO;unfold bW.tell;refine Gp ?_;rcases Ip with ⟨h1,rfl,rfl⟩|⟨h1,rfl,rfl,rfl⟩
 ·refine za (λ_=>?_) (λh=>absurd (by decide) h);rw[zzc h1];exact⟨_,⟨rfl,H,bw.le_refl H,rfl⟩,aW hS⟩
 refine za (λh=>absurd rfl h) (λ_=>?_);rw[zzb h1];refine zA hS Xh rfl ?_;have bU1:c.s.L.length+c.s.out<kc.cap:=by unfold bW.kU at tB;omega
 refine Cg (Yt p cf kc H {c with due:=jo cf.every c.now,last:=c.m.at_} y ⟨c.m.at_,[],[]⟩ hy (hm h1) bU1) λw hS=>?_;refine za (λh=>absurd rfl h) (λ_=>?_);exact⟨[.ob (cz p cf kc H (bW.put {c with due:=jo cf.every c.now,last:=c.m.at_} ⟨c.m.at_,[],[]⟩)),.mem H],⟨rfl,H,bw.le_refl H,rfl⟩,aW hS⟩
end
def K5(p:iO)(cf:dI)(kc:dU)(H:bw)(y:bW × Int)(v:Ε)(post:Β):Prop:=v= Γ y.2/\∃H',H.le H'/\post=[.ob (cz p cf kc H' y.1),.mem H']
section
variable (p:iO) (cf:dI) (kc:dU) (H:bw) (c:bW)
def qg(f:fQ)(dZ:c.s.k.plan.length<=1024):SP 117 [cF p.np,agg (iJ f)] [.ob (cz p cf kc H c),.mem H] (K5 p cf kc H (c.fault f)):=by
 refine Enzz λW F w hS=>?_;apply cDh;delta Lq aI aR bV cL ai;refine zw hS λxb w hS=>?_;refine Gp ?_;refine Cg (Yv f) λw hS=>?_;unfold bW.fault;refine zu (λh=>?_) (λh=>?_)
 ·rw[zzc h];exact⟨_,⟨rfl,H,bw.le_refl H,rfl⟩,aW hS⟩
 rw[zzb (by rw[h];decide)];obtain⟨dv,hS⟩:=cz.open hS Xr;obtain⟨ov,nv,hi,hS⟩:=dt.open hS Xr;refine Gn λw hS=>?_;refine⟨?_,?_⟩
 ·refine Cg (Z3 p.w.kp p.w.gp p.w.dp p.w.lp p.w.pp H c.s.k) λw hS=>?_;refine Gm λb w hS=>?_;have hS:=bI.full (t:=33) (n:=1) (sz:=2) rfl hS;obtain⟨H1,dj,hv,hS⟩:=zz (H:=H) (v:=.slice (some ⟨b,0,none⟩) 1 1) hS Xp;have hv:dx H1 2 (.slice (some ⟨b,0,none⟩) 1 1) [f].length ([f].map iJ).flatten:=hv;have hS:=db.jm dj hS Xr;have hS:=cW.jm dj hS Xr;have tn:=hi.mono dj;obtain⟨rv,hr,hS⟩:=db.open hS Xr;refine Cc (ZZ H1 p.w.pp c.s.k.plan [f] (.slice (some ⟨b,0,none⟩) 1 1) hv (by simp) dZ) ?_;clear hS;rintro _ post ⟨rfl,rfl⟩ w hS;try simp only[app]at hS
  rw[Dx];rw[Dx]at hS
  by_cases hl:1024<=c.s.k.plan.length
  ·rw[zzb (λh=>by omega)];rw[zzb (λh=>by omega)]at hS
   rw[zzc hl];refine Gp ?_;refine za (λ_=>?_) (λh=>absurd (by omega) h);have hS:=db.eO (g:=c.s.k.g) (d:=c.s.k.d) (ts:=c.s.k.ts) (plan:=c.s.k.plan) (aw:=c.s.k.aw) (reqs:=c.s.k.reqs) hS hr Xp;have hS:=dt.eO (p:=p.w) (c:=kc) (k:=c.s.k) (L:=c.s.L) (held:=c.s.held) (n:=c.s.n) hS tn Xp;have hS:=cz.eO (p:=p) (cf:=cf) (kc:=kc) (H:=H1) (s:=c.s) (k:=c.k) (m:=c.m) (dr:=c.dr) (q:=c.q) (pos:=c.pos) (due:=c.due) (last:=c.last) (dy:=c.dy) (now:=c.now) hS Xp;exact⟨[.ob (cz p cf kc H1 c),.mem H1],⟨rfl,H1,dj,rfl⟩,aW hS⟩
  rw[zzc ⟨h,by omega⟩];rw[zzc ⟨h,by omega⟩]at hS
  rw[zzb hl,zza,zz7];refine Gp ?_;refine za (λh=>absurd h (by omega)) (λ_=>?_);have hS:=db.eO (g:=c.s.k.g) (d:=c.s.k.d) (ts:=c.s.k.ts) (plan:=c.s.k.plan++[f]) (aw:=c.s.k.aw) (reqs:=c.s.k.reqs) hS hr Xp;have hS:=dt.eO (p:=p.w) (c:=kc) (k:={c.s.k with plan:=c.s.k.plan++[f]}) (L:=c.s.L) (held:=c.s.held) (n:=c.s.n) hS tn Xp;have hS:=cz.eO (p:=p) (cf:=cf) (kc:=kc) (H:=H1) (s:={c.s with k:={c.s.k with plan:=c.s.k.plan++[f]}}) (k:=c.k) (m:=c.m) (dr:=c.dr) (q:=c.q) (pos:=c.pos) (due:=c.due) (last:=c.last) (dy:=c.dy) (now:=c.now) hS Xp;exact⟨[.ob (cz p cf kc H1 {c with s:={c.s with k:={c.s.k with plan:=c.s.k.plan++[f]}}}),.mem H1],⟨rfl,H1,dj,rfl⟩,aW hS⟩
 refine Gm λb w hS=>?_;have hS:=bI.full (t:=33) (n:=1) (sz:=2) rfl hS;obtain⟨H1,dj,hv,hS⟩:=zz (H:=H) (v:=.slice (some ⟨b,0,none⟩) 1 1) hS Xp;have hv:dx H1 2 (.slice (some ⟨b,0,none⟩) 1 1) [f].length ([f].map iJ).flatten:=hv;have hS:=db.jm dj hS Xr;have hS:=cW.jm dj hS Xr;have tn:=hi.mono dj;refine Cg (Z3 p.w.kp p.w.gp p.w.dp p.w.lp p.w.pp H1 c.s.k) λw hS=>?_;obtain⟨rv,hr,hS⟩:=db.open hS Xr;refine Cc (ZZ H1 p.w.pp c.s.k.plan [f] (.slice (some ⟨b,0,none⟩) 1 1) hv (by simp) dZ) ?_;clear hS;rintro _ post ⟨rfl,rfl⟩ w hS;try simp only[app]at hS
 rw[Dx];rw[Dx]at hS
 by_cases hl:1024<=c.s.k.plan.length
 ·rw[zzb (λh=>by omega)];rw[zzb (λh=>by omega)]at hS
  rw[zzc hl];refine Gp ?_;refine za (λ_=>?_) (λh=>absurd (by omega) h);have hS:=db.eO (g:=c.s.k.g) (d:=c.s.k.d) (ts:=c.s.k.ts) (plan:=c.s.k.plan) (aw:=c.s.k.aw) (reqs:=c.s.k.reqs) hS hr Xp;have hS:=dt.eO (p:=p.w) (c:=kc) (k:=c.s.k) (L:=c.s.L) (held:=c.s.held) (n:=c.s.n) hS tn Xp;have hS:=cz.eO (p:=p) (cf:=cf) (kc:=kc) (H:=H1) (s:=c.s) (k:=c.k) (m:=c.m) (dr:=c.dr) (q:=c.q) (pos:=c.pos) (due:=c.due) (last:=c.last) (dy:=c.dy) (now:=c.now) hS Xp;exact⟨[.ob (cz p cf kc H1 c),.mem H1],⟨rfl,H1,dj,rfl⟩,aW hS⟩
 rw[zzc ⟨h,by omega⟩];rw[zzc ⟨h,by omega⟩]at hS
 rw[zzb hl,zza,zz7];refine Gp ?_;refine za (λh=>absurd h (by omega)) (λ_=>?_);have hS:=db.eO (g:=c.s.k.g) (d:=c.s.k.d) (ts:=c.s.k.ts) (plan:=c.s.k.plan++[f]) (aw:=c.s.k.aw) (reqs:=c.s.k.reqs) hS hr Xp;have hS:=dt.eO (p:=p.w) (c:=kc) (k:={c.s.k with plan:=c.s.k.plan++[f]}) (L:=c.s.L) (held:=c.s.held) (n:=c.s.n) hS tn Xp;have hS:=cz.eO (p:=p) (cf:=cf) (kc:=kc) (H:=H1) (s:={c.s with k:={c.s.k with plan:=c.s.k.plan++[f]}}) (k:=c.k) (m:=c.m) (dr:=c.dr) (q:=c.q) (pos:=c.pos) (due:=c.due) (last:=c.last) (dy:=c.dy) (now:=c.now) hS Xp;exact⟨[.ob (cz p cf kc H1 {c with s:={c.s with k:={c.s.k with plan:=c.s.k.plan++[f]}}}),.mem H1],⟨rfl,H1,dj,rfl⟩,aW hS⟩
def BF(p:iO)(cf:dI)(kc:dU)(H:bw)(c:bW)(u:Ε)(v:Ε)(post:Β):Prop:=v=u/\∃H',H.le H'/\post=[.ob (cz p cf kc H' c),.mem H']
def aI0(comp:Int)(hm:∀t∈c.q,eg t=true)(lD:c.m.reqs.length<=1000){N:Nat}(hg:ij c.k.g N)(hN:N<=1000000000)(AZ:c.s.L.length+c.s.out<=kc.cap):SP 11 [cF p.np,Γ comp] [.ob (cz p cf kc H c),.mem H] (BF p cf kc H c (.bool (c.en kc comp))):=by
 refine Enzz λW F w hS=>?_;apply cC9;delta Li aI bU a_ aR bV cw ai bR;obtain⟨dv,hS⟩:=cz.open hS Xr;have hS:=dt.take hS Xr;refine Gp ?_;refine Cg (zM p.w.dp c.s.k.d) λw hS=>?_;have hS:=dt.wQ c.s c.s.k.d hS Xp;have hS:SL W (.ob (dt p.w kc H c.s)::_) _:=hS;have hS:=cz.put c hS Xp;unfold bW.en;refine yU (λho=>?_) (λho=>?_)
 ·rw[zzc ho];exact⟨_,⟨rfl,H,bw.le_refl H,rfl⟩,aW hS⟩
 rw[zzb (by rw[ho];decide)];refine bY (λh0=>?_) (λh0=>?_)
 ·rw[zzc h0];obtain⟨dv,hS⟩:=cz.open hS Xr;refine Gn λw hS=>?_;refine Cg (zF p.sp p.tp p.w.dp p.sl c.k hg hN) λw hS=>?_;refine za (λh1=>?_) (λh1=>?_)
  ·refine Gp ?_;refine Cg (yv p.rb kc.cap (c.q.map jR)) λw hS=>?_;refine Cg (qd p.rb kc.cap (c.q.map jR)) λw hS=>?_;have hS:=cz.put c hS Xp;refine⟨_,⟨?_,H,bw.le_refl H,rfl⟩,aW hS⟩;rw[zzn];congr 1;rw[yyg];unfold bW.head;omega
  have hS:=cz.put c hS Xp;refine⟨_,⟨?_,H,bw.le_refl H,rfl⟩,aW hS⟩;congr 1;symm;rw[yy7];unfold bW.head;omega
 rw[zzb h0];refine bY (λh1=>?_) (λh1=>?_)
 ·rw[zzc h1];cases hq:c.q with
  | nil=>
   refine Cg (aI5 p cf kc H c hq) λw hS=>?_;refine Gm λb w hS=>?_;exact⟨_,⟨rfl,H,bw.le_refl H,rfl⟩,aW hS⟩
  | cons t q=>
   refine Cc (Rj p cf kc H c t q hq (hm t (by rw[hq];exact .head _))) ?_;clear hS;rintro _ post ⟨x,H1,dj,hx,rfl,rfl⟩ w hS;refine Gm λb w hS=>?_;refine zr (vs:=fm x) hS Xu rfl rfl hx.Bh λw hS=>?_;obtain⟨dv,hS⟩:=cz.open hS Xr;obtain⟨ov,nv,hi,hS⟩:=dt.open hS Xr;refine Gn λw hS=>?_;refine Cg (zI p.w.qp p.w.qb kc.cap c.s.out (c.s.L.map iy)) λw hS=>?_;rw[zzn];refine za (λh2=>?_) (λh2=>?_)
   ·have hS:=dt.put c.s hS hi Xp;obtain⟨rv,hr,hS⟩:=cW.iff.1 (SL.bZ hS (t:=.ob (cW p.mp p.wi H1 c.m)::.ob (dt p.w kc H1 c.s)::.pt p.np (sE p cf c.pos dv) 84::sN dv c.dy::.ob (df p.sp p.tp p.w.dp p.sl c.k)::.pt p.sn (ji p.sp p.mp p.wi p.dg cf.chunk) 208::.ob (fq p.dg c.dr)::.ob (Ring p.rb kc.cap (c.q.map jR))::.ob (iq p.ck [] c.now)::jb p.bp cf.every c.due c.last::.pt b (fm x) 101::.mem H1::F) Xi);refine Gp ?_;refine yH (vs:=[cF p.wi]) hS Xh rfl (λj v h=>?_) ?_
    ·match j,h with
     | 0,h=>exact h
     | j+1,h=>simp at h
    refine zA hS Xh rfl ?_;refine Cg (ZH p.wi c.m.cB x) λw hS=>?_;have hS:=cW.put c.m rv hr hS Xp;have hS:=cz.put c hS Xp;refine⟨_,⟨?_,H1,dj,rfl⟩,aW hS⟩;dsimp only;rw[hx.kind,hx.mark,zzl (show 0<c.kU kc by unfold bW.kU;omega),vv6]
   have hS:=dt.put c.s hS hi Xp;have hS:=cz.put c hS Xp;refine⟨_,⟨?_,H1,dj,rfl⟩,aW hS⟩;rw[zzz (by unfold bW.kU;omega)];rfl
 rw[zzb h1];refine bY (λh2=>?_) (λh2=>?_)
 ·rw[zzc h2];obtain⟨dv,hS⟩:=cz.open hS Xr;refine Gp ?_;refine Cg (Zo p.sp p.mp p.wi p.sn p.dg cf.chunk H c.m lD) λw hS=>?_;have hS:=cz.put c hS Xp;exact⟨_,⟨rfl,H,bw.le_refl H,rfl⟩,aW hS⟩
 rw[zzb h2];refine bY (λh3=>?_) (λh3=>?_)
 ·rw[zzc h3];obtain⟨dv,hS⟩:=cz.open hS Xr;refine Gn λw hS=>?_;refine Cg (zY p.ck [] c.now) λw hS=>?_;refine Cg (ZO p.w kc H c.s c.now) λw hS=>?_;have hS:=cz.put c hS Xp;exact⟨_,⟨rfl,H,bw.le_refl H,rfl⟩,aW hS⟩
 rw[zzb h3];refine bY (λh4=>?_) (λh4=>?_)
 ·rw[zzc h4];obtain⟨dv,hS⟩:=cz.open hS Xr;obtain⟨ov,nv,hi,hS⟩:=dt.open hS Xr;refine Gn λw hS=>?_;refine Cg (zY p.ck [] c.now) λw hS=>?_;refine Cg (yw p.mp p.wi H c.m) λw hS=>?_;refine Cg (zI p.w.qp p.w.qb kc.cap c.s.out (c.s.L.map iy)) λw hS=>?_;refine Cg (Zh p.bp cf.every c.due c.last c.now c.m.at_ _) λw hS=>?_;have hS:=dt.put c.s hS hi Xp;have hS:=cz.put c hS Xp;refine⟨_,⟨?_,H,bw.le_refl H,rfl⟩,aW hS⟩;rw[zzn];congr 1;rw[yyg];unfold bW.kU;omega
 rw[zzb h4];exact⟨_,⟨rfl,H,bw.le_refl H,rfl⟩,aW hS⟩
end
def fz.Good.xS{p:fz}{N:Nat}(h:p.Good N)(hN:N<=900000000):p.Ok:=
 ⟨⟨h.reqs,h.t1,by have:=h.rows;omega,h.lV⟩,h.d,h.d.len,⟨N,h.src,hN⟩,h.n,h.row.1,by have:=h.wid;omega⟩
def y_.okM{n:Nat}{ch:Int}{m:dC}(h:y_ n ch m)(n1:1<=n)(n8:n<=8):m.Ok:=by
 have ht:=h.m_;have hl:=h.cB.len;exact⟨h.may,⟨by omega,by omega⟩,by omega,⟨h.lV,h.oI⟩⟩
def b_u(cf:dI)(kc:dU)(c:bW)(comp:Int):(c.pick cf kc comp).2.aw=0:=by
 unfold bW.pick;split
 ·rfl
 split
 ·rfl
 split
 ·unfold bW.read;split<;>rfl
 split
 ·unfold bW.take;split<;>rfl
 split
 ·rfl
 split
 ·rfl
 unfold bW.tell;split<;>rfl
def cAt(p:fz):p.step.1.n=p.n:=by
 unfold fz.step fz.Di fz.vH fz.CM;dsimp only;split
 ·rfl
 split
 ·split
  ·rfl
  unfold fz.Dj;split<;>rfl
 split
 ·rfl
 split<;>rfl
def kG.mono{W w:Ζ}{l:Β}{p:sU}{c:dU}{H H':bw}{s:fo}(hh:H.le H')(h:SL W (.ob (kG p c H s)::l) w):SL W (.ob (kG p c H' s)::l) w:=by
 unfold kG at *
 simp only[SL.ex,SL.fact,zzu,zzq]at *
 obtain⟨x,⟨hi,hr⟩,h⟩:=h;exact⟨x,⟨hi.mono hh,hr.mono hh⟩,h⟩
def kG.jm{W w:Ζ}{l F:Β}{p:sU}{c:dU}{H H':bw}{s:fo}(hh:H.le H')(hS:SL W l w)(r:fY (.ob (kG p c H s)) l F):SL W (.ob (kG p c H' s)::F) w:=kG.mono hh (hS.perm r.perm)
section
variable (p:iO) (cf:dI) (kc:dU) (H:bw) (c:bW)
def Qk{n j:Nat}{AL:List cH}(h:eS cf kc n j AL c)(hc:CC cf kc n)(hj:j<=190)(comp:Int):SP 68 [cF p.np,Γ comp] [.ob (cz p cf kc H c),.mem H] (BH p cf kc H (c.pick cf kc comp)):=by
 refine Enzz λW F w hS=>?_;apply cJ8;delta Pp aI a_ bV cL Af ai;have hn:=hc.n1;have Fp:=hc.n8;have h':=h;obtain⟨tr,xs,hd,RS,RK,hb,ha⟩:=h';have AW:=xP j;have sr:=hb.mx.okM hn Fp;have AZ:=ha.kP.room;unfold bW.pick;refine bY (λh0=>?_) (λh0=>?_)
 ·rw[zzc (.inl h0)];exact⟨_,⟨rfl,H,bw.le_refl H,rfl⟩,aW hS⟩
 refine bY (λh1=>?_) (λh1=>?_)
 ·rw[zzc (.inr (by omega))];exact⟨_,⟨rfl,H,bw.le_refl H,rfl⟩,aW hS⟩
 rw[zzb (by omega)];refine Cc (aI0 p cf kc H c comp hb.q (by have:=sr.reqs.1;omega) hb.sg (by omega) (by omega)) ?_;clear hS;rintro _ post ⟨rfl,H1,dj,rfl⟩ w hS;(try simp only[app]at hS);refine Gp ?_
 refine zu (λhe=>?_) (λhe=>?_)
 ·rw[zzc he];exact⟨_,⟨rfl,H1,dj,rfl⟩,aW hS⟩
 rw[zzb (by rw[he];decide)];refine bY (λh2=>?_) (λh2=>?_)
 ·rw[zzc h2];subst h2;obtain⟨t,e1,e2,e3,_⟩:=h.read he;have hq:c.q.length<kc.cap:=by
   have ho:=wF he;unfold bW.en at he;rw[zzb (by rw[ho];decide),zzc rfl,zzy]at he
   exact he.2
  rw[e3];refine Cc (Ql p cf kc H1 c t e1 e2 hq hb.pos hb.sg (by omega)) ?_;clear hS;rintro _ post ⟨rfl,H2,dQ,rfl⟩ w hS;(try simp only[app]at hS);refine Gp ?_
  exact⟨_,⟨rfl,H2,bw.le_trans dj dQ,rfl⟩,aW hS⟩
 rw[zzb h2];refine bY (λh3=>?_) (λh3=>?_)
 ·rw[zzc h3];subst h3;obtain⟨t,q,m',x,e1,e2,e3,e4,e5,e6,e7,_⟩:=h.take hc he;rw[e7];refine Cc (Qm p cf kc H1 c t q m' x e1 e2 e3 e4 e5 sr (by have:=hb.mx.cB.id;omega)) ?_;clear hS;rintro _ post ⟨rfl,H2,dQ,rfl⟩ w hS;(try simp only[app]at hS);refine Gp ?_
  exact⟨_,⟨rfl,H2,bw.le_trans dj dQ,rfl⟩,aW hS⟩
 rw[zzb h3];refine bY (λh4=>?_) (λh4=>?_)
 ·rw[zzc h4];obtain⟨dv,hS⟩:=cz.open hS Xr;have hS:=dt.take hS Xr;refine Gp ?_;have dS:=hb.ops;have hS:SL W (.ob (bX p.w.dp (c.lN cf).k.d)::.ob (kG p.w kc H1 c.s)::.pt p.np (sE p cf c.pos dv) 84::sN dv c.dy::.ob (df p.sp p.tp p.w.dp p.sl (c.lN cf).k)::.ob (cW p.mp p.wi H1 (c.lN cf).m)::.pt p.sn (ji p.sp p.mp p.wi p.dg (c.lN cf).n) 208::.ob (fq p.dg (c.lN cf).d)::.ob (Ring p.rb kc.cap (c.q.map jR))::.ob (iq p.ck [] c.now)::jb p.bp cf.every c.due c.last::.mem H1::F) w:=hS;refine Cc (qS p.sp p.tp p.w.dp p.sl p.mp p.wi p.sn p.dg H1 (c.lN cf) ((hb.SM hc).xS (by omega)) (by show c.s.k.d.ops<=90000;omega)) ?_;clear hS;rintro _ post ⟨H2,dQ,rfl,rfl⟩ w hS;try simp only[app]at hS
  have A8:=cAt (c.lN cf);have C9:c.snap cf=(c.Gf (c.lN cf).step.1,⟨(c.lN cf).step.2.2,0,(c.lN cf).step.2.1⟩):=rfl;rw[C9];generalize (c.lN cf).step=y at *
  obtain⟨⟨yk,ym,yd,yn⟩,jJ,err⟩:=y;dsimp only at hS A8 ⊢;have A8:yn=cf.chunk:=A8;subst A8;have hS:=kG.jm dQ hS Xr;have hS:=dt.wQ c.s yk.d hS Xp;refine Gp ?_;have hS:=cz.eO (p:=p) (cf:=cf) (kc:=kc) (H:=H2) (s:={c.s with k:={c.s.k with d:=yk.d}}) (k:=yk) (m:=ym) (dr:=yd) (q:=c.q) (pos:=c.pos) (due:=c.due) (last:=c.last) (dy:=c.dy) (now:=c.now) hS Xp;have hS:SL W (.ob (cz p cf kc H2 (c.Gf ⟨yk,ym,yd,cf.chunk⟩))::.mem H2::F) w:=hS;exact⟨[.ob (cz p cf kc H2 (c.Gf ⟨yk,ym,yd,cf.chunk⟩)),.mem H2],⟨rfl,H2,bw.le_trans dj dQ,rfl⟩,aW hS⟩
 rw[zzb h4];refine bY (λh5=>?_) (λh5=>?_)
 ·rw[zzc h5];refine Cc (qn p cf kc H1 c hb.wt (by omega) (hb.kok hj Fp) hb.dl) ?_;clear hS;rintro _ post ⟨rfl,H2,dQ,rfl⟩ w hS;(try simp only[app]at hS);refine Gp ?_
  exact⟨_,⟨rfl,H2,bw.le_trans dj dQ,rfl⟩,aW hS⟩
 rw[zzb h5];have h6:comp=4:=by omega
 subst h6;obtain⟨_,Ip⟩:=h.tell hc he;have tB:c.due<=c.now/\(c.m.at_<=c.last\/0<c.kU kc):=by
  have ho:=wF he;unfold bW.en at he;rw[zzb (by rw[ho];decide),zzb (by decide),zzb (by decide),zzb (by decide),zzb (by decide),zzc rfl,zzy]at he
  exact he
 refine Cc (Qn p cf kc H1 c ⟨hc.e1,hc.e2⟩ tB (by omega) (λhl=>by rcases Ip with ⟨hh,_⟩|⟨_,_,hh,_⟩;exact absurd hh hl;exact hh)) ?_;clear hS;rintro _ post ⟨rfl,H2,dQ,rfl⟩ w hS;(try simp only[app]at hS);refine Gp ?_
 exact⟨_,⟨rfl,H2,bw.le_trans dj dQ,rfl⟩,aW hS⟩
def aRv{n j:Nat}{AL:List cH}(h:eS cf kc n j AL c)(hc:CC cf kc n)(hj:j<=190)(x:nu)(s:g_)(hx:kT H x s)(hk:s.kind≠8):SP 69 [cF p.np,agg (jU x)] [.ob (cz p cf kc H c),.mem H] (K5 p cf kc H (c.other cf s)):=by
 refine Enzz λW F w hS=>?_;apply XP;delta GX aI bU a_ aR bV ai;refine zw hS λxb w hS=>?_;obtain⟨tr,xs,hd,RS,RK,hb,ha⟩:=h;have AW:=xP j;have nI:=hx.kind;have ou:=hx.n;have vE:=hx.ft;unfold jU at hS;rw[nI,ou,vE]at hS
 unfold bW.other;refine bY (λh3=>?_) (λh3=>?_)
 ·rw[zzc h3];refine Gp ?_;refine yH (vs:=iJ s.ft) hS Xh rfl (λj v h=>?_) ?_
  ·match j,h with
   | 0,h=>exact h
   | 1,h=>exact h
   | j+2,h=>simp[iJ]at h
  refine Cc (qg p cf kc H c s.ft hb.pl) ?_;clear hS;rintro _ post ⟨rfl,H1,dj,rfl⟩ w hS;try simp only[app]at hS
  exact⟨_,⟨rfl,H1,dj,rfl⟩,aW hS⟩
 rw[zzb h3];refine bY (λh4=>?_) (λh4=>?_)
 ·rw[zzc h4];refine Gp ?_;refine Cc (Qo p cf kc H c s.n hb.now) ?_;clear hS;rintro _ post ⟨rfl,rfl⟩ w hS;try simp only[app]at hS
  exact⟨_,⟨rfl,H,bw.le_refl H,rfl⟩,aW hS⟩
 rw[zzb h4];refine bY (λh5=>?_) (λh5=>?_)
 ·rw[zzc h5];refine Gp ?_;refine Cc (q7 p cf kc H c s.n hb.dl) ?_;clear hS;rintro _ post ⟨rfl,rfl⟩ w hS;try simp only[app]at hS
  exact⟨_,⟨rfl,H,bw.le_refl H,rfl⟩,aW hS⟩
 rw[zzb h5];refine bY (λh6=>?_) (λh6=>?_)
 ·rw[zzc h6];obtain⟨dv,hS⟩:=cz.open hS Xr;obtain⟨ov,nv,hi,hS⟩:=dt.open hS Xr;refine Gn λw hS=>?_;refine Cg (yK p.w.kp p.w.gp p.w.dp p.w.lp p.w.pp H c.s.k) λw hS=>?_;have hS:=dt.put c.s hS hi Xp;have hS:=dt.take hS Xr;have hS:SL W (.ob (bX p.w.dp c.src.d)::.ob (kG p.w kc H c.s)::.pt p.np (sE p cf c.pos dv) 84::sN dv c.dy::.ob (df p.sp p.tp p.w.dp p.sl c.src)::_) w:=hS;have dS:=hb.ops;have wY:=hb.al;have A1:c.src.g.bF.length<=AL.length+1:=by
   obtain⟨I,d0,f,lo,m,hL⟩:=ha.kv.live;exact hL.bF
  refine Cc (Q2 p.sp p.tp p.w.dp p.sl c.src H c.s.k.aw (hb.DG hc.n1 hc.n8) (by omega) (by show c.s.k.d.ops+_<=90000;omega)) ?_;clear hS;rintro _ post ⟨rfl,H1,dj,rfl⟩ w hS;try simp only[app]at hS
  have uF:c.trim=(c.jr (c.src.gY c.s.k.aw).1,(c.src.gY c.s.k.aw).2):=rfl;rw[uF];generalize c.src.gY c.s.k.aw=y at *
  obtain⟨k',e⟩:=y;dsimp only at hS ⊢;have hS:=kG.jm dj hS Xr;have hS:=cW.jm dj hS Xr;have hS:=dt.wQ c.s k'.d hS Xp;have hS:=cz.eO (p:=p) (cf:=cf) (kc:=kc) (H:=H1) (s:={c.s with k:={c.s.k with d:=k'.d}}) (k:=k') (m:=c.m) (dr:=c.dr) (q:=c.q) (pos:=c.pos) (due:=c.due) (last:=c.last) (dy:=c.dy) (now:=c.now) hS Xp;have hS:SL W (.ob (cz p cf kc H1 (c.jr k'))::_) w:=hS;exact⟨[.ob (cz p cf kc H1 (c.jr k')),.mem H1],⟨rfl,H1,dj,rfl⟩,aW hS⟩
 rw[zzb h6];refine bY (λh7=>?_) (λh7=>?_)
 ·rw[zzc h7];refine Gp ?_;refine Cc (aIt p cf kc H c s.n) ?_;clear hS;rintro _ post ⟨rfl,rfl⟩ w hS;try simp only[app]at hS
  exact⟨_,⟨rfl,H,bw.le_refl H,rfl⟩,aW hS⟩
 rw[zzb h7];refine Gp ?_;refine za (λh8=>absurd h8 hk) (λh8=>?_);rw[zzb h8];exact⟨_,⟨rfl,H,bw.le_refl H,rfl⟩,aW hS⟩
def aie(p:iO)(cf:dI)(kc:dU)(H:bw)(y:bW × po)(v:Ε)(post:Β):Prop:=v=agg (vf y.2)/\∃H',H.le H'/\post=[.ob (cz p cf kc H' y.1),.mem H']
def aIw{n j:Nat}{AL:List cH}(h:CS cf kc n j AL c)(hc:CC cf kc n)(hj:j<=190)(x:nu)(s:g_)(hx:kT H x s)(hl:s.l.length<=140737488351232)(hk:s.kind≠8):SP 12 [cF p.np,agg (jU x)] [.ob (cz p cf kc H c),.mem H] (aie p cf kc H (c.gH cf kc s)):=by
 refine Enzz λW F w hS=>?_;apply XF;delta GL aI bU a_ bV ai;have nI:=hx.kind;have ou:=hx.n;have vE:=hx.ft;refine zw hS λxb w hS=>?_;refine Gb λzb w hS=>?_;unfold jU at hS;rw[nI,ou,vE]at hS
 refine⟨λus w=>us=[]/\c.s.k.d.off=false/\SL W (.pt zb [Γ 0,Γ 0,Γ 0] 43::.pt xb [Γ s.kind,Γ s.n,x.sv,x.cv,Γ s.ft.kind,Γ s.ft.keep,x.kv] 36::.ob (cz p cf kc H c)::.mem H::F) w,?_,?_⟩
 ·obtain⟨dv,hS⟩:=cz.open hS Xr;have hS:=dt.take hS Xr;refine Gp ?_;refine Cg (zM p.w.dp c.s.k.d) λw hS=>?_;have hS:=dt.wQ c.s c.s.k.d hS Xp;have hS:SL W (.ob (dt p.w kc H c.s)::_) _:=hS;have hS:=cz.put c hS Xp;refine yU (λho=>?_) (λho=>?_)
  ·refine Gp ?_;refine za (λ_=>?_) (λh=>absurd hk h);refine Gn λw hS=>?_;unfold bW.gH;rw[zzc ⟨ho,hk⟩];exact⟨_,⟨rfl,H,bw.le_refl H,rfl⟩,aW hS⟩
  exact⟨rfl,ho,aW hS⟩
 clear hS;rintro w ⟨-,ho,hS⟩;have hA:eS cf kc n j AL c:=by
  rcases h with h|h
  ·exact h
  rw[h.1]at ho;cases ho
 have iW:=hA;obtain⟨tr,xs,hd,RS,RK,hb,ha⟩:=iW;have AW:=xP j;have E6:c.gH cf kc s=if s.kind=1 then c.nX s else if s.kind=2 then c.pick cf kc s.n else ((c.other cf s).1,⟨(c.other cf s).2,0,0⟩):=by
  unfold bW.gH;rw[zzb (λhh=>by rw[ho]at hh;cases hh.1)]
 rw[E6];refine bY (λh1=>?_) (λh1=>?_)
 ·rw[zzc h1];obtain⟨dv,hS⟩:=cz.open hS Xr;have hS:=dt.take hS Xr;refine Gn λw hS=>?_;have hS:SL W (.ob (bX p.w.dp c.src.d)::.ob (kG p.w kc H c.s)::.pt p.np (sE p cf c.pos dv) 84::sN dv c.dy::.ob (df p.sp p.tp p.w.dp p.sl c.src)::_) w:=hS;have dS:=hb.ops;refine Cc (Y6 p.sp p.tp p.w.dp p.sl c.src H x.sv x.cv s.sg s.l hx.sv hx.cv hl (hb.DG hc.n1 hc.n8) (by omega) (by show c.s.k.d.ops<=90000;omega)) ?_;clear hS;rintro _ post ⟨rfl,rfl⟩ w hS;try simp only[app]at hS
  have uF:c.nX s=(c.jr (c.src.nY s.sg s.l).1,⟨(c.src.nY s.sg s.l).2.2,(c.src.nY s.sg s.l).2.1,0⟩):=rfl;rw[uF];generalize c.src.nY s.sg s.l=y at *
  obtain⟨k',aw,e⟩:=y;dsimp only at hS ⊢;have hS:=dt.wQ c.s k'.d hS Xp;have hS:=cz.eO (p:=p) (cf:=cf) (kc:=kc) (H:=H) (s:={c.s with k:={c.s.k with d:=k'.d}}) (k:=k') (m:=c.m) (dr:=c.dr) (q:=c.q) (pos:=c.pos) (due:=c.due) (last:=c.last) (dy:=c.dy) (now:=c.now) hS Xp;have hS:SL W (.ob (cz p cf kc H (c.jr k'))::_) w:=hS;refine Gn λw hS=>?_;exact⟨[.ob (cz p cf kc H (c.jr k')),.mem H],⟨rfl,H,bw.le_refl H,rfl⟩,aW hS⟩
 rw[zzb h1];refine bY (λh2=>?_) (λh2=>?_)
 ·rw[zzc h2];refine Gp ?_;refine Cc (Qk p cf kc H c hA hc hj s.n) ?_;clear hS;rintro _ post ⟨rfl,H1,dj,rfl⟩ w hS;refine Gn λw hS=>?_;exact⟨_,⟨by unfold vf;rw[b_u],H1,dj,rfl⟩,aW hS⟩
 rw[zzb h2];have mW:kT H ⟨s.kind,s.n,x.sv,x.cv,s.ft,x.kv⟩ s:=⟨rfl,rfl,rfl,hx.sv,hx.cv,hx.kv⟩;refine Gp ?_;refine Cc (aRv p cf kc H c hA hc hj ⟨s.kind,s.n,x.sv,x.cv,s.ft,x.kv⟩ s mW hk) ?_;clear hS;rintro _ post ⟨rfl,H1,dj,rfl⟩ w hS;refine Gn λw hS=>?_;exact⟨_,⟨rfl,H1,dj,rfl⟩,aW hS⟩
end
abbrev vL(cf:dI)(a0 a1 a2 a3 a4 a5 a6 a7 a8 a9 tT y z:Ε):Ξ:=[a0,a1,a2,a3,a4,a5,a6,a7,a8,a9,tT,Γ cf.tables,Γ cf.late,Γ cf.size,Γ cf.queue,Γ cf.chunk,Γ cf.batch,Γ cf.base,Γ cf.cJ,Γ cf.sy,Γ cf.every,y,z]
def aI4{cf:dI}{a0 a1 a2 a3 a4 a5 a6 a7 a8 a9 tT y z:Ε}:∀j v,(lY cf)[j]?=some v->(vL cf a0 a1 a2 a3 a4 a5 a6 a7 a8 a9 tT y z)[11+j]?=some v
 | 0,v,h=>h
 | 1,v,h=>h
 | 2,v,h=>h
 | 3,v,h=>h
 | 4,v,h=>h
 | 5,v,h=>h
 | 6,v,h=>h
 | 7,v,h=>h
 | 8,v,h=>h
 | 9,v,h=>h
 | j+10,v,h=>by simp[lY]at h
def z6:∀i,i<6->([Γ 0,Γ 0,Γ 0,Γ 0,Γ 0,Γ 0]:Ξ)[i]?=some (Γ 0)
 | 0,_=>rfl
 | 1,_=>rfl
 | 2,_=>rfl
 | 3,_=>rfl
 | 4,_=>rfl
 | 5,_=>rfl
section
variable (np dp ck sp tp sl kp gp lp pp:Nat) (cf:dI) (kc:dU) (H:bw) (k1:cQ) (k2:cN) (now:Int)
def qk{n:Nat}(hc:CC cf kc n)(a0 a1 a2 a3 a4 a5 a6 a7 a8 a9 tT:Ε)(CV:0<=now/\now<=1125899906842624)(hl:0<=k2.aw/\k2.aw<=1099511627776)(CU:gg k2.reqs)(lD:∀r∈k2.reqs,r.table<(n:Int)/\r.at_<=k2.aw):SP 98 [cF np,cF sp,cF kp] [.pt np (vL cf a0 a1 a2 a3 a4 a5 a6 a7 a8 a9 tT (cF dp) (cF ck)) 84,.ob (df sp tp dp sl k1),.ob (db kp gp dp lp pp H k2),.ob (iq ck [] now),.mem H]
  (λv post=>v= Γ 0/\∃(p:iO) (H':bw),H.le H'/\p.np=np/\p.w.dp=dp/\p.ck=ck/\post=[.ob (cz p cf kc H' (bW.start cf k1 k2 now)),.mem H']):=by
 refine Enzz λW F w hS=>?_;apply cKt;delta PJ aI bU a_ aR bV ai cT bR ig;have fB:¬Dq cf.tables cf.late cf.chunk k2.aw k2.reqs:=by
  have h1:=hc.tables;have h2:=hc.n1;have h3:=hc.n8;have h4:=hc.U5;have h5:=hc.U4;have h6:=hc.c1;have h7:=hc.wm;rintro (h|h|h|h|h|h|h|h|h|⟨r,hr,h⟩)
  ·omega
  ·omega
  ·omega
  ·rw[h1,zzw]at h;omega
  ·omega
  ·omega
  ·omega
  ·omega
  ·exact h CU
  have:=lD r hr;omega
 refine Gp ?_;refine yH (o:=11) (vs:=lY cf) hS Xh rfl aI4 ?_;refine Gm λb w hS=>?_;refine Cg (yK kp gp dp lp pp H k2) λw hS=>?_;refine Gm λb w hS=>?_;refine Gm λb w hS=>?_;rw[hc.queue];refine Cc (Vz kc.cap hc.q1 hc.Dy) ?_;clear hS;rintro _ post ⟨rb,rfl,rfl⟩ w hS;refine Gn λw hS=>?_;refine yB (j:=0) (by decide) ?_;refine Gn λw hS=>?_;rw[hc.queue];refine Cc (bF0 kc.cap hc.q1 hc.Dy) ?_;clear hS;rintro _ post ⟨qp,qb,rfl,rfl⟩ w hS;refine Gn λw hS=>?_;refine yB (j:=1) (by decide) ?_;refine Gn λw hS=>?_;rw[hc.base,hc.cm,hc.UR];refine Cc (cB9 kc.b kc.m kc.j) ?_;clear hS;rintro _ post hq w hS;rw[zzc hc.may]at hq
 obtain⟨rp,rfl,rfl⟩:=hq;refine Gn λw hS=>?_;refine yB (j:=2) (by decide) ?_;refine Gn λw hS=>?_;refine Cg (zY ck [] now) λw hS=>?_;refine Cg (yK kp gp dp lp pp H k2) λw hS=>?_;refine Cc (aId cf.every now k2.aw ⟨hc.e1,hc.e2⟩ CV hl) ?_;clear hS;rintro _ post ⟨bp,rfl,rfl⟩ w hS;refine Gn λw hS=>?_;refine yB (j:=3) (by decide) ?_;refine Gn λw hS=>?_;refine Cg (yK kp gp dp lp pp H k2) λw hS=>?_;refine Cc (QB kp gp dp lp pp H k2 CU.1) ?_;clear hS;rintro rv post ⟨H1,dj,Ub,rfl⟩ w hS;(try simp only[app]at hS);refine Gp ?_
 refine Cc (bYw H1 cf.tables cf.late cf.chunk k2.aw rv k2.reqs Ub (by have:=CU.1;omega)) ?_;clear hS;rintro _ post hq w hS;rcases hq with ⟨hb,_⟩|⟨_,mp,wi,H2,dQ,rfl,rfl⟩
 ·exact absurd hb fB
 refine Gn λw hS=>?_;refine yB (j:=4) (by decide) ?_;refine Gn λw hS=>?_;rw[hc.batch];refine Cc (cLa kp qp rp kc.cJ hc.b1 hc.Hi) ?_;clear hS;rintro _ post ⟨wp,rfl,rfl⟩ w hS;refine Gn λw hS=>?_;refine yB (j:=5) (by decide) ?_;refine Gn λw hS=>?_;refine⟨λus w'=>∃i:Nat,us=[Γ i]/\i<=6/\w'=w,λus _=>match us with|[.int _ i]=>(6-i).toNat|_=>0,⟨0,rfl,by decide,rfl⟩,?_⟩;rintro v96 w' ⟨i,cO,hi,rfl⟩;cases cO;refine bY (λh=>?_) (λh=>?_)
 ·have TB:i<6:=by omega
  refine Wy Tryz.underlying250 (λw=>by kernel_rfl) (λw=>by kernel_rfl) TB (z6 i TB) ?_;refine Gp ?_;refine za (λh=>absurd rfl h) (λ_=>?_);refine Gp ?_;exact⟨⟨i+1,rfl,by omega,rfl⟩,by dsimp only;omega⟩
 refine Gp ?_;refine Cc (QZ sp mp wi H2 ⟨cf.tables,cf.late,k2.aw,k2.reqs,mH cf.chunk⟩ cf.chunk) ?_;clear hS;rintro _ post hq w hS;rcases hq with ⟨hb,_⟩|⟨_,sn,dg,rfl,rfl⟩
 ·exact absurd ⟨hc.c1,hc.wm⟩ hb
 (try simp only[app]at hS);refine Gp ?_
 refine za (λ_=>?_) (λh=>absurd rfl h);refine Gn λw hS=>?_;refine Ye (o:=0) (vs:=[cF kp,cF sp,cF rb,Γ k2.aw,cF mp,cF sn,cF qp,cF rp,cF wp,cF bp,Θ]) hS Xu rfl (by show 11<=23;decide) (by simp[Value.oneCell']) λw hS=>?_;have hS:=db.jm dQ hS Xr;simp only[vL,List.take,List.drop,zzu,zzq,yye]at hS;have hS:SL W (.pt wp (oD kp qp rp kc.cJ 0 Θ Θ 0) 216::.ob (db kp gp dp lp pp H2 k2)::.ob (Gate qp qb kc.cap 0 [])::ki rp kc.b kc.m kc.j 0 0::.pt np (vL cf (cF kp) (cF sp) (cF rb) (Γ k2.aw) (cF mp) (cF sn) (cF qp) (cF rp) (cF wp) (cF bp) Θ (cF dp) (cF ck)) 84::.ob (df sp tp dp sl k1)::.ob (cW mp wi H2 ⟨cf.tables,cf.late,k2.aw,k2.reqs,mH cf.chunk⟩)::.pt sn (ji sp mp wi dg cf.chunk) 208::.ob (fq dg wE)::.ob (Ring rb kc.cap [])::.ob (iq ck [] now)::jb bp cf.every (jo cf.every now) k2.aw::.mem H2::F) w:=aW hS;have vr:gZ H2 ⟨nK.aw,Θ,Θ⟩ nK:=⟨rfl,dx.nil _ _,dx.nil _ _⟩;have hS:=(dt.iff (p:=⟨wp,kp,gp,dp,lp,pp,qp,qb,rp⟩) (c:=kc) (H:=H2) (s:=⟨k2,[],0,0,0,nK,0⟩)).2 ⟨Θ,Θ,vr,hS⟩;have hS:=dq.rB (t:=2) (sz:=1) (a:=none) hS;have hS:SL W (.pt np (vL cf (cF kp) (cF sp) (cF rb) (Γ k2.aw) (cF mp) (cF sn) (cF qp) (cF rp) (cF wp) (cF bp) Θ (cF dp) (cF ck)) 84::.ob (dq Θ 2 1 0 [])::.ob (dt ⟨wp,kp,gp,dp,lp,pp,qp,qb,rp⟩ kc H2 ⟨k2,[],0,0,0,nK,0⟩)::.ob (df sp tp dp sl k1)::.ob (cW mp wi H2 ⟨cf.tables,cf.late,k2.aw,k2.reqs,mH cf.chunk⟩)::.pt sn (ji sp mp wi dg cf.chunk) 208::.ob (fq dg wE)::.ob (Ring rb kc.cap [])::.ob (iq ck [] now)::jb bp cf.every (jo cf.every now) k2.aw::.mem H2::F) w:=aW hS;have hS:=(cz.iff (p:=⟨np,⟨wp,kp,gp,dp,lp,pp,qp,qb,rp⟩,sp,tp,sl,rb,mp,wi,sn,dg,bp,ck⟩) (cf:=cf) (kc:=kc) (H:=H2) (c:=bW.start cf k1 k2 now)).2 ⟨Θ,hS⟩;exact⟨[.ob (cz ⟨np,⟨wp,kp,gp,dp,lp,pp,qp,qb,rp⟩,sp,tp,sl,rb,mp,wi,sn,dg,bp,ck⟩ cf kc H2 (bW.start cf k1 k2 now)),.mem H2],⟨rfl,⟨np,⟨wp,kp,gp,dp,lp,pp,qp,qb,rp⟩,sp,tp,sl,rb,mp,wi,sn,dg,bp,ck⟩,H2,bw.le_trans dj dQ,rfl,rfl,rfl,rfl⟩,aW hS⟩
def K9(np dp ck:Nat)(cf:dI)(kc:dU)(H:bw)(c:bW)(v:Ε)(post:Β):Prop:=v= Γ 0/\∃(p:iO) (H':bw),H.le H'/\p.np=np/\p.w.dp=dp/\p.ck=ck/\post=[.ob (cz p cf kc H' c),.mem H']
def ZW{n:Nat}(hc:CC cf kc n)(d:DS){N:Nat}(e1:lk d cf.tables cf.size=(k1.d,.ok k1))(e2:kC k1.d cf.tables cf.size=(k2.d,.ok k2))(cG:d.Ok N)(bUp:k1.d.Ok N)(hN:N<=100000000)(dS:d.ops<=90000)(T1:k1.d.ops<=90000)(nG:∀d' g,eV d 16 cf.size=(d',.ok g)->(cR g.bF).length<=50000)(xq:∀d' g,eV k1.d 8192 cf.size=(d',.ok g)->(cR g.bF).length<=200)
  (a0 a1 a2 a3 a4 a5 a6 a7 a8 a9 tT:Ε) (CV:0<=now/\now<=1125899906842624) (hl:0<=k2.aw/\k2.aw<=1099511627776) (CU:gg k2.reqs) (lD:∀r∈k2.reqs,r.table<(n:Int)/\r.at_<=k2.aw):SP 42 [cF np] [.pt np (vL cf a0 a1 a2 a3 a4 a5 a6 a7 a8 a9 tT (cF dp) (cF ck)) 84,.ob (bX dp d),.ob (iq ck [] now),.mem H] (K9 np dp ck cf kc H (bW.start cf k1 k2 now)):=by
 refine Enzz λW F w hS=>?_;apply cJj;delta O0 aI bU a_ bV ai;refine Gn λw hS=>?_;refine Cc (QX H dp d cf.tables cf.size cG (by omega) dS nG) ?_;clear hS;rintro r post hq w hS;unfold GF at hq;rw[e1]at hq
 obtain⟨sp,tp,sl,H1,dj,rfl,rfl⟩:=hq;(try simp only[app]at hS);refine Gp ?_
 refine za (λh=>absurd rfl h) (λ_=>?_);refine Gn λw hS=>?_;refine Cc (Qz H1 dp k1.d cf.tables cf.size bUp hN T1 xq) ?_;clear hS;rintro r post hq w hS;unfold K4 at hq;rw[e2]at hq
 obtain⟨kp,gp,lp,pp,H2,dQ,rfl,rfl⟩:=hq;(try simp only[app]at hS);refine Gp ?_
 refine za (λh=>absurd rfl h) (λ_=>?_);refine Cc (qk np dp ck sp tp sl kp gp lp pp cf kc H2 k1 k2 now hc a0 a1 a2 a3 a4 a5 a6 a7 a8 a9 tT CV hl CU lD) ?_;clear hS;rintro _ post ⟨rfl,p,H3,gb,nH,pQ,AX,rfl⟩ w hS;try simp only[app]at hS
 exact⟨_,⟨rfl,p,H3,bw.le_trans dj (bw.le_trans dQ gb),nH,pQ,AX,rfl⟩,aW hS⟩
end
section
variable (p:iO) (cf:dI) (kc:dU) (H:bw) (c:bW)
def qf{n j:Nat}{AL:List cH}(h:CS cf kc n j AL c)(hc:CC cf kc n)(hj:j<=190)(x:nu)(s:g_)(hx:kT H x s)(hk:s.kind=8):SP 69 [cF p.np,agg (jU x)] [.ob (cz p cf kc H c),.mem H] (K9 p.np p.w.dp p.ck cf kc H (c.eD cf s.keep)):=by
 refine Enzz λW F w hS=>?_;apply XP;delta GX aI bU a_ aR bV ai;refine zw hS λxb w hS=>?_;obtain⟨k1,k2,eM,hK⟩:=h.eD hc hj s.keep;obtain⟨xs0,tg⟩:=h.mL;obtain⟨tr,xs,hd,RS,RK,hb,ha⟩:=hK.st;have nI:=hx.kind;unfold jU at hS;rw[nI,hk]at hS
 refine Gp ?_;refine za (λh3=>absurd h3 (by decide)) (λh3=>?_);refine Gp ?_;refine za (λh3=>absurd h3 (by decide)) (λh3=>?_);refine Gp ?_;refine za (λh3=>absurd h3 (by decide)) (λh3=>?_);refine Gp ?_;refine za (λh3=>absurd h3 (by decide)) (λh3=>?_);refine Gp ?_;refine za (λh3=>absurd h3 (by decide)) (λh3=>?_);refine Gp ?_;refine za (λ_=>?_) (λh3=>absurd rfl h3);obtain⟨dv,hS⟩:=cz.open hS Xr;have hS:=dt.take hS Xr;have vB:=tg.dk.DA;have AW:=xP j;have TU:=JH j;have dS:=tg.ops;have T1:=hK.ops;have nG:=hK.n1;refine Gn λw hS=>?_;refine Cg (qj H p.w.dp c.s.k.d (nJ j) tg.dk (by omega) (by omega) x.kv s.keep hx.kv) λw hS=>?_;have hS:SL W (.pt p.np (vL cf (iH p.w.kp) (cF p.sp) (cF p.rb) (Γ c.pos) (cF p.mp) (cF p.sn) (cF p.w.qp) (cF p.w.rp) (cF p.w.wp) (cF p.bp) dv (cF p.w.dp) (cF p.ck)) 84::.ob (bX p.w.dp (c.s.k.d.eD s.keep))::.ob (iq p.ck [] c.now)::.mem H::F) w:=aW hS;refine Cc (ZW p.np p.w.dp p.ck cf kc H k1 k2 c.now hc (c.s.k.d.eD s.keep) (N:=nJ (j+1)) hK.e1 hK.e2 ((tg.dk.eD s.keep).mono (Bf j)) hK.dk (by omega) (by show c.s.k.d.ops<=90000;omega) (by omega) (λd' g e=>yyy (nG d' g e) (by decide)) hK.n2 _ _ _ _ _ _ _ _ _ _ _ tg.now ⟨ha.kP.l0,hb.mx.oI⟩ hb.mx.may ha.mg) ?_;clear hS;rintro _ post ⟨rfl,q,H3,gb,nH,pQ,AX,rfl⟩ w hS;try simp only[app]at hS
 rw[hK.is];exact⟨_,⟨rfl,q,H3,gb,nH,pQ,AX,rfl⟩,aW hS⟩
def aIv{n j:Nat}{AL:List cH}(h:CS cf kc n j AL c)(hc:CC cf kc n)(hj:j<=190)(x:nu)(s:g_)(hx:kT H x s)(hk:s.kind=8):SP 12 [cF p.np,agg (jU x)] [.ob (cz p cf kc H c),.mem H]
  (λv post=>v=agg (vf ⟨0,0,0⟩)/\∃(q:iO) (H':bw),H.le H'/\q.np=p.np/\q.w.dp=p.w.dp/\q.ck=p.ck/\post=[.ob (cz q cf kc H' (c.eD cf s.keep)),.mem H']):=by
 refine Enzz λW F w hS=>?_;apply XF;delta GL aI bU a_ bV ai;have nI:=hx.kind;refine zw hS λxb w hS=>?_;refine Gb λzb w hS=>?_;unfold jU at hS;rw[nI,hk]at hS
 refine⟨λus w=>us=[]/\SL W (.pt zb [Γ 0,Γ 0,Γ 0] 43::.pt xb [Γ 8,Γ x.n,x.sv,x.cv,Γ x.ft.kind,Γ x.ft.keep,x.kv] 36::.ob (cz p cf kc H c)::.mem H::F) w,?_,?_⟩
 ·obtain⟨dv,hS⟩:=cz.open hS Xr;have hS:=dt.take hS Xr;refine Gp ?_;refine Cg (zM p.w.dp c.s.k.d) λw hS=>?_;have hS:=dt.wQ c.s c.s.k.d hS Xp;have hS:SL W (.ob (dt p.w kc H c.s)::_) _:=hS;have hS:=cz.put c hS Xp;refine yU (λho=>?_) (λho=>?_)
  ·refine Gp ?_;refine za (λh=>absurd rfl h) (λ_=>?_);exact⟨rfl,aW hS⟩
  exact⟨rfl,aW hS⟩
 clear hS;rintro w ⟨-,hS⟩;have mW:kT H ⟨8,x.n,x.sv,x.cv,x.ft,x.kv⟩ s:=⟨hk.symm,hx.n,hx.ft,hx.sv,hx.cv,hx.kv⟩;refine Gp ?_;refine za (λh3=>absurd h3 (by decide)) (λh3=>?_);refine Gp ?_;refine za (λh3=>absurd h3 (by decide)) (λh3=>?_);refine Gp ?_;refine Cc (qf p cf kc H c h hc hj ⟨8,x.n,x.sv,x.cv,x.ft,x.kv⟩ s mW hk) ?_;clear hS;rintro _ post ⟨rfl,q,H1,dj,nH,pQ,AX,rfl⟩ w hS;refine Gn λw hS=>?_;exact⟨_,⟨rfl,q,H1,dj,nH,pQ,AX,rfl⟩,aW hS⟩
end
def zU(n a b:Int):SP 93 [Γ n,Γ a,Γ b] [] (cC (.bool (decide (a<=n/\n<=b))) []):=by
 refine Enzz λW F w hS=>?_;apply cKo;delta PD aI cw;refine bY (λh=>?_) (λh=>?_)
 ·refine Gp ?_;rw[show decide (a<=n/\n<=b)=decide (n<=b) from yyg.2 ⟨λh=>h.2,λh'=>⟨by omega,h'⟩⟩];(exact cA hS)
 rw[zzz (p:=a<=n/\n<=b) (by omega)];(exact cA hS)
def aRd{cf:dI}{kc:dU}{n:Nat}(hc:CC cf kc n):SP 39 [agg (lY cf)] [] (cC (.bool true) []):=by
 refine Enzz λW F w hS=>?_;apply XM;delta GU aI a_ cw ai;have h1:=hc.tables;have h2:=hc.n1;have h3:=hc.n8;have h4:=hc.U5;have h5:=hc.queue;have h6:=hc.batch;have h7:=hc.q1;have h8:=hc.Dy;have h9:=hc.b1;have vm:=hc.Hi;have hp:(2:Int) ^ n<=256:=by
  have:(2:Nat) ^ n<=2 ^ 8:=vvy (by decide) h3;have h:=Int.ofNat_le.2 this
  push_cast at h
  exact h
 have vA:(1:Int)<=2 ^ n:=by
  have h:=Int.ofNat_le.2 (Nat.one_le_two_pow (n:=n))
  push_cast at h
  exact h
 refine zw hS λxb w hS=>?_;unfold lY at hS;refine Gn λw hS=>?_;refine yf (by kernel_rfl) (zU cf.tables 1 8) rfl hS Xp ?_;rintro _ post ⟨rfl,rfl⟩ w hS;try simp only[app]at hS
 rw[zzl (p:=1<=cf.tables/\cf.tables<=8) (by omega)];refine Gp ?_;rw[hc.tables];refine QV (n:=n) (by omega) (by omega) ?_;refine Gp ?_;refine yf (by kernel_rfl) (zU cf.late 0 (1*2 ^ n-1)) rfl hS Xp ?_;rintro _ post ⟨rfl,rfl⟩ w hS;try simp only[app]at hS
 rw[zzl (p:=0<=cf.late/\cf.late<=(1*2 ^ n-1)) ⟨hc.U4,by omega⟩];refine Gp ?_;refine yf (by kernel_rfl) (zU cf.size 64 65536) rfl hS Xp ?_;rintro _ post ⟨rfl,rfl⟩ w hS;try simp only[app]at hS
 rw[zzl (p:=64<=cf.size/\cf.size<=65536) ⟨hc.s0,hc.s1⟩];refine Gp ?_;refine yf (by kernel_rfl) (zU cf.queue 1 64) rfl hS Xp ?_;rintro _ post ⟨rfl,rfl⟩ w hS;try simp only[app]at hS
 rw[zzl (p:=1<=cf.queue/\cf.queue<=64) (by omega)];refine Gp ?_;refine yf (by kernel_rfl) (zU cf.chunk 1 64) rfl hS Xp ?_;rintro _ post ⟨rfl,rfl⟩ w hS;try simp only[app]at hS
 rw[zzl (p:=1<=cf.chunk/\cf.chunk<=64) ⟨hc.c1,hc.wm⟩];refine Gp ?_;refine yf (by kernel_rfl) (zU cf.batch 1 64) rfl hS Xp ?_;rintro _ post ⟨rfl,rfl⟩ w hS;try simp only[app]at hS
 rw[zzl (p:=1<=cf.batch/\cf.batch<=64) (by omega)];refine Gp ?_;rw[hc.base,hc.cm,hc.UR];refine Cc (y0 kc.b kc.m kc.j) ?_;clear hS;rintro _ post ⟨rfl,rfl⟩ w hS;try simp only[app]at hS
 rw[zzl hc.may];refine Gp ?_;refine za (λh=>?_) (λh=>absurd hc.e1 h);refine Gp ?_;rw[zzl hc.e2];(exact cA hS)
def Ys{cf:dI}{kc:dU}{n:Nat}(H:bw)(hc:CC cf kc n):SP 8 [agg (lY cf)] [.mem H] (λv post=>∃(p:iO) (H':bw),H.le H'/\v= .tuple #[cF p.np,Γ 0]/\post=[.ob (cz p cf kc H' (wC cf n)),.mem H']):=by
 refine Enzz λW F w hS=>?_;apply XR;delta GZ aI cL ai cT bR;obtain⟨e1,e2,h0⟩:=eS.first (kc:=kc) hc;obtain⟨tr,xs,hd,RS,RK,hb,ha⟩:=h0;refine zw hS λxb w hS=>?_;refine Gp ?_;refine Cg (aRd hc) λw hS=>?_;refine zu (λh=>by cases h) (λ_=>?_);refine Gn λw hS=>?_;refine Cc (bY6) ?_;clear hS;rintro _ post ⟨dp,rfl,rfl⟩ w hS;(try simp only[app]at hS);refine Gp ?_
 refine Cc (bY7 0) ?_;clear hS;rintro _ post ⟨ck,rfl,rfl⟩ w hS;try simp only[app]at hS
 rw[show rV 0=0 from rfl]at hS
 refine Gp ?_;refine⟨vL cf (.pointer none) (.pointer none) (.pointer none) (Γ 0) (.pointer none) (.pointer none) (.pointer none) (.pointer none) (.pointer none) (.pointer none) Θ (cF dp) (cF ck),rfl,_,rfl,zE hS λnp w hS=>?_⟩;have ho:∀(base:Int),0<=base->base<=12288->∀d' g,eV gK base cf.size=(d',.ok g)->(cR g.bF).length=0:=λbase b0 b1 d' g e=>by
  rw[JT b0 b1 hc.s0 hc.s1]at e
  cases e;rfl
 refine Cc (ZW np dp ck cf kc H (vG n cf.size) (sA n cf.size) 0 hc gK (N:=nJ 0) e1 e2 (DD _) (DD _) (by decide) (by decide) (show (0:Nat)<=90000 by decide) (λd' g e=>by rw[ho 16 (by decide) (by decide) d' g e];decide) (λd' g e=>by rw[ho 8192 (by decide) (by decide) d' g e];decide) _ _ _ _ _ _ _ _ _ _ _ (by decide) ⟨ha.kP.l0,hb.mx.oI⟩ hb.mx.may ha.mg) ?_;clear hS;rintro _ post ⟨rfl,q,H3,gb,nH,pQ,AX,rfl⟩ w hS;(try simp only[app]at hS);refine Gp ?_
 refine za (λh=>absurd rfl h) (λ_=>?_);have hS:SL W (.ob (cz q cf kc H3 (wC cf n))::_) w:=hS;exact⟨_,⟨q,H3,gb,by rw[nH],rfl⟩,aW hS⟩
section
end
def cW.Du{W w:Ζ}{l F:Β}{mp wp:Nat}{H:bw}{m:dC}(hS:SL W l w)(r:fY (.ob (cW mp wp H m)) l F):∃rv,jc H rv m.reqs/\SL W (.pt mp (xO m wp rv) 121::.ob (dF wp m.cB)::F) w:=cW.iff.1 (hS.perm r.perm)
def Gate.Du{W w:Ζ}{l F:Β}{g b cap out:Nat}{L:Ψ}(hS:SL W l w)(r:fY (.ob (Gate g b cap out L)) l F):(L.length+out<=cap/\cap<=64)/\SL W (.pt g [Δ b,Γ out] 125::.ob (Ring b cap L)::F) w:=Gate.open (hS.perm r.perm)
def Gate.put{W w:Ζ}{l F:Β}{g b cap out:Nat}{L:Ψ}(hA:L.length+out<=cap/\cap<=64)(hS:SL W l w)(k:gx [.pt g [Δ b,Γ out] 125,.ob (Ring b cap L)] l F):SL W (.ob (Gate g b cap out L)::F) w:=Gate.close hA (hS.pick k)
section
variable (p:iO) (cf:dI) (kc:dU) (H:bw) (c:bW)
set_option maxHeartbeats 4000000 in
def q9{N:Nat}(hg:ij c.k.g N)(hN:N<=1000000000)(AZ:c.s.L.length+c.s.out<=kc.cap)(C3:c.m.cB.rows.length<=1000):SP 10 [cF p.np] [.ob (cz p cf kc H c),.mem H] (BF p cf kc H c (agg (Aq (c.look kc)))):=by
 refine Enzz λW F w hS=>?_;apply cC0;delta K_ a_ aR bV ai;obtain⟨dv,hS⟩:=cz.open hS Xr;obtain⟨ov,nv,hi,hS⟩:=dt.open hS Xr;obtain⟨rv,hr,hS⟩:=cW.Du hS Xr;obtain⟨hG,hS⟩:=Gate.Du hS Xr;refine Gm λb w hS=>?_;refine yH (vs:=[cF p.wi]) hS Xh rfl (λj v h=>?_) ?_
 ·match j,h with
  | 0,h=>exact h
  | j+1,h=>simp at h
 refine Cg (YF p.wi) λw hS=>?_;have hS:=cW.put c.m rv hr hS Xp;refine Cg (yK p.w.kp p.w.gp p.w.dp p.w.lp p.w.pp H c.s.k) λw hS=>?_;refine Cg (zF p.sp p.tp p.w.dp p.sl c.k hg hN) λw hS=>?_;refine Cg (ZB p.sp p.tp p.w.dp p.sl c.k hg hN) λw hS=>?_;refine Cg (zY p.ck [] c.now) λw hS=>?_;refine Cg (yw p.mp p.wi H c.m) λw hS=>?_;refine Cg (yv p.rb kc.cap (c.q.map jR)) λw hS=>?_;refine Cg (yv p.w.qb kc.cap (c.s.L.map iy)) λw hS=>?_;have hS:=Gate.put hG hS Xp;refine Cg (bF2 p.w.qp p.w.qb kc.cap c.s.out (c.s.L.map iy)) λw hS=>?_;refine Cg (zI p.w.qp p.w.qb kc.cap c.s.out (c.s.L.map iy)) λw hS=>?_;obtain⟨Ww,xx,hS⟩:=cW.Du hS Xr;refine Cg (yZ p.wi c.m.cB) λw hS=>?_;refine Cc (cLe p.wi c.m.cB (by omega)) ?_;clear hS;rintro u post rfl w hS;(try simp only[app]at hS);refine Gp ?_
 refine zt hS Xh ?_;have hS:=cW.put c.m Ww xx hS Xp;refine Cg (qU p.w.rp kc.b kc.m kc.j c.s.fR c.s.eK) λw hS=>?_;refine Cg (ZN p.w.rp kc.b kc.m kc.j c.s.fR c.s.eK) λw hS=>?_;refine Cg (q6 p.bp cf.every c.due c.last) λw hS=>?_;obtain⟨rv3,hr3,hS⟩:=db.open hS Xr;refine Cg (zM p.w.dp c.s.k.d) λw hS=>?_;have hS:=db.eO (g:=c.s.k.g) (d:=c.s.k.d) (ts:=c.s.k.ts) (plan:=c.s.k.plan) (aw:=c.s.k.aw) (reqs:=c.s.k.reqs) hS hr3 Xp;have hS:SL W (.ob (db p.w.kp p.w.gp p.w.dp p.w.lp p.w.pp H c.s.k)::_) w:=hS;have hS:=dt.put c.s hS hi Xp;have hS:=cz.put c hS Xp;exact⟨[.ob (cz p cf kc H c),.mem H],⟨rfl,H,bw.le_refl H,rfl⟩,aW hS⟩
end
def cz.jm{W w:Ζ}{l F:Β}{p:iO}{cf:dI}{kc:dU}{H H':bw}{c:bW}(hh:H.le H')(hS:SL W l w)(r:fY (.ob (cz p cf kc H c)) l F):SL W (.ob (cz p cf kc H' c)::F) w:=cz.mono hh (hS.perm r.perm)
def Z_(np:Nat)(cf:dI)(kc:dU)(H:bw)(y:bW × po)(v:Ε)(post:Β):Prop:=v=agg (vf y.2)/\∃(q:iO) (H':bw),H.le H'/\q.np=np/\post=[.ob (cz q cf kc H' y.1),.mem H']
def aW4{cf:dI}{kc:dU}{c:bW}{s:g_}(hk:s.kind=8):c.gH cf kc s=(c.eD cf s.keep,⟨0,0,0⟩):=by
 have e:c.other cf s=(c.eD cf s.keep,0):=by
  unfold bW.other;rw[zzb (by omega),zzb (by omega),zzb (by omega),zzb (by omega),zzb (by omega),zzc hk]
 unfold bW.gH;rw[zzb (λh=>h.2 hk),zzb (by omega),zzb (by omega),e]
def yu(p:iO)(cf:dI)(kc:dU)(H:bw)(c:bW){n j:Nat}{AL:List cH}(h:CS cf kc n j AL c)(hc:CC cf kc n)(hj:j<=190)(x:nu)(s:g_)(hx:kT H x s)(hl:s.l.length<=140737488351232):SP 12 [cF p.np,agg (jU x)] [.ob (cz p cf kc H c),.mem H] (Z_ p.np cf kc H (c.gH cf kc s)):=by
 by_cases hk:s.kind=8
 ·refine (aIv p cf kc H c h hc hj x s hx hk).mono λv post hq=>?_;obtain⟨e,q,H',hh,h1,_,_,hp⟩:=hq;rw[aW4 hk];exact⟨e,q,H',hh,h1,hp⟩
 refine (aIw p cf kc H c h hc hj x s hx hl hk).mono λv post hq=>?_;obtain⟨e,H',hh,hp⟩:=hq;exact⟨e,p,H',hh,rfl,hp⟩
def Qi:SP 39 [agg (lY ⟨0,0,0,0,0,0,0,0,0,0⟩)] [] (cC (.bool false) []):=by
 refine Enzz λW F w hS=>?_;apply XM;delta GU aI a_ cw ai;refine zw hS λxb w hS=>?_;unfold lY at hS;dsimp only at hS;refine Gn λw hS=>?_;refine yf (by kernel_rfl) (zU 0 1 8) rfl hS Xp ?_;rintro _ post ⟨rfl,rfl⟩ w hS;try simp only[app]at hS
 rw[zzz (p:=(1:Int)<=0/\(0:Int)<=8) (by omega)];refine Gp ?_;(exact cA hS)
def Qj:SP 8 [agg (lY ⟨0,0,0,0,0,0,0,0,0,0⟩)] [] (cC (.tuple #[.pointer none,Γ 1]) []):=by
 refine Enzz λW F w hS=>?_;apply XR;delta GZ aI cL ai cT bR;refine zw hS λxb w hS=>?_;unfold lY at hS;dsimp only at hS;refine Gp ?_;refine Cg (Qi) λw hS=>?_;refine zq ?_;(exact cA hS)
def UQ{β:Type}{p:Prop}[Decidable p]{q:Bool}{f:Bool->β}{x:β}(h:x=f q):(if p then x else f false)=f (decide p && q):=by
 subst h;by_cases hp:p
 ·rw[zzc hp,zzl hp,vv6]
 rw[zzb hp,zzz hp,uu3]
def UP{β:Type}{p:Prop}[Decidable p]{f:Bool->β}:(if p then f true else f false)=f (decide p):=by
 by_cases hp:p
 ·rw[zzc hp,zzl hp]
 rw[zzb hp,zzz hp]
def EA(a b:po)(w:Ζ):(Op.equal 43 (agg (vf a)) (agg (vf b))).run Tryz.prog w= .ok (decide (a=b)) w:=by
 refine DC Tryz.underlying43 (by kernel_rfl) ?_;obtain⟨a1,a2,a3⟩:=a;obtain⟨b1,b2,b3⟩:=b;simp[vf,Op.eqFields,part,xxw (h:=yyv),xxw (h:=yyc),xxw (h:=Tryz.underlying27),Result.andThen];by_cases h0:a1=b1<;>by_cases h1:a2=b2<;>by_cases h2:a3=b3<;>simp[*]
def Sk(a b:DZ)(w:Ζ):(Op.equal 39 (agg (Aq a)) (agg (Aq b))).run Tryz.prog w= .ok (decide (a=b)) w:=by
 refine DC Tryz.underlying39 (by kernel_rfl) ?_;obtain⟨a1,a2,a3,a4,a5,a6,a7,a8,a9,tT,a11,a12,a13,a14,a15,a16⟩:=a;obtain⟨b1,b2,b3,b4,b5,b6,b7,b8,b9,b10,b11,b12,b13,b14,b15,b16⟩:=b;simp only[DZ.mk.injEq];simp[Aq,Op.eqFields,part,xxw (h:=yyv),xxw (h:=yyc),ttd (h:=vve),Result.andThen]
 iterate 15 refine UQ (f:=λx=>Result.ok x w) ?_
 exact UP (f:=λx=>Result.ok x w)
def YZ{P:Program}{w:Ζ}{t:Ι}{xs ys:Ξ}{p:Prop}[Decidable p]{K:Ε->Prop}(h:(Op.equal t (agg xs) (agg ys)).run P w= .ok (decide p) w)(hK:K (.bool !(decide p))):Zq P t true (agg xs) (agg ys) w K:=⟨xs.toArray,ys.toArray,decide p,rfl,rfl,h,hK⟩
def bwh(a b:Row)(w:Ζ):(Op.equal 66 (agg (d_ a)) (agg (d_ b))).run Tryz.prog w= .ok (decide (a=b)) w:=by
 refine DC Tryz.underlying66 (by kernel_rfl) ?_;obtain⟨k,v⟩:=a;obtain⟨k',v'⟩:=b;simp[d_,Op.eqFields,part,xxw (h:=yyv),xxw (h:=yyc),ttd (h:=vve),run_equalIn_string (h:=yy1),Result.andThen,toList_inj];by_cases h0:k=k'<;>by_cases h1:v=v'<;>simp[*]
def bZ7(a b:Row):SP 90 [agg (d_ a),agg (d_ b)] [] (cC (.bool (decide (a=b))) []):=by
 refine Enzz λW F w hS=>?_;apply cKn;unfold PC;refine⟨_,rfl,zE hS ?_⟩;clear hS;intro b1 w hS;refine⟨_,rfl,zE hS ?_⟩;clear hS;intro b2 w hS;refine zA hS Xh rfl (zA hS Xh rfl (qM (bwh a b w) ?_));(exact cA hS)
def b_y(H:bw)(u v:Ε)(A B:List Row)(hu:dx H 2 u A.length (A.map d_).flatten)(hv:dx H 2 v B.length (B.map d_).flatten)(hn:A.length<=9223372036854775806):
  SP 36 [u,v] [.mem H] (cC (.bool (decide (A=B))) [.mem H]):=by
 refine Enzz λW F w hS=>?_;apply cI2;unfold OM;refine Cc (czr je rfl (λv0 v1 v2 w R h=>cKl v0 v1 v2 w R h) bZ7 H u v A B hu hv hn) ?_;clear hS;rintro v post ⟨rfl,rfl⟩ w hS;try simp only[app]at hS
 (exact cA hS)
def y9(n:Int):SP 70 [Γ n] [] (cC (agg [Γ 2,Γ n,Θ,Θ,Γ 0,Γ 0,Θ]) []):=by
 refine Enzz λW F w hS=>?_;apply cKa;delta Pr ai bR;refine Gm λb w hS=>?_;(exact cA hS)
def J5(H:bw)(n:Int):kT H ⟨2,n,Θ,Θ,ku,Θ⟩ (oA n):=⟨rfl,rfl,rfl,dx.nil _ _,dx.nil _ _,dx.nil _ _⟩
def bY5(H:bw):SP 8 [agg [Γ 1,Γ 0,Γ 256,Γ 4,Γ 2,Γ 4,Γ 1,Γ 8,Γ 0,Γ 5]] [.mem H] (λv post=>∃(p:iO) (H':bw),H.le H'/\v= .tuple #[cF p.np,Γ 0]/\post=[.ob (cz p km kA H' wq),.mem H']):=Ys H tZ
def RB:CS km kA 1 0 [] wq:=.inl (eS.first (kc:=kA) tZ).2.2
def RC:∃AL,CS km kA 1 1 AL wu:=by
 obtain⟨AL,h,_⟩:=RB.gH tZ (by decide) Bv;exact⟨AL,h⟩
def RD:∃AL,CS km kA 1 2 AL wv:=by
 obtain⟨AL,h⟩:=RC;obtain⟨AL,h,_⟩:=h.gH tZ (by decide) (oA 0);exact⟨AL,h⟩
def aR3:∃AL,CS km kA 1 3 AL wx:=by
 obtain⟨AL,h⟩:=RD;obtain⟨AL,h,_⟩:=h.gH tZ (by decide) (oA 1);exact⟨AL,h⟩
def dA1:wq.gH km kA Bv=(wu,⟨0,1,0⟩):=by rw[<- tA1];rfl
def dA2:wu.gH km kA (oA 0)=(wv,⟨0,0,1⟩):=by rw[<- tA2];rfl
def dA3:wv.gH km kA (oA 1)=(wx,⟨0,0,2⟩):=by rw[<- tA3];rfl
def dA4:wx.gH km kA (oA 3)=(wy,⟨0,0,6⟩):=by rw[<- tA4];rfl
def rwA:rowsOf (p6 wy.s.k.ts 0)=[⟨5,⟨#[97]⟩⟩]:=by decide +kernel
def smA:small wy.s.k.ts 0:=by
 have h:(wy.s.k.ts.all λC=>decide (C.length+0<=1000000))=true:=by decide +kernel
 exact λC hC=>zzm (zz6.1 h C hC)
attribute [local irreducible] wq wu wv wx wy
set_option maxHeartbeats 4000000 in
def YR:SP 14 [] [] (cC (.bool true) []):=by
 refine Enzz λW F w hS=>?_;apply cDv;delta LF aI bU a_ bV cw ai cT cP bR ig;have hS:=SL.JD hS;generalize bw.emp=H at hS;refine yX rfl ?_;refine Cc (bY5 H) ?_;clear hS;rintro _ post ⟨p,H1,dj,rfl,rfl⟩ w hS;(try simp only[app]at hS);refine Gp ?_
 refine Cg (Qj) λw hS=>?_;refine za (λh=>absurd rfl h) (λ_=>?_);refine Gp ?_;refine zp ?_;refine Gp ?_;refine za (λh=>absurd rfl h) (λ_=>?_);refine Gp ?_;refine zN hS (cells:=fN ⟨0,5,false,⟨#[97]⟩⟩) (by rfl) λcb w hS=>?_;obtain⟨H2,dQ,hC,hS⟩:=SL.Kd (sz:=4) (H:=H1) hS Xp rfl;have hS:=cz.jm dQ hS Xr;refine Gp ?_;have hxA:kT H2 ⟨1,0,Θ,.slice (some ⟨cb,0,none⟩) 1 1,ku,Θ⟩ Bv:=⟨rfl,rfl,rfl,dx.nil _ _,hC,dx.nil _ _⟩;refine Cc (yu p km kA H2 wq RB tZ (by decide) ⟨1,0,Θ,.slice (some ⟨cb,0,none⟩) 1 1,ku,Θ⟩ Bv hxA (by decide)) ?_;clear hS;rintro _ post ⟨rfl,q1,H3,gb,tA,rfl⟩ w hS;try simp only[app]at hS
 rw[dA1]at hS ⊢
 dsimp only at hS ⊢;rw[<- tA];refine Gm λb w hS=>?_;refine Cg (y9 0) λw hS=>?_;obtain⟨AL0,w9⟩:=RC;refine Cc (yu q1 km kA H3 wu w9 tZ (by decide) ⟨2,0,Θ,Θ,ku,Θ⟩ (oA 0) (J5 H3 0) (by decide)) ?_;clear hS;rintro _ post ⟨rfl,q2,H4,oS,kz,rfl⟩ w hS;try simp only[app]at hS
 rw[dA2]at hS ⊢
 dsimp only at hS ⊢;rw[<- kz];refine Gm λb w hS=>?_;refine Cg (y9 1) λw hS=>?_;obtain⟨AL1,gB⟩:=RD;refine Cc (yu q2 km kA H4 wv gB tZ (by decide) ⟨2,1,Θ,Θ,ku,Θ⟩ (oA 1) (J5 H4 1) (by decide)) ?_;clear hS;rintro _ post ⟨rfl,q3,H5,SO,hq3,rfl⟩ w hS;try simp only[app]at hS
 rw[dA3]at hS ⊢
 dsimp only at hS ⊢;rw[<- hq3];refine Gm λb w hS=>?_;refine Cg (y9 3) λw hS=>?_;obtain⟨KU,jV⟩:=aR3;refine Cc (yu q3 km kA H5 wx jV tZ (by decide) ⟨2,3,Θ,Θ,ku,Θ⟩ (oA 3) (J5 H5 3) (by decide)) ?_;clear hS;rintro _ post ⟨rfl,q4,H6,SR,hq4,rfl⟩ w hS;try simp only[app]at hS
 rw[dA4]at hS ⊢
 dsimp only at hS ⊢;rw[<- hq4];refine Gm λb w hS=>?_;refine qM (EA ⟨0,1,0⟩ ⟨0,1,0⟩ w) ?_;refine za (λ_=>?_) (λh=>absurd rfl h);refine Gp ?_;refine qM (EA ⟨0,0,1⟩ ⟨0,0,1⟩ w) ?_;refine za (λ_=>?_) (λh=>absurd rfl h);refine Gp ?_;refine qM (EA ⟨0,0,2⟩ ⟨0,0,2⟩ w) ?_;refine za (λ_=>?_) (λh=>absurd rfl h);refine Gp ?_;refine qM (EA ⟨0,0,6⟩ ⟨0,0,6⟩ w) ?_;refine za (λ_=>?_) (λh=>absurd rfl h);obtain⟨dv,hS⟩:=cz.open hS Xr;obtain⟨ov,nv,hi,hS⟩:=dt.open hS Xr;obtain⟨rv,hr,hS⟩:=db.open hS Xr;refine Gp ?_;refine Cc (Qx q4.w.gp wy.s.k.ts 0 smA) ?_;clear hS;rintro u post rfl w hS;try simp only[app]at hS
 rw[rwA]at hS
 have hS:SL W (.ob (gm q4.w.gp wy.s.k.ts)::.ob (bI u 66 2 [(⟨5,⟨#[97]⟩⟩:Row)].length ([(⟨5,⟨#[97]⟩⟩:Row)].map d_).flatten)::_) w:=hS;refine Gp ?_;refine zN hS (cells:=d_ ⟨5,⟨#[97]⟩⟩) (by rfl) λrb w hS=>?_;obtain⟨H7,H0,hA,hS⟩:=SL.Kd (sz:=2) (H:=H6) hS Xp rfl;obtain⟨H8,Cw,hB,hS⟩:=zz (H:=H7) (v:=u) hS Xp;refine Cc (b_y H8 u (.slice (some ⟨rb,0,none⟩) 1 1) [⟨5,⟨#[97]⟩⟩] [⟨5,⟨#[97]⟩⟩] hB (hA.mono Cw) (by decide)) ?_;clear hS;rintro _ post ⟨rfl,rfl⟩ w hS;try simp only[app]at hS
 rw[zzl (p:=([(⟨5,⟨#[97]⟩⟩:Row)]=[⟨5,⟨#[97]⟩⟩])) rfl];exact cA hS
def Es(s:Η)(n:Nat):Η:=s.extract 0 (min s.size n)
def qm(s:Η)(n:Nat):SP 151 [.string s,Γ n] [] (cC (.string (Es s n)) []):=by
 refine Enzz λW F w hS=>?_;apply cD7;unfold LR;refine Gp ?_;rw[show min (s.size:Int) (n:Int)=((min s.size n:Nat):Int) by omega];refine⟨s,0,min s.size n,rfl,⟨.i64,rfl⟩,rfl,zz4 _,Nat.min_le_left _ _,?_⟩;(exact cA hS)
def jx(c:eh)(k:Nat):eh:=⟨md c.table k,if md c.key 31=30 then ((1+md c.key 1099511627776:Nat):Int) else ((1+md c.key 12:Nat):Int),c.gone,if c.gone then ⟨#[]⟩ else Es c.val 32⟩
def qh(c:eh)(k:Nat)(h1:0<k)(h2:k<=8):SP 99 [agg (fN c),Γ k] [] (cC (agg (fN (jx c k))) []):=by
 refine Enzz λW F w hS=>?_;apply cKu;delta PK aI a_ aR cL G_ ai cP;obtain⟨table,key,gone,val⟩:=c;refine⟨_,rfl,zE hS ?_⟩;clear hS;intro p w hS;refine zE hS ?_;clear hS;intro q w hS;simp only[fN]at hS;have cM5:=ie key 12 (by decide);have hmb:=ie key 1099511627776 (by decide);have IN:(1:Int)+(md key 12:Int)=((1+md key 12:Nat):Int):=by omega
 have hmf:(1:Int)+(md key 1099511627776:Int)=((1+md key 1099511627776:Nat):Int):=by omega
 refine⟨λus w=>∃x:Nat,us=[Δ x]/\SL W (.pt x [Γ (md table k:Nat),Γ ((1+md key 12:Nat):Int),.bool gone,.string ⟨#[]⟩] 56::.pt q [Γ 0,Γ 0,.bool false,.string ⟨#[]⟩] 56::.pt p [Γ table,Γ key,.bool gone,.string val] 56::F) w,?_,?_⟩
 ·refine yA hS ?_;clear hS;intro w hS;refine Gp ?_;refine⟨?_,?_⟩
  ·refine Cg (yl table k h1 (by omega)) λw hS=>?_;refine⟨?_,?_⟩
   ·refine Cg (zO key 12 (by decide) (by decide)) λw hS=>?_;refine Gm λb w hS=>?_;rw[IN]at hS
    exact⟨_,rfl,aW hS⟩
   refine Gm λb w hS=>?_;refine Cg (zO key 12 (by decide) (by decide)) λw hS=>?_;rw[IN]at hS
   exact⟨_,rfl,aW hS⟩
  refine Gm λb w hS=>?_;refine Cg (yl table k h1 (by omega)) λw hS=>?_;refine Cg (zO key 12 (by decide) (by decide)) λw hS=>?_;rw[IN]at hS
  exact⟨_,rfl,aW hS⟩
 clear hS;rintro v5 w ⟨x,cO,hS⟩;cases cO;refine⟨λus w=>us=[]/\SL W (.pt x [Γ (md table k:Nat),Γ (jx ⟨table,key,gone,val⟩ k).key,.bool gone,.string ⟨#[]⟩] 56::.pt q [Γ 0,Γ 0,.bool false,.string ⟨#[]⟩] 56::.pt p [Γ table,Γ key,.bool gone,.string val] 56::F) w,?_,?_⟩
 ·refine Gp ?_;refine Cg (zO key 31 (by decide) (by decide)) λw hS=>?_;refine za (λh=>?_) (λh=>?_)
  ·have hk:(jx ⟨table,key,gone,val⟩ k).key=((1+md key 1099511627776:Nat):Int):=by unfold jx;simp only;rw[zzc (by omega)]
   rw[hk];refine Gp ?_;refine Cg (zO key 1099511627776 (by decide) (by decide)) λw hS=>?_;rw[hmf]at hS
   exact aW hS
  have hk:(jx ⟨table,key,gone,val⟩ k).key=((1+md key 12:Nat):Int):=by unfold jx;simp only;rw[zzb (by omega)]
  rw[hk];exact⟨rfl,aW hS⟩
 clear hS;rintro w ⟨-,hS⟩;refine Gp ?_;cases gone with
 | true=>
  refine zp ?_;refine Gn λw hS=>?_;have e:fN (jx ⟨table,key,true,val⟩ k)=[Γ (md table k:Nat),Γ (jx ⟨table,key,true,val⟩ k).key,.bool true,.string ⟨#[]⟩]:=rfl;rw[e];(exact cA hS)
 | false=>
  refine zq ?_;refine Gp ?_;refine Cg (qm val 32) λw hS=>?_;have e:fN (jx ⟨table,key,false,val⟩ k)=[Γ (md table k:Nat),Γ (jx ⟨table,key,false,val⟩ k).key,.bool false,.string (Es val 32)]:=rfl;rw[e];(exact cA hS)
def bw8(c:eh)(z:Ξ)(hz:z.length=4):ir (cK z 1) [(0,4,agg (fN c))]=some (fN c):=by
 simp[ir,cK,Value.cells,fN,hz]
def Yn(H:bw)(v:Ε)(l:List eh)(k cJ:Nat)(hv:dx H 4 v l.length (l.map fN).flatten)(h1:0<k)(h2:k<=8)(hm:cJ<=1000)(hn:l.length<=140737488351232):
  SP 43 [v,Γ k,Γ cJ] [.mem H] (λu post=>post=[.ob (bI u 56 4 ((l.take cJ).map (jx · k)).length (((l.take cJ).map (jx · k)).map fN).flatten),.mem H]):=by
 refine Enzz λW F w hS=>?_;apply cJk;delta O1 aI ai cP bR;refine⟨λus w=>∃(m:Nat) (u:Ε),us=[u,Γ m]/\m<=l.length/\m<=cJ/\SL W (.ob (bI u 56 4 m ((((l.take m).map (jx · k)).map fN).flatten))::.mem H::F) w,
  λus _=>match us with|[_,.int _ m]=>(l.length-m).toNat|_=>0,⟨0,_,rfl,by omega,by omega,bI.nil hS⟩,?_⟩
 clear hS;rintro v7 v8 w ⟨m,u,cO,mw,vx,hS⟩;cases cO;have gL:∀w,(m=l.length\/m=cJ)->SL W (.ob (bI v7 56 4 m ((((l.take m).map (jx · k)).map fN).flatten))::.mem H::F) w ->
   ∃post,(post=[.ob (bI v7 56 4 ((l.take cJ).map (jx · k)).length (((l.take cJ).map (jx · k)).map fN).flatten),.mem H])/\SL W (app post F) w:=λw he hS=>by
  have ht:l.take m=l.take cJ:=by
   rcases he with rfl|rfl
   ·rw[zz0,zz2 (by omega)]
   rfl
  have hl:m=((l.take cJ).map (jx · k)).length:=by rw[<- ht,zzn,zzf];omega
  rw[ht,hl]at hS
  exact⟨_,rfl,hS⟩
 refine zo hv ?_;refine Gp ?_;refine za (λh=>?_) (λh=>gL w (.inl (by omega)) hS);refine Gp ?_;refine za (λh3=>?_) (λh3=>gL w (.inr (by omega)) hS);have cx:m<l.length:=by omega
 refine zD hS Xh s3 hv (x:=l[m]) (by simp[cx]) cx ?_;refine Cc (qh l[m] k h1 h2) ?_;clear hS;rintro v26 post ⟨rfl,rfl⟩ w hS;try simp only[app]at hS
 refine zN hS (bw8 (jx l[m] k) [Γ 0,Γ 0,.bool false,.string ⟨#[]⟩] rfl) ?_;clear hS;intro b w hS;refine zJ (n:=m) (m:=1) hS Xr (j8 (cs:=fN (jx l[m] k)) hS .hd rfl) rfl rfl (Sc _) (by omega) (by omega) ?_;clear hS;intro u' w hS;refine Gp ?_;have e:(l.take (m+1)).map (jx · k)=(l.take m).map (jx · k)++[jx l[m] k]:=by rw[zze cx,zzs];rfl
 refine⟨⟨m+1,u',rfl,(by omega),(by omega),(by rw[e,vj];exact aW hS)⟩,(by dsimp only;omega)⟩
def YS(H:bw)(v:Ε)(l:List eh)(k cJ:Nat)(hv:dx H 4 v l.length (l.map fN).flatten)(h1:0<k)(h2:k<=8)(hm:cJ<=1000)(hn:l.length<=140737488351232):
  SP 43 [v,Γ k,Γ cJ] [.mem H] (λu post=>∃H',H.le H'/\dx H' 4 u ((l.take cJ).map (jx · k)).length (((l.take cJ).map (jx · k)).map fN).flatten/\post=[.mem H']):=by
 intro W F w hS;refine zQ.mono (Yn H v l k cJ hv h1 h2 hm hn W F w hS) ?_;rintro u w ⟨post,rfl,hS⟩;have hS:SL W (_::.mem H::F) w:=hS;obtain⟨H2,dQ,hR,hS⟩:=zz (H:=H) (v:=u) hS Xp;exact⟨_,⟨H2,dQ,hR,rfl⟩,hS⟩
def cz0(s:Η)(k:Nat)(h1:0<k)(h2:k<=8):SP 100 [.string s,Γ k] [] (λv post=>∃r,v= .string r/\r.size<=40/\post=[]):=by
 refine Enzz λW F w hS=>?_;apply cC1;delta La aI ai;refine Gp ?_;refine za (λh=>⟨_,⟨_,rfl,by decide,rfl⟩,hS⟩) (λh=>?_);have fS:0<s.size:=by
  rcases yy8 s.size with h0|h0
  ·refine absurd ?_ h;obtain⟨⟨l⟩⟩:=s;have:l=[]:=zzp h0;subst this;rfl
  exact h0
 refine WL (j:=0) yy1 fS ?_;generalize s[0]=b;have hb:b.toNat<256:=b.toNat_lt;generalize b.toNat=n at hb;refine yz (by omega) ?_;refine ZL (by decide) ?_;refine bY (λh3=>?_) (λh3=>?_)
 ·refine Cg (qm s 40) λw hS=>?_;exact⟨_,⟨_,rfl,by unfold Es;rw[ByteArray.size_extract];omega,rfl⟩,hS⟩
 refine Kl (by decide) (by rw[xxv (by omega)];omega) ?_;rw[show (n:Int).tdiv 4=((n / 4:Nat):Int) by rw[xxv (by omega)];omega];refine QT h1 ?_;have hk:n / 4 % k<8:=Nat.lt_of_lt_of_le (vvi _ h1) h2;refine Gp ?_;refine zW ?_;generalize hx:IntKind.u8.wrap (48+((n / 4 % k:Nat):Int))=x;refine zN hS (cells:=[.int .u8 x]) (by simp[ir,cK,Value.cells]) ?_;clear hS;intro b1 w hS;refine YL hS .hd xxm yy1 wwk ?_;generalize hA:(⟨#[UInt8.ofNat x.toNat]⟩:Η)=A;have EN:A.size=1:=by rw[<- hA];rfl
 refine QQ (by rw[EN];decide) ?_;generalize hB:(⟨#[115,110,97,112,115,104,111,116,32]⟩:Η)++A=B;have SU:B.size<=10:=by rw[<- hB,uur,EN];decide
 refine ZL (by decide) ?_;refine Gp ?_;refine za (λh4=>?_) (λh4=>⟨_,⟨_,rfl,by omega,rfl⟩,aW hS⟩);refine QQ (yyy (uuu SU _) (by decide)) ?_;generalize hC:B++(⟨#[32]⟩:Η)=C;have hCs:C.size<=11:=by rw[<- hC,uur];exact uuu SU _
 refine Kl (by decide) (by rw[xxv (by omega)];omega) ?_;rw[show (n:Int).tdiv 16=((n / 16:Nat):Int) by rw[xxv (by omega)];omega];refine ZL (by decide) ?_;rw[show ((n / 16:Nat):Int).tmod 8=((n / 16 % 8:Nat):Int) by rw[xxt (by omega)];omega];refine Gp ?_;refine zW ?_;generalize IntKind.u8.wrap (49+((n / 16 % 8:Nat):Int))=y;refine zN hS (cells:=[.int .u8 y]) (by simp[ir,cK,Value.cells]) ?_;clear hS;intro b2 w hS;refine YL hS .hd xxm yy1 wwk ?_;refine QQ (yyy (uuu hCs _) (by show 11+1<=1000000;decide)) ?_;exact⟨_,⟨_,rfl,by rw[uur];show C.size+1<=40;omega,rfl⟩,aW hS⟩
def cz1(H:bw)(v:Ε)(l:Ψ)(k cJ:Nat)(hv:dx H 1 v l.length (l.map Value.string))(h1:0<k)(h2:k<=8)(hm:cJ<=1000)(hn:l.length<=140737488351232):
  SP 44 [v,Γ k,Γ cJ] [.mem H] (λu post=>∃(H':bw) (rs:Ψ),H.le H'/\rs.length<=cJ/\(∀s∈rs,s.size<=40)/\dx H' 1 u rs.length (rs.map Value.string)/\post=[.mem H']):=by
 refine Enzz λW F w hS=>?_;apply cJl;delta O2 aI ai cP bR;refine⟨λus w=>∃(m:Nat) (u:Ε) (rs:Ψ),us=[u,Γ m]/\m<=l.length/\rs.length=m/\m<=cJ/\(∀s∈rs,s.size<=40)/\SL W (.ob (bI u 9 1 m (rs.map Value.string))::.mem H::F) w,
  λus _=>match us with|[_,.int _ m]=>(l.length-m).toNat|_=>0,⟨0,_,[],rfl,by omega,rfl,by omega,by simp,bI.nil hS⟩,?_⟩
 clear hS;rintro v7 v8 w ⟨m,u,rs,cO,mw,C6,vx,wT,hS⟩;cases cO;have gL:∀w,SL W (.ob (bI v7 9 1 m (rs.map Value.string))::.mem H::F) w ->
   ∃post,(∃(H':bw) (rs:Ψ),H.le H'/\rs.length<=cJ/\(∀s∈rs,s.size<=40)/\dx H' 1 v7 rs.length (rs.map Value.string)/\post=[.mem H'])/\SL W (app post F) w:=λw hS=>by
  obtain⟨H2,dQ,hR,hS⟩:=zz (H:=H) (v:=v7) hS Xp;rw[<- C6]at hR
  exact⟨_,⟨H2,rs,dQ,by omega,wT,hR,rfl⟩,hS⟩
 refine zo hv ?_;refine Gp ?_;refine za (λh=>?_) (λh=>gL w hS);refine Gp ?_;refine za (λh3=>?_) (λh3=>gL w hS);clear gL;have cx:m<l.length:=by omega
 refine yQ hS Xh hv cx (u:=.string l[m]) (by simp[cx]) ?_;refine Cc (cz0 l[m] k h1 h2) ?_;clear hS;rintro v26 post ⟨r,rfl,bU0,rfl⟩ w hS;refine Gm λb w hS=>?_;refine zJ (n:=m) (m:=1) hS Xr (j8 (cs:=[.string r]) hS .hd rfl) rfl rfl (by simp[Value.oneCell']) (by omega) (by omega) ?_;clear hS;intro u' w hS;refine Gp ?_;refine⟨⟨m+1,u',rs++[r],rfl,(by omega),(by simp[C6]),(by omega),(λs hs=>by
  rcases zz1.1 hs with hs|hs
  ·exact wT s hs
  rw[zz3.1 hs];exact bU0),(by rw[zzs,zzo,yy4];exact aW hS)⟩,(by dsimp only;omega)⟩
def bWz(H:bw)(v:Ε)(l:Ω)(cJ:Nat)(hv:dx H 1 v l.length (l.map (Value.int .i64)))(hm:cJ<=1000)(hn:l.length<=140737488351232):
  SP 16 [v,Γ cJ] [.mem H] (λu post=>∃(H':bw) (rs:Ω),H.le H'/\rs.length<=cJ/\dx H' 1 u rs.length (rs.map (Value.int .i64))/\post=[.mem H']):=by
 refine Enzz λW F w hS=>?_;apply cEg;delta L4 aI ai bR;refine⟨λus w=>∃(m:Nat) (u:Ε) (rs:Ω),us=[u,Γ m]/\m<=l.length/\rs.length=m/\m<=cJ/\SL W (.ob (bI u 3 1 m (rs.map (Value.int .i64)))::.mem H::F) w,
  λus _=>match us with|[_,.int _ m]=>(l.length-m).toNat|_=>0,⟨0,_,[],rfl,by omega,rfl,by omega,bI.nil hS⟩,?_⟩
 clear hS;rintro v7 v8 w ⟨m,u,rs,cO,mw,C6,vx,hS⟩;cases cO;have gL:∀w,SL W (.ob (bI v7 3 1 m (rs.map (Value.int .i64)))::.mem H::F) w ->
   ∃post,(∃(H':bw) (rs:Ω),H.le H'/\rs.length<=cJ/\dx H' 1 v7 rs.length (rs.map (Value.int .i64))/\post=[.mem H'])/\SL W (app post F) w:=λw hS=>by
  obtain⟨H2,dQ,hR,hS⟩:=zz (H:=H) (v:=v7) hS Xp;rw[<- C6]at hR
  exact⟨_,⟨H2,rs,dQ,by omega,hR,rfl⟩,hS⟩
 refine zo hv ?_;refine Gp ?_;refine za (λh=>?_) (λh=>gL w hS);refine Gp ?_;refine za (λh3=>?_) (λh3=>gL w hS);clear gL;have cx:m<l.length:=by omega
 refine yQ hS Xh hv cx (u:=Γ l[m]) (by simp[cx]) ?_;refine Cg (yl l[m] 200 (by decide) (by decide)) λw hS=>?_;refine Gm λb w hS=>?_;refine zJ (n:=m) (m:=1) hS Xr (j8 (cs:=[Γ (md l[m] 200:Int)]) hS .hd rfl) rfl rfl (by simp[Value.oneCell']) (by omega) (by omega) ?_;clear hS;intro u' w hS;refine Gp ?_;refine⟨⟨m+1,u',rs++[(md l[m] 200:Int)],rfl,(by omega),(by simp[C6]),(by omega),(by rw[zzs,zzo,yy4];exact aW hS)⟩,(by dsimp only;omega)⟩
structure K6(s:g_):Prop where
 kind:1<=s.kind/\s.kind<=8
 n:0<=s.n/\s.n<=40
 pick:s.kind=2->s.n<5
 l:s.l.length<=4
 sg:s.sg.length<=1
 keep:s.keep.length<=20
def QN(H:bw)(x:nu)(s:g_)(k:Nat)(hx:kT H x s)(h1:0<k)(h2:k<=8)(l1:s.sg.length<=140737488351232)(l2:s.l.length<=140737488351232)(l3:s.keep.length<=140737488351232):
  SP 9 [agg (jU x),Γ k] [.mem H] (λv post=>∃(H':bw) (y:nu) (t:g_),H.le H'/\v=agg (jU y)/\kT H' y t/\K6 t/\post=[.mem H']):=by
 refine Enzz λW F w hS=>?_;apply vc9;delta PB aI a_ aR uY ai bR;obtain⟨e1,e2,e3,A3,sm,IH⟩:=hx;refine zw hS λxb w hS=>?_;unfold jU at hS;rw[e1,e2,e3]at hS
 have hk:=ie s.kind 24 (by decide);have nl:∀(H:bw) (sz:Nat),dx H sz Θ 0 []:=dx.nil;refine Gm λb w hS=>?_;refine Cg (yl s.kind 24 (by decide) (by decide)) λw hS=>?_;refine za (λh5=>?_) (λh5=>?_)
 ·refine Gn λw hS=>?_;refine Cc (YS H x.cv s.l k 4 sm h1 h2 (by decide) l2) ?_;clear hS;rintro u post ⟨H1,dj,hR,rfl⟩ w hS;(try simp only[app]at hS);refine Gp ?_
  refine Cc (cz1 H1 x.sv s.sg k 1 (A3.mono dj) h1 h2 (by decide) l1) ?_;clear hS;rintro u2 post ⟨H2,rs,dQ,vB,_,pH,rfl⟩ w hS;try simp only[app]at hS
  obtain⟨a1,n1,c1,rfl⟩:=hR.Jr;obtain⟨a2,n2,c2,rfl⟩:=pH.Jr;refine Gn λw hS=>?_;refine⟨_,⟨H2,⟨1,0,.slice a2 n2 c2,.slice a1 n1 c1,ku,Θ⟩,⟨1,0,rs,(s.l.take 4).map (jx · k),ku,[]⟩,bw.le_trans dj dQ,rfl,⟨rfl,rfl,rfl,pH,hR.mono dQ,nl _ _⟩,⟨⟨show (1:Int)<=1 by decide,show (1:Int)<=8 by decide⟩,⟨show (0:Int)<=0 by decide,show (0:Int)<=40 by decide⟩,λh=>absurd h (show ¬(1:Int)=2 by decide),?_,vB,zz4 _⟩,rfl⟩,aW hS⟩;show ((s.l.take 4).map (jx · k)).length<=4;rw[zzn,zzf];omega
 refine Gp ?_;have mk:∀(kd nn:Int) (ft:fQ),1<=kd->kd<=8->0<=nn->nn<=40->(kd=2->nn<5)->kT H ⟨kd,nn,Θ,Θ,ft,Θ⟩ ⟨kd,nn,[],[],ft,[]⟩/\K6 ⟨kd,nn,[],[],ft,[]⟩:=λkd nn ft a1 a2 a3 a4 a5=>⟨⟨rfl,rfl,rfl,nl _ _,nl _ _,nl _ _⟩,⟨⟨a1,a2⟩,⟨a3,a4⟩,a5,zz4 _,zz4 _,zz4 _⟩⟩;refine za (λh6=>?_) (λh6=>?_)
 ·refine Gp ?_;refine Cg (zO s.n 5 (by decide) (by decide)) λw hS=>?_;have hb:=ie s.n 5 (by decide);obtain⟨m1,m2⟩:=mk 2 (md s.n 5:Int) ku (by decide) (by decide) (by omega) (by omega) (λ_=>by omega);exact⟨_,⟨H,⟨2,(md s.n 5:Int),Θ,Θ,ku,Θ⟩,_,bw.le_refl H,rfl,m1,m2,rfl⟩,aW hS⟩
 refine bY (λh7=>?_) (λh7=>?_)
 ·refine Gp ?_;refine yH (vs:=iJ s.ft) hS Xh rfl (λj v h=>?_) ?_
  ·match j,h with
   | 0,h=>exact h
   | 1,h=>exact h
   | j+2,h=>simp[iJ]at h
  refine Cg (qC s.ft) λw hS=>?_;unfold iJ;refine Gn λw hS=>?_;obtain⟨m1,m2⟩:=mk 3 0 (Cp s.ft) (by decide) (by decide) (by decide) (by decide) (λh=>absurd h (by decide));exact⟨_,⟨H,⟨3,0,Θ,Θ,Cp s.ft,Θ⟩,_,bw.le_refl H,rfl,m1,m2,rfl⟩,aW hS⟩
 refine bY (λh8=>?_) (λh8=>?_)
 ·refine Gp ?_;have hb:=ie s.n 5 (by decide);refine Cg (zO s.n 5 (by decide) (by decide)) λw hS=>?_;obtain⟨m1,m2⟩:=mk 4 (1+(md s.n 5:Int)) ku (by decide) (by decide) (by omega) (by omega) (λh=>absurd h (by decide));exact⟨_,⟨H,⟨4,1+(md s.n 5:Int),Θ,Θ,ku,Θ⟩,_,bw.le_refl H,rfl,m1,m2,rfl⟩,aW hS⟩
 refine bY (λh9=>?_) (λh9=>?_)
 ·refine Gp ?_;refine Cg (zO s.n 40 (by decide) (by decide)) λw hS=>?_;have hb:=ie s.n 40 (by decide);obtain⟨m1,m2⟩:=mk 5 (md s.n 40:Int) ku (by decide) (by decide) (by omega) (by omega) (λh=>absurd h (by decide));exact⟨_,⟨H,⟨5,(md s.n 40:Int),Θ,Θ,ku,Θ⟩,_,bw.le_refl H,rfl,m1,m2,rfl⟩,aW hS⟩
 refine bY (λvm=>?_) (λvm=>?_)
 ·refine Gn λw hS=>?_;obtain⟨m1,m2⟩:=mk 6 0 ku (by decide) (by decide) (by decide) (by decide) (λh=>absurd h (by decide));exact⟨_,⟨H,⟨6,0,Θ,Θ,ku,Θ⟩,_,bw.le_refl H,rfl,m1,m2,rfl⟩,aW hS⟩
 refine bY (λAB=>?_) (λAB=>?_)
 ·refine Gp ?_;have hb:=ie s.n 4 (by decide);refine Cg (zO s.n 4 (by decide) (by decide)) λw hS=>?_;obtain⟨m1,m2⟩:=mk 7 (1+(md s.n 4:Int)) ku (by decide) (by decide) (by omega) (by omega) (λh=>absurd h (by decide));exact⟨_,⟨H,⟨7,1+(md s.n 4:Int),Θ,Θ,ku,Θ⟩,_,bw.le_refl H,rfl,m1,m2,rfl⟩,aW hS⟩
 refine Gp ?_;refine Cc (bWz H x.kv s.keep 20 IH (by decide) l3) ?_;clear hS;rintro u post ⟨H1,rs,dj,vB,hR,rfl⟩ w hS;try simp only[app]at hS
 obtain⟨a1,n1,c1,rfl⟩:=hR.Jr;refine Gn λw hS=>?_;exact⟨_,⟨H1,⟨8,0,Θ,Θ,ku,.slice a1 n1 c1⟩,⟨8,0,[],[],ku,rs⟩,dj,rfl,⟨rfl,rfl,rfl,nl _ _,nl _ _,hR⟩,⟨⟨show (1:Int)<=8 by decide,show (8:Int)<=8 by decide⟩,⟨show (0:Int)<=0 by decide,show (0:Int)<=40 by decide⟩,λh=>absurd h (show ¬(8:Int)=2 by decide),zz4 _,zz4 _,vB⟩,rfl⟩,aW hS⟩
