/- Part. -/
import Derived.Test.YtlngdcpffiklgaaGreatJ12
import Derived.Shelf.SlSortCmp.NoneTotal
namespace Go.Proofs.YtlngdcpffiklgaaGreat
set_option linter.all false
set_option maxRecDepth 100000
open Go.RowKit Go.Sort Go.Shelf Go.Proofs.Tryz
def wwk:=@underlying4
def vvi:=@run_equalIn_bool'
def tta:=@run_equalIn_string
def xx4:=@Int.tdiv_eq_ediv_of_nonneg
def uus:=@ByteArray.size_append
def uuw:=@Nat.add_le_add_right
def cIa:Go.Shelf.Ren:=⟨λ| 6=>235|15=>176|14=>297|28=>256|29=>257|20=>342|21=>343|22=>344|23=>345|24=>346|25=>347|26=>348|27=>349|46=>372|47=>309|48=>310|49=>373|50=>374|57=>389|n=>n,λ| 22=>168|24=>353|25=>356|3=>3|39=>105|0=>0|53=>372|55=>161|4=>4|46=>365|45=>364|50=>344|5=>5|9=>9|66=>424|70=>428|76=>481|77=>482|n=>n,λ| n=>n⟩
def XY:Go.Proofs.SlLaysF0.n6 prog cIa where
 mixed:=by kernel_rfl
 f6 := ⟨ "slices.SortFunc[[]qanat/wheel.timer,qanat/wheel.timer]", by decide, func235.trans (yy1 some (by kernel_rfl))⟩
 f14 := ⟨ "slices.pdqsortCmpFunc[qanat/wheel.timer]", by decide, func297.trans (yy1 some (by kernel_rfl))⟩
 f15:=func176.trans (yy1 some (by kernel_rfl))
 f20 := ⟨ "slices.insertionSortCmpFunc[qanat/wheel.timer]", by decide, func342.trans (yy1 some (by kernel_rfl))⟩
 f21 := ⟨ "slices.heapSortCmpFunc[qanat/wheel.timer]", by decide, func343.trans (yy1 some (by kernel_rfl))⟩
 f22 := ⟨ "slices.breakPatternsCmpFunc[qanat/wheel.timer]", by decide, func344.trans (yy1 some (by kernel_rfl))⟩
 f23 := ⟨ "slices.choosePivotCmpFunc[qanat/wheel.timer]", by decide, func345.trans (yy1 some (by kernel_rfl))⟩
 f24 := ⟨ "slices.reverseRangeCmpFunc[qanat/wheel.timer]", by decide, func346.trans (yy1 some (by kernel_rfl))⟩
 f25 := ⟨ "slices.partialInsertionSortCmpFunc[qanat/wheel.timer]", by decide, func347.trans (yy1 some (by kernel_rfl))⟩
 f26 := ⟨ "slices.partitionEqualCmpFunc[qanat/wheel.timer]", by decide, func348.trans (yy1 some (by kernel_rfl))⟩
 f27 := ⟨ "slices.partitionCmpFunc[qanat/wheel.timer]", by decide, func349.trans (yy1 some (by kernel_rfl))⟩
 f28:=func256.trans (yy1 some (by kernel_rfl))
 f29:=func257.trans (yy1 some (by kernel_rfl))
 f46 := ⟨ "slices.siftDownCmpFunc[qanat/wheel.timer]", by decide, func372.trans (yy1 some (by kernel_rfl))⟩
 f47:=func309.trans (yy1 some (by kernel_rfl))
 f48:=func310.trans (yy1 some (by kernel_rfl))
 f49 := ⟨ "slices.medianAdjacentCmpFunc[qanat/wheel.timer]", by decide, func373.trans (yy1 some (by kernel_rfl))⟩
 f50 := ⟨ "slices.medianCmpFunc[qanat/wheel.timer]", by decide, func374.trans (yy1 some (by kernel_rfl))⟩
 f57 := ⟨ "slices.order2CmpFunc[qanat/wheel.timer]", by decide, func389.trans (yy1 some (by kernel_rfl))⟩
 t0:=underlying0
 a0:=isAgg0
 z0:=sizeOf0
 v0:=zeroValue0
 t3:=yyd
 a3:=isAgg3
 z3:=sizeOf3
 v3:=zeroValue3
 t4:=wwk
 a4:=isAgg4
 z4:=sizeOf4
 v4:=zeroValue4
 t5:=wwx
 a5:=isAgg5
 z5:=sizeOf5
 v5:=zeroValue5
 t9:=yyz
 a9:=isAgg9
 z9:=sizeOf9
 v9:=zeroValue9
 t22:=underlying168
 a22:=isAgg168
 z22:=sizeOf168
 v22:=zeroValue168
 t25:=underlying356
 a25:=isAgg356
 z25:=sizeOf356
 v25:=zeroValue356
 t39:=underlying105
 a39:=isAgg105
 z39:=sizeOf105
 v39:=zeroValue105
 t45:=underlying364
 a45:=isAgg364
 z45:=sizeOf364
 v45:=zeroValue364
 t46:=underlying365
 a46:=isAgg365
 z46:=sizeOf365
 v46:=zeroValue365
 t50:=underlying344
 a50:=isAgg344
 z50:=sizeOf344
 v50:=zeroValue344
 t53:=underlying372
 a53:=isAgg372
 z53:=sizeOf372
 v53:=zeroValue372
 t55:=underlying161
 a55:=isAgg161
 z55:=sizeOf161
 v55:=zeroValue161
 t66:=underlying424
 a66:=isAgg424
 z66:=sizeOf424
 v66:=zeroValue424
 t70:=underlying428
 a70:=isAgg428
 z70:=sizeOf428
 v70:=zeroValue428
 t76:=underlying481
 a76:=isAgg481
 z76:=sizeOf481
 v76:=zeroValue481
 t77:=underlying482
 a77:=isAgg482
 z77:=sizeOf482
 v77:=zeroValue482
def Grown(W w:Ζ):Prop:=∃q os,w=grow (W.drewN q) os
def Grown.refl(W:Ζ):Grown W W:=⟨0,#[],by simp[World.drewN]⟩
def Grown.alloc{W w:Ζ}(h:Grown W w)(o:Obj):Grown W (w.alloc o):=by
 obtain⟨q,os,rfl⟩:=h;exact⟨q,os ++ #[o],by rw[alloc_eq_grow,grow_grow]⟩
def Grown.drew{W w:Ζ}(h:Grown W w):Grown W w.drew:=by
 obtain⟨q,os,rfl⟩:=h;exact⟨q+1,os,rfl⟩
section
variable {W0 W w:Ζ} {l l':Β} {P:Program}
def Tv{cs:Ξ}{t:Ι}{K:Ε->Ζ->Prop}(hS:SL W l w)(hG:Grown W0 w)(h:∀b w',SL W (.pt b cs t::l) w'->Grown W0 w'->K (Δ b) w'):zg cs t w K:=h _ _ hS.new (hG.alloc _)
def bWh{K:Ζ->Prop}(hS:SL W l w)(hG:Grown W0 w)(h:∀w',SL W l w'->Grown W0 w'->K w'):zi w K:=h _ hS.drew hG.drew
def bWg{z cells:Ξ}{ps:List (Nat × Nat × Ε)}{e:Ι}{n:Nat}{K:Ε->Ζ->Prop}(hS:SL W l w)(hG:Grown W0 w)(hc:ib z ps=some cells)
  (h:∀b w',SL W (.pt b cells e::l) w'->Grown W0 w'->K (.slice (some ⟨b,0,none⟩) n n) w'):zm z ps e n w K:=⟨cells,hc,h _ _ hS.new (hG.alloc _)⟩
def SL.grow{os:Array Obj}(hS:SL W l w):SL W l (Go.Sort.grow w os):=
 ⟨hS.os,hS.tape,hS.output,let ⟨k,s,m⟩:=hS.out;⟨k,s,λb o e=>by
  have:=m b o e;have dj:=(yy9.1 this).1;show (w.heap++os)[b]?=some o;rw[Array.getElem?_append_left dj];exact this⟩⟩
def SL.none(w:Ζ):SL w [] w:=⟨rfl,rfl,rfl,bw.emp,rfl,λb o e=>by cases e⟩
def cEh(F:Array Ε)(cells rest:Ξ)(h:cells.length=F.size):putCells id 0 F (cells++rest).toArray=(F.toList++rest).toArray:=by
 apply Array.ext_getElem?;intro k;simp only[putCells,Array.getElem?_mapIdx,List.getElem?_toArray];by_cases hk:k<F.size
 ·rw[zzm (by omega),zzm (by simpa using hk)];have e1:cells[k]?=some (cells[k]'(by omega)):=zzc (by omega);have fL:0<=k/\k<0+F.size:=by omega
  rw[e1];simp[hk,wwy]
 rw[yyb (by omega),yyb (by simpa using hk)];have fL:¬(0<=k/\k<0+F.size):=by omega
 simp only[fL,wwd,Array.length_toList,h];cases rest[k-F.size]?<;>rfl
def SL.putRow{b n:Nat}{t:Ι}{cells rest:Ξ}{F:Array Ε}(hS:SL W (.pt b (cells++rest) t::l) w)(h:cells.length=F.size):SL W (.pt b (F.toList++rest) t::l) (Go.Sort.putRow id (Go.Sort.ahead w n) b 0 F):=by
 obtain⟨f,hf,e⟩:=hS.o8 .hd;refine hS.rX (b:=b) (o':=.cells (F.toList++rest).toArray t f) .hd (λk hk=>by obtain⟨f,_,rfl⟩:=hk;exact⟨_,rfl⟩) ⟨f,by simpa [<- h] using hf,rfl⟩ ?_ ?_ rfl rfl rfl
 ·show (w.heap.modify b _)[b]?=_;rw[vvf];simp[e,onCells,cEh F cells rest h]
 intro x hx;show (w.heap.modify b _)[x]?=_;rw[vvf,zzb (λe=>hx e.symm)]
def Tq{α:Type}[Inhabited α]{enc:α->Ξ}{k:Nat}(hk:∀x,(enc x).length=k)(xs:List α):(flatK enc k xs.toArray).toList=(xs.map enc).flatten:=by
 have hl:=mN hk xs;refine uun λt=>?_;by_cases ht:t<xs.length*k
 ·have k0:0<k:=by
   rcases yy6 k with h|h
   ·subst h;omega
   exact h
  have h1:t / k<xs.length:=(uuq k0).2 ht;have h2:t % k<(enc xs[t / k]).length:=by rw[hk];exact vvj _ k0
  have h3:=pX hk xs (t / k) (t % k) xs[t / k] ((enc xs[t / k])[t % k]) (by simp[h1]) (by simp[h2]);rw[show t / k*k+t % k=t by rw[Nat.mul_comm];exact uuc t k]at h3
  rw[h3];have h4:(flatK enc k xs.toArray)[t]! = (enc xs.toArray[t / k]!)[t % k]!:=get_flatK enc k xs.toArray t (by simpa using ht);have h5:xs.toArray[t / k]! = xs[t / k]:=by simp[h1,wwy]
  rw[h5]at h4
  rw[Array.getElem?_toList,wwr (by simpa using ht)];rw[wwy _ _ (by simpa using ht)]at h4
  rw[h4];congr 1;exact List.getElem!_eq_getElem?_getD.trans (by simp[h2])
 rw[yyt (by simp;omega),yyt (by omega)]
end
def tc(a b:Int):Int:=if a<b then -1 else if b<a then 1 else 0
def so(x y:Tm):Int:=if tc x.when y.when≠0 then tc x.when y.when else tc x.id y.id
def V1(x y:Tm):so x y<0↔pD x y:=by
 unfold so tc pD;repeat' split
 all_goals omega
def cAr(x y:Tm):ltOf so x y=true↔pD x y:=by unfold ltOf;rw[uug];exact V1 x y
def BD(x y:Tm):ltOf so x y=false↔¬pD x y:=by unfold ltOf;rw[xxc,V1]
def Z_:SWO (ltOf so) where
 irrefl x:=by rw[BD];unfold pD;omega
 trans x y z h1 h2:=by rw[cAr]at *;unfold pD at *;omega
 ntrans x y z h1 h2:=by rw[BD]at *;unfold pD at *;omega
def cKg(x y:Tm)(h1:ltOf so x y=false)(h2:ltOf so y x=false):x=y:=by
 rw[BD]at *
 obtain⟨a,b⟩:=x;obtain⟨c,d⟩:=y;unfold pD at *
 simp only at *
 simp only[Tm.mk.injEq];omega
def vi(xs:List Tm):List Tm:=xs.mergeSort λx y=>!(ltOf so) y x
def XZ(xs:List Tm):(vi xs).Perm xs:=List.mergeSort_perm _ _
def cIb(xs:List Tm):(vi xs).Pairwise λx y=>¬pD y x:=by
 have h:=List.pairwise_mergeSort (le:=λx y=>!(ltOf so) y x) (λa b c h1 h2=>by
  simp only[wwn]at *;exact Z_.ntrans c b a h2 h1) (λa b=>by
  by_cases h:pD b a
  ·have:¬pD a b:=by unfold pD at *;omega
   simp[(BD a b).2 this]
  simp[(BD b a).2 h]) xs
 refine h.imp λ{x y} Vb=>?_;rw[wwn]at Vb
 exact (BD y x).1 Vb
def Vx{K:Ε->Ζ->Prop}{w:Ζ}{a:Int}(h:K (.bool false) w):aF 299 [Γ a] w K:=by
 apply cQb;refine BR ?_;simpa using h
def Vw{K:Ε->Ζ->Prop}{w:Ζ}{a:Int}(h:K (.bool false) w):aF 298 [Γ a] w K:=by
 apply ai3;refine BR ?_;simpa using h
def bwa{K:Ε->Ζ->Prop}{w:Ζ}{a b:Int}(h:K (Γ (tc a b)) w):aF 239 [Γ a,Γ b] w K:=by
 apply cOx;delta aI ai;unfold tc at h;refine Vx (Vx (zp (zp (D7 (za (λh1=>?_) (λh1=>KY (za (λh2=>?_) (λh2=>?_))))))))
 ·rwa [zzd h1]at h
 ·rwa [zzb h1,zzd h2]at h
 rwa [zzb h1,zzb h2]at h
def a_8{K:Ε->Ζ->Prop}{w:Ζ}{a b:Int}(h:K (Γ (tc a b)) w):aF 238 [Γ a,Γ b] w K:=by
 apply ai1;delta aI ai;unfold tc at h;refine Vw (Vw (zp (zp (D7 (za (λh1=>?_) (λh1=>KY (za (λh2=>?_) (λh2=>?_))))))))
 ·rwa [zzd h1]at h
 ·rwa [zzb h1,zzd h2]at h
 rwa [zzb h1,zzb h2]at h
def cDn{K:Ε->Ζ->Prop}{W w:Ζ}{l:Β}{b:Nat}{c d:Int}{t:Ι}(hS:SL W (.pt b [Γ c,Γ d] t::l) w)(h:K (Γ (if c≠0 then c else d)) w):aF 237 [.slice (some ⟨b,0,none⟩) 2 2] w K:=by
 apply cOw;delta aI ai;refine z7 ?_;refine⟨λus w'=>∃k:Nat,us=[Γ k]/\k<=2/\w'=w/\(1<=k->c=0)/\(2<=k->d=0),λus _=>match us with|[.int _ k]=>(2-k).toNat|_=>0,⟨0,rfl,by omega,rfl,by omega,by omega⟩,?_⟩;rintro v8 w' ⟨k,hv,hk,rfl,h1,h2⟩;cases hv;refine D7 ?_;refine za (λdj=>?_) (λdj=>?_)
 ·have fL:k=0\/k=1:=by omega
  rcases fL with rfl|rfl
  ·refine zG (by decide) (zT hS .hd (v:=Γ c) rfl (BR (za (λhc=>?_) (λhc=>?_))))
   ·rwa [zzd hc]at h
   refine QZ (by decide) ⟨⟨1,rfl,by omega,rfl,λ_=>by omega,λh=>by omega⟩,by dsimp only;omega⟩
  have hc:=h1 (by omega);refine zG (by decide) (zT hS .hd (v:=Γ d) rfl (BR (za (λhd=>?_) (λhd=>?_))))
  ·rwa [zzb (by omega)]at h
  refine QZ (by decide) ⟨⟨2,rfl,by omega,rfl,λ_=>hc,λ_=>by omega⟩,by dsimp only;omega⟩
 have hc:=h1 (by omega);have hd:=h2 (by omega);rw[zzb (by omega),hd]at h
 exact h
def cKn(x y:Tm)(W:Ζ):aF 236 [agg (gr x),agg (gr y)] W λv w=>v= Γ (so x y)/\Grown W w:=by
 apply cOv;delta a_ aW ai;have hS:=SL.none W;have hG:=Grown.refl W;refine⟨_,rfl,Tv hS hG ?_⟩;clear hS hG;intro b1 w hS hG;refine⟨_,rfl,Tv hS hG ?_⟩;clear hS hG;intro b2 w hS hG;refine bWh hS hG ?_;clear hS hG;intro w hS hG;refine Gp ?_;refine a_8 ?_;refine Gp ?_;refine bwa ?_;refine bWg hS hG (cells:=[Γ (tc x.when y.when),Γ (tc x.id y.id)]) (by simp[ib,Value.cells,cQ]) ?_;clear hS hG;intro b3 w hS hG;exact cDn hS ⟨rfl,hG⟩
def cIc(v:Ε)(xs:List Tm)(hl:xs.length<=1000000):SP 235 [v,.func (.func 236) #[] #[]] [.ob (bF v 353 2 xs.length (xs.map gr).flatten)]
  (cE (.tuple #[]) [.ob (bF v 353 2 (vi xs).length ((vi xs).map gr).flatten)]):=by
 intro W F w hS;try simp only[app]at hS
 rcases bF.open hS with ⟨⟨a,rfl⟩,Js,xB,hS⟩|⟨b,cap,rest,rfl,ph,hlen,jD,hS⟩
 ·obtain rfl:xs=[]:=zzl Js;refine ttj (AnyF.slices_SortFunc_none XY a 0 _ w) ?_;rintro e w' ⟨rfl,rfl⟩;have e:vi []=[]:=by simp[vi]
  rw[e];exact⟨_,rfl,_,⟨rfl,rfl⟩,hS⟩
 have nA:=Tq tm xs;have f_:(flatK gr 2 xs.toArray).size=(xs.map gr).flatten.length:=by rw[<- nA];simp
 have hH:HoldsK gr 2 w b 0 xs.toArray:=λj hj=>by
  have Jj:j<(xs.map gr).flatten.length:=by rw[<- f_];exact hj
  have e1:(flatK gr 2 xs.toArray)[j]! = (xs.map gr).flatten[j]:=by
   rw[wwy (flatK gr 2 xs.toArray) j hj];have:(flatK gr 2 xs.toArray).toList[j]?=(xs.map gr).flatten[j]?:=by rw[nA]
   rw[Array.getElem?_toList,wwr hj,zzc Jj]at this
   exact wwe this
  have hc:((xs.map gr).flatten++rest)[0+j]?=some (xs.map gr).flatten[j]:=by rw[yya,zzm Jj,zzc Jj]
  rw[e1];exact⟨hS.cell .hd hc,hS.frozen .hd hc⟩
 have hb:b<w.heap.size:=by
  obtain⟨f,_,e⟩:=hS.o8 .hd;exact (yy9.1 e).1
 have hK:=AnyQ.slices_SortFunc_total XY 2 (λw=>by kernel_rfl) (λw=>by kernel_rfl) gr tm CN so Z_ 236 #[] b 0 cap xs.toArray w
  (tto func236 (by kernel_rfl) rfl) (λm os dk _ x y=>by
   refine ttj (cKn x y (sortWorldK gr 2 w b 0 m dk os)) ?_;rintro e w' ⟨v,rfl,rfl,q,os',hw⟩;exact⟨rfl,q,os',hw⟩) hH hb (by simp;omega) cKg
 refine ttj hK ?_;rintro e w' ⟨rfl,n,os,rfl⟩;refine⟨_,rfl,_,⟨rfl,rfl⟩,?_⟩;have Dq:=XZ xs;have Jf:=Tq tm (vi xs);have cw3:(xs.map gr).flatten.length=(flatK gr 2 (vi xs).toArray).size:=by
  rw[mN tm,size_flatK,List.size_toArray,Dq.length_eq]
 have h2:=SL.grow (os:=os) (SL.putRow (n:=n) hS cw3);rw[Jf]at h2
 rw[Dq.length_eq];exact bF.mk ph (by rw[mN tm,Dq.length_eq]) jD h2
set_option maxRecDepth 100000
open Go.RowKit
instance:DecidableRel pD:=λa b=>inferInstanceAs (Decidable (a.when<b.when\/(a.when=b.when/\a.id<b.id)))
abbrev ids(L:List Tm):Ξ:=L.map λt=>Γ t.id
def cxv{L:List Tm}(hn:(L.map (·.id)).Nodup){a b:Tm}(ha:a∈L)(hb:b∈L)(h:a.id=b.id):a=b:=by
 induction L with
 | nil=>cases ha
 | cons x L ih=>
  rw[zzr,ww8]at hn
  rcases zz1.1 ha with rfl|uH<;>rcases zz1.1 hb with rfl|nu
  ·rfl
  ·exact absurd (zzx.2 ⟨b,nu,h.symm⟩) hn.1
  ·exact absurd (zzx.2 ⟨a,uH,h⟩) hn.1
  exact ih hn.2 uH nu
def cKo(wp:Nat)(L:List Tm)(now x:Int)(hn:L.length<=1000000)(hd:(L.map (·.id)).Nodup):SP 168 [Δ wp,Γ x] [.ob (gQ wp L now)]
  (λv post=>∃D:List Tm,D.Perm (kD (max now (sq x)) L)/\(D.Pairwise λx y=>¬pD y x)/\post=[.ob (gQ wp (L.filter λt=>!decide (t.when<=max now (sq x))) (max now (sq x))),.ob (bF v 3 1 D.length (ids D))]):=by
 refine Enzz λW F w hS=>?_;apply cMw;delta aI a_ c_ aW b_ ai bR;obtain⟨xs,hx,hS⟩:=gQ.iff.1 hS;refine Gn λw hS=>?_;refine zT hS Xh (Ej hx.len) ?_;refine Cg (YL x) λw hS=>?_;refine zT hS Xh (Ej hx.len) ?_;refine Gp ?_;generalize max now (sq x)=n2 at *
 refine Zu hS Xu (Ej hx.len) rfl ?_;clear hS;intro w hS;rw[cUv hx.len]at hS
 have nA:(xs.flatMap (·.2)).length<=1000000:=by rw[hx.perm.length_eq];exact hn
 refine Cc (bIb wp xs n2 hx.len nA) ?_;clear hS;rintro dv post rfl w hS;try simp only[app]at hS
 have po:(kD n2 (xs.flatMap (·.2))).length<=1000000:=yyw (yyp _ _) nA;have Uc:(kD n2 (xs.flatMap (·.2))).Perm (kD n2 L):=hx.perm.filter _;refine Cg (cIc dv _ po) λw hS=>?_;have q':=XZ (kD n2 (xs.flatMap (·.2)));have Bp:=cIb (kD n2 (xs.flatMap (·.2)));have IU:=q'.trans Uc;have Fq:=q'.length_eq;generalize vi (kD n2 (xs.flatMap (·.2)))=D at *
 rw[<- Fq]at po
 clear q' Uc;refine zz hS (t:=353) (sz:=2) (n:=D.length) (cells:=(D.map gr).flatten) Xh ?_;have hS:=gQ.iff.2 ⟨xs,hx,SL.cD hS (t:=.pt wp (jS xs n2) 171::.ob (zh mF xs)::.ob (bF dv 353 2 D.length ((D.map gr).flatten))::F) Xi⟩;clear hx;have e0:L.filter (λt=>decide (t∉D.take 0))=L:=by simp
 refine⟨λus w=>∃(k:Nat) (o:Ε),us=[o,Γ k]/\k<=D.length/\SL W (.ob (bF o 3 1 k (ids (D.take k)))::.ob (gQ wp (L.filter λt=>decide (t∉D.take k)) n2)::.ob (bF dv 353 2 D.length ((D.map gr).flatten))::F) w,
  λus _=>match us with|[_,.int _ k]=>(D.length-k).toNat|_=>0,⟨0,_,rfl,by omega,by rw[e0];exact bF.nil hS⟩,?_⟩
 clear hS e0;rintro v6 v25 w ⟨k,o,cT,hk,hS⟩;cases cT;refine cA (λh=>?_) (λh=>?_)
 ·have mv:k<D.length:=by omega
  refine zU hS (t:=353) Xh tm (x:=D[k]) (by simp[mv]) mv ?_;refine zE hS ?_;clear hS;intro b w hS;refine zt (vs:=gr D[k]) hS .hd rfl rfl (CN _) ?_;clear hS;intro w hS;refine Gp ?_;have Jf:(L.filter λt=>decide (t∉D.take k)).length<=1000000:=yyw (yyp _ _) hn;refine Cg (bFu wp _ n2 D[k].id Jf) λw hS=>?_;refine Gm λb w hS=>?_;have lx:re (L.filter λt=>decide (t∉D.take k)) D[k].id=L.filter λt=>decide (t∉D.take (k+1)):=by
   unfold re;rw[List.filter_filter];refine uup λt ht=>?_;have hDm:D[k]∈L:=(yy0.1 (IU.subset (zzh mv))).1;have xM:t∈D.take (k+1)↔t∈D.take k\/t=D[k]:=by rw[zze mv,zz6,zz8]
   have FO:t.id=D[k].id↔t=D[k]:=⟨λe=>cxv hd ht hDm e,λe=>by rw[e]⟩;rw[uux];simp only[zzu,zzw,ne_eq];rw[xM,FO,not_or];first|exact And.comm|exact Iff.rfl
  rw[lx]at hS
  refine zJ (n:=k) (m:=1) hS Xr (jR (cs:=[Γ D[k].id]) hS .hd rfl) rfl rfl (by simp[Value.oneCell']) (by omega) (by omega) ?_;clear hS;intro o2 w hS;refine Gp ?_;have ht:ids (D.take k)++[Γ D[k].id]=ids (D.take (k+1)):=by
   unfold ids;rw[zze mv,zzt];rfl
  rw[ht]at hS
  exact⟨⟨k+1,o2,by simp,by omega,aR hS⟩,by dsimp only;omega⟩
 have uP:k=D.length:=by omega
 subst uP;rw[zz0]at hS
 have e:L.filter (λt=>decide (t∉D))=L.filter λt=>!decide (t.when<=n2):=by
  refine uup λt ht=>?_;have:t∈D↔t.when<=n2:=by
   rw[IU.mem_iff];unfold kD;rw[yy0];simp[ht]
  by_cases hw:t.when<=n2
  ·simp[this,hw]
  have h3:t∉D:=λhm=>hw (this.1 hm);simp only[h3,not_false_eq_true,ttb,hw,wwz,Bool.not_false]
 rw[e]at hS
 exact⟨_,⟨D,IU,Bp,rfl⟩,aR hS⟩
def kO(p:s_)(c:dW)(H:bw)(s:fA):zC:=jT λh:Ε × Ε × Ε=>zH (ik H ⟨s.held.aw,h.1,h.2.1⟩ s.held/\iZ H h.2.2 s.k.reqs)
 [.pt p.wp (nL p.kp p.qp p.rp c.cN s.held.aw h.1 h.2.1 s.n) 242,.pt p.kp (od p.gp p.dp p.lp p.pp s.k.aw h.2.2) 78,.ob (gy p.gp s.k.ts),.ob (dx p.lp p.dp s.k.g),.ob (gJ p.pp s.k.plan),.ob (Gate p.qp p.qb c.cap s.out (s.L.map ie)),jV p.rp c.b c.m c.j s.fW s.eQ]
section
variable {W w:Ζ} {l F:Β} {p:s_} {c:dW} {H:bw} {s:fA}
def dA.take(hS:SL W l w)(r:fq (.ob (dA p c H s)) l F):SL W (.ob (cw p.dp s.k.d)::.ob (kO p c H s)::F) w:=by
 obtain⟨ov,nv,hi,hS⟩:=dA.open hS r;obtain⟨rv,hr,hS⟩:=cZ.open hS Xr;have h2:SL W (.ob (kO p c H s)::.ob (cw p.dp s.k.d)::F) w:=by
  unfold kO;simp only[SL.ex,SL.fact,zzv,zzq];exact⟨(ov,nv,rv),⟨hi,hr⟩,aR hS⟩
 exact h2.perm (.swap _ _ _)
def kO.open(hS:SL W l w)(r:fq (.ob (kO p c H s)) l F):∃ov nv rv,ik H ⟨s.held.aw,ov,nv⟩ s.held/\iZ H rv s.k.reqs/\SL W (.pt p.wp (nL p.kp p.qp p.rp c.cN s.held.aw ov nv s.n) 242::.pt p.kp (od p.gp p.dp p.lp p.pp s.k.aw rv) 78::.ob (gy p.gp s.k.ts)::.ob (dx p.lp p.dp s.k.g)::.ob (gJ p.pp s.k.plan)::.ob (Gate p.qp p.qb c.cap s.out (s.L.map ie))::jV p.rp c.b c.m c.j s.fW s.eQ::F) w:=by
 have h:=hS.perm r.perm;unfold kO at h;simp only[SL.ex,SL.fact,zzv,zzq]at h;obtain⟨⟨ov,nv,rv⟩,⟨hi,hr⟩,h⟩:=h;exact⟨ov,nv,rv,hi,hr,h⟩
def dA.vI(s:fA)(d:DS)(hS:SL W l w)(k:gE [.ob (cw p.dp d),.ob (kO p c H s)] l F):SL W (.ob (dA p c H {s with k:={s.k with d:=d}})::F) w:=by
 have hS:SL W (.ob (cw p.dp d)::.ob (kO p c H s)::F) w:=hS.pick k;obtain⟨ov,nv,rv,hi,hr,hS⟩:=kO.open hS Xr;have hS:=cZ.eX (g:=s.k.g) (d:=d) (ts:=s.k.ts) (plan:=s.k.plan) (aw:=s.k.aw) (reqs:=s.k.reqs) hS hr Xp;exact dA.eX (k:={s.k with d:=d}) (L:=s.L) (held:=s.held) (n:=s.n) hS hi Xp
end
structure ig where
 np:Nat
 w:s_
 sp:Nat
 tp:Nat
 sl:Nat
 rb:Nat
 mp:Nat
 wi:Nat
 sn:Nat
 dg:Nat
 bp:Nat
 ck:Nat
abbrev oe(p:ig)(cf:dL)(pos:Int)(dv:Ε):Ξ:=[iy p.w.kp,cH p.sp,cH p.rb,Γ pos,cH p.mp,cH p.sn,cH p.w.qp,cH p.w.rp,cH p.w.wp,cH p.bp,dv,Γ cf.tables,Γ cf.late,Γ cf.size,Γ cf.queue,Γ cf.chunk,Γ cf.batch,Γ cf.base,Γ cf.cN,Γ cf.sO,Γ cf.every,cH p.w.dp,cH p.ck]
def jz(t:cM):Η:=ep (gz t)
def xc(n:Int):Ξ:=[Γ n]
abbrev pG(v:Ε)(l:Ω):Μ:=.ob (dB v 2 1 l.length (l.map xc).flatten)
abbrev Lz(p:ig)(cf:dL)(kc:dW)(H:bw)(c:cx)(dv:Ε):Β:=[.pt p.np (oe p cf c.pos dv) 72,pG dv c.dD,.ob (dA p.w kc H c.s),.ob (dc p.sp p.tp p.w.dp p.sl c.k),.ob (db p.mp p.wi H c.m),.pt p.sn (iY p.sp p.mp p.wi p.dg cf.chunk) 234,.ob (fo p.dg c.dr),.ob (Ring p.rb kc.cap (c.q.map jz)),.ob (gQ p.ck [] c.now),iS p.bp cf.every c.due c.last]
def cn(p:ig)(cf:dL)(kc:dW)(H:bw)(c:cx):zC:=jT λdv:Ε=>zH True (Lz p cf kc H c dv)
section
variable {W w:Ζ} {l F:Β} {p:ig} {cf:dL} {kc:dW} {H:bw} {c:cx}
def cn.iff:SL W (.ob (cn p cf kc H c)::l) w↔∃dv,SL W (.pt p.np (oe p cf c.pos dv) 72::pG dv c.dD::.ob (dA p.w kc H c.s)::.ob (dc p.sp p.tp p.w.dp p.sl c.k)::.ob (db p.mp p.wi H c.m)::.pt p.sn (iY p.sp p.mp p.wi p.dg cf.chunk) 234::.ob (fo p.dg c.dr)::.ob (Ring p.rb kc.cap (c.q.map jz))::.ob (gQ p.ck [] c.now)::iS p.bp cf.every c.due c.last::l) w:=by
 unfold cn;simp only[SL.ex,SL.fact,zzv,zzq,uuu]
def cn.open(hS:SL W l w)(r:fq (.ob (cn p cf kc H c)) l F):∃dv,SL W (.pt p.np (oe p cf c.pos dv) 72::pG dv c.dD::.ob (dA p.w kc H c.s)::.ob (dc p.sp p.tp p.w.dp p.sl c.k)::.ob (db p.mp p.wi H c.m)::.pt p.sn (iY p.sp p.mp p.wi p.dg cf.chunk) 234::.ob (fo p.dg c.dr)::.ob (Ring p.rb kc.cap (c.q.map jz))::.ob (gQ p.ck [] c.now)::iS p.bp cf.every c.due c.last::F) w:=cn.iff.1 (hS.perm r.perm)
def cn.put(c:cx){dv:Ε}(hS:SL W l w)(k:gE (Lz p cf kc H c dv) l F):SL W (.ob (cn p cf kc H c)::F) w:=cn.iff.2 ⟨dv,hS.pick k⟩
def cn.eX{s:fA}{k:cW}{m:dJ}{dr:dH}{q:List cM}{pos due last:Int}{dD:Ω}{now:Int}{dv:Ε}(hS:SL W l w)(r:gE [.pt p.np (oe p cf pos dv) 72,pG dv dD,.ob (dA p.w kc H s),.ob (dc p.sp p.tp p.w.dp p.sl k),.ob (db p.mp p.wi H m),.pt p.sn (iY p.sp p.mp p.wi p.dg cf.chunk) 234,.ob (fo p.dg dr),.ob (Ring p.rb kc.cap (q.map jz)),.ob (gQ p.ck [] now),iS p.bp cf.every due last] l F):SL W (.ob (cn p cf kc H ⟨s,k,m,dr,q,pos,due,last,dD,now⟩)::F) w:=cn.iff.2 ⟨dv,hS.pick r⟩
def cn.mono{H':bw}(hh:H.le H')(h:SL W (.ob (cn p cf kc H c)::l) w):SL W (.ob (cn p cf kc H' c)::l) w:=by
 obtain⟨dv,hS⟩:=cn.iff.1 h;have hS:=dA.gB hh hS Xr;have hS:=db.gB hh hS Xr;exact cn.put c hS Xp
end
section
variable (p:ig) (cf:dL) (kc:dW) (H:bw) (c:cx)
def Qz(n:Int)(hn:0<=c.now/\c.now<=1125899906842624):SP 107 [cH p.np,Γ n] [.ob (cn p cf kc H c)] (cE (Γ (c.tick n).2) [.ob (cn p cf kc H (c.tick n).1)]):=by
 refine Enzz λW F w hS=>?_;apply cLa;delta aI bW aW b_ ai;unfold cx.tick;refine cA (λh=>?_) (λh1=>?_)
 ·rw[zzd (.inl h)];(exact cF hS)
 refine cA (λh=>?_) (λh2=>?_)
 ·rw[zzd (.inr (by omega))];(exact cF hS)
 rw[zzb (by omega)];obtain⟨dv,hS⟩:=cn.open hS Xr;refine Gp ?_;refine Cg (zY p.ck [] c.now) λw hS=>?_;refine za (λh=>?_) (λh3=>?_)
 ·rw[zzd (by omega)];have hS:=cn.put c hS Xp;(exact cF hS)
 rw[zzb (by omega)];refine Gn λw hS=>?_;refine Cg (zY p.ck [] c.now) λw hS=>?_;refine Cc (cKo p.ck [] c.now (c.now+n) (by simp) (by simp)) ?_;clear hS;rintro v post ⟨D,_,_,rfl⟩ w hS;try simp only[app]at hS
 have e:max c.now (sq (c.now+n))=c.now+n:=by unfold sq;omega
 rw[e,List.filter_nil]at hS
 have hS:=cn.eX (s:=c.s) (k:=c.k) (m:=c.m) (dr:=c.dr) (q:=c.q) (pos:=c.pos) (due:=c.due) (last:=c.last) (dD:=c.dD) hS Xp;(exact cF hS)
def a_p(x:Int):SP 110 [cH p.np,Γ x] [.ob (cn p cf kc H c)] (cE (Γ (c.AI x).2) [.ob (cn p cf kc H (c.AI x).1)]):=by
 refine Enzz λW F w hS=>?_;apply cLe;delta aI bW ai;unfold cx.AI;refine cA (λh=>?_) (λh1=>?_)
 ·rw[zzd (.inl h)];(exact cF hS)
 refine cA (λh=>?_) (λh2=>?_)
 ·rw[zzd (.inr (by omega))];(exact cF hS)
 rw[zzb (by omega)];obtain⟨dv,hS⟩:=cn.open hS Xr;have hS:=dA.take hS Xr;refine Gp ?_;refine Cg (aWj p.w.dp c.s.k.d x) λw hS=>?_;have hS:=dA.vI c.s (c.s.k.d.rA x) hS Xp;have hS:=cn.put {c with s:={c.s with k:={c.s.k with d:=c.s.k.d.rA x}}} hS Xp;(exact cF hS)
def Qq(x:Int)(hd:c.dD.length<=1024):SP 108 [cH p.np,Γ x] [.ob (cn p cf kc H c)] (cE (Γ (c.drawn x).2) [.ob (cn p cf kc H (c.drawn x).1)]):=by
 refine Enzz λW F w hS=>?_;apply cLb;delta aI a_ b_ ai;unfold cx.drawn;refine cA (λh=>?_) (λh1=>?_)
 ·rw[zzd (.inl h)];(exact cF hS)
 refine cA (λh=>?_) (λh2=>?_)
 ·rw[zzd (.inr (by omega))];(exact cF hS)
 rw[zzb (by omega)];obtain⟨dv,hS⟩:=cn.open hS Xr;refine Gp ?_;refine zO hS (v:=dv) Xh ?_;refine cA (λh=>?_) (λh3=>?_)
 ·rw[zzd (by omega)];have hS:=cn.put c hS Xp;(exact cF hS)
 rw[zzb (by omega)];refine Gm λb w hS=>?_;refine qY (t:=2) (n:=c.dD.length) (xs:=c.dD) (y:=x) (enc:=xc) hS Xr Xh (λ_=>rfl) (by simp[xc,Value.oneCell']) rfl rfl (by omega) (by omega) ?_;clear hS;intro nv w hS;have h1:=dB.one hS .hd;refine Gn λw hS=>?_;have hS:SL W (.pt p.np (oe p cf c.pos nv) 72::.ob (dB nv 2 1 (c.dD.length+1) ((c.dD++[x]).map xc).flatten)::.ob (dA p.w kc H c.s)::.ob (dc p.sp p.tp p.w.dp p.sl c.k)::.ob (db p.mp p.wi H c.m)::.pt p.sn (iY p.sp p.mp p.wi p.dg cf.chunk) 234::.ob (fo p.dg c.dr)::.ob (Ring p.rb kc.cap (c.q.map jz))::.ob (gQ p.ck [] c.now)::iS p.bp cf.every c.due c.last::F) w:=aR hS;rw[show c.dD.length+1=(c.dD++[x]).length by simp]at hS
 have hS:=cn.put {c with dD:=c.dD++[x]} hS Xp;(exact cF hS)
end
section
variable (p:ig) (cf:dL) (kc:dW) (H:bw) (c:cx)
def YH(v:iK)(t:cJ)(hv:ik H v t)(hm:eH t=true)(hr:c.s.L.length+c.s.out<kc.cap):SP 156 [cH p.np,agg (eU v)] [.ob (cn p cf kc H c),.mem H] (cE (Γ 0) [.ob (cn p cf kc H (c.put t)),.mem H]):=by
 refine Enzz λW F w hS=>?_;apply cMj;delta aI a_ b_ ai;refine zu hS λxb w hS=>?_;refine Gp ?_;refine Cc (YX H v t hv) ?_;clear hS;rintro r post hq w hS;unfold B6 at hq;rw[Sd hm]at hq
 obtain⟨bv,rfl,rfl⟩:=hq;try simp only[app]at hS
 obtain⟨dv,hS⟩:=cn.open hS Xr;obtain⟨ov,nv,hi,hS⟩:=dA.open hS Xr;refine Gp ?_;refine Υ ?_;refine Gn λw hS=>?_;obtain⟨a,ca,hb,_⟩:=bF.at hS (v:=bv) (t:=5) (sz:=1) (n:=(gq t).length) (cells:=(gq t).map dd) Xh;have iD:=nG hS (v:=bv) (t:=5) (sz:=1) Xh;refine Zi ⟨_,_,_,hb⟩ iD xxv yyz wwx ?_;refine Cg (bWv p.w.qp p.w.qb kc.cap c.s.out (c.s.L.map ie) (ie t) (by rw[zzn];exact hr)) λw hS=>?_;rw[show c.s.L.map ie++[ie t]=(c.s.L++[t]).map ie by simp]at hS
 have hS:=dA.eX (p:=p.w) (c:=kc) (H:=H) (k:=c.s.k) (L:=c.s.L++[t]) (out:=c.s.out) (fW:=c.s.fW) (eQ:=c.s.eQ) (held:=c.s.held) (n:=c.s.n) hS hi Xp;have hS:=cn.eX (p:=p) (cf:=cf) (k:=c.k) (m:=c.m) (dr:=c.dr) (q:=c.q) (pos:=c.pos) (due:=c.due) (last:=c.last) (dD:=c.dD) (now:=c.now) hS Xp;have hS:SL W (.ob (cn p cf kc H (c.put t))::_) w:=hS;(exact cF hS)
def a_z(hq:c.q=[]):SP 77 [cH p.np] [.ob (cn p cf kc H c)] (cE (.tuple #[agg (eV vm),.bool false]) [.ob (cn p cf kc H c)]):=by
 refine Enzz λW F w hS=>?_;apply awa;delta a_ b_ cP ai bR;refine Gb λzb w hS=>?_;obtain⟨dv,hS⟩:=cn.open hS Xr;rw[hq,yy8]at hS
 refine Gp ?_;refine Cg (WV p.rb kc.cap) λw hS=>?_;refine zy (λ_=>?_) (λh=>by cases h);refine Gn λw hS=>?_;rw[show ([]:Ψ)=c.q.map jz by rw[hq];rfl]at hS
 have hS:=cn.put c hS Xp;(exact cF hS)
def Si(t:cM)(q:List cM)(hq:c.q=t::q)(hm:eG t=true):SP 77 [cH p.np] [.ob (cn p cf kc H c),.mem H] (λv post=>∃x H',H.le H'/\lL H' x t/\v= .tuple #[agg (eV x),.bool true]/\post=[.ob (cn p cf kc H' c),.mem H']):=by
 refine Enzz λW F w hS=>?_;apply awa;delta a_ b_ cP ai bR;refine Gb λzb w hS=>?_;obtain⟨dv,hS⟩:=cn.open hS Xr;rw[hq,zzr]at hS
 refine Gp ?_;refine Cg (WW p.rb kc.cap (jz t) (q.map jz)) λw hS=>?_;refine zy (λh=>by cases h) (λ_=>?_);rw[show jz t::q.map jz=c.q.map jz by rw[hq];rfl]at hS
 have hS:=cn.put c hS Xp;refine Yq (bs:=gz t) hS yyz xxv wwx λbv w hS=>?_;refine Cc (QX (.ob (bF bv 5 1 (gz t).length ((gz t).map dd))) H bv (gz t) dX.own) ?_;clear hS;rintro r post hd w hS;unfold G7 at hd;rw[Se hm]at hd
 obtain⟨x,H',hh,rfl,hx,rfl⟩:=hd;try simp only[app]at hS
 have h1:∀v∈eV x,v.oneCell'=true:=vB (aw:=x.aw) (kind:=x.kind) (mark:=x.mark) hx.cv.one hx.sv.one;refine Gm λb w hS=>?_;refine zt (vs:=eV x) hS Xu rfl rfl h1 λw hS=>?_;refine zr hS Xh rfl ?_;refine Gp ?_;refine zt (vs:=eV x) hS Xu rfl rfl h1 λw hS=>?_;refine zr hS Xh rfl ?_;have hS:=cn.mono hh (SL.cD hS (t:=.ob (cn p cf kc H c)::.mem H'::F) Xi);exact⟨_,⟨x,H',hh,hx,rfl,rfl⟩,aR hS⟩
end
def lL.DX{H:bw}{x:lM}{t:cM}(hx:lL H x t):∀v∈eV x,v.oneCell'=true:=vB (aw:=x.aw) (kind:=x.kind) (mark:=x.mark) hx.cv.one hx.sv.one
def B5(p:ig)(cf:dL)(kc:dW)(H:bw)(y:cx × pJ)(v:Ε)(post:Β):Prop:=v= .tuple #[Γ y.2.th,Γ y.2.err]/\∃H',H.le H'/\post=[.ob (cn p cf kc H' y.1),.mem H']
section
variable (p:ig) (cf:dL) (kc:dW) (H:bw) (c:cx)
def Qw(t:cM)(hr:c.k.gN (c.pos+1)= .ok t)(hm:eG t=true)(hq:c.q.length<kc.cap)(hp:0<=c.pos/\c.pos<=1099511627776){N:Nat}(hg:ij c.k.g N)(hN:N<=1000000000):SP 101 [cH p.np] [.ob (cn p cf kc H c),.mem H] (B5 p cf kc H ({c with q:=c.q++[t],pos:=c.pos+1},⟨0,0,1⟩)):=by
 refine Enzz λW F w hS=>?_;apply cK4;delta aI a_ aW b_ ai bR;refine⟨λus w=>∃(b:Nat) (x:lM) (H':bw),us=[cH b,Γ 0]/\H.le H'/\lL H' x t/\SL W (.pt b (eV x) 89::.ob (cn p cf kc H' c)::.mem H'::F) w,?_,?_⟩
 ·obtain⟨dv,hS⟩:=cn.open hS Xr;refine Gn λw hS=>?_;refine⟨?_,?_⟩
  ·refine Cc (Zj p.sp p.tp p.w.dp p.sl c.k hg hN H (c.pos+1) (by omega)) ?_;clear hS;rintro r post hq w hS;unfold Cj at hq;rw[hr]at hq
   obtain⟨x,H',hh,rfl,hx,rfl⟩:=hq;refine Gm λb w hS=>?_;refine zt (vs:=eV x) hS Xu rfl rfl (hx.DX) λw hS=>?_;have hS:=cn.mono hh (cn.put c hS Xp);exact⟨_,x,H',rfl,hh,hx,aR hS⟩
  refine Gm λb w hS=>?_;refine Cc (Zj p.sp p.tp p.w.dp p.sl c.k hg hN H (c.pos+1) (by omega)) ?_;clear hS;rintro r post hq w hS;unfold Cj at hq;rw[hr]at hq
  obtain⟨x,H',hh,rfl,hx,rfl⟩:=hq;(try simp only[app]at hS);refine Gp ?_
  refine zt (vs:=eV x) hS Xu rfl rfl (hx.DX) λw hS=>?_;have hS:=cn.mono hh (cn.put c hS Xp);exact⟨_,x,H',rfl,hh,hx,aR hS⟩
 clear hS;rintro v1 v2 w ⟨b,x,H',cT,hh,hx,hS⟩;cases cT;refine Gp ?_;refine Χ ?_;refine zr hS Xh rfl ?_;refine Cc (Yi H' x t hx) ?_;clear hS;rintro r post lu w hS;unfold B7 at lu;rw[Sg hm]at lu
 obtain⟨bv,rfl,rfl⟩:=lu;try simp only[app]at hS
 obtain⟨dv,hS⟩:=cn.open hS Xr;refine Gp ?_;refine Χ ?_;refine Gn λw hS=>?_;obtain⟨a,ca,hb,_⟩:=bF.at hS (v:=bv) (t:=5) (sz:=1) (n:=(nU t).length) (cells:=(nU t).map dd) Xh;have iD:=nG hS (v:=bv) (t:=5) (sz:=1) Xh;refine Zi ⟨_,_,_,hb⟩ iD xxv yyz wwx ?_;refine Cc (YY p.rb kc.cap (c.q.map jz) (ep (nU t))) ?_;clear hS;rintro v post ⟨rfl,rfl⟩ w hS;try simp only[app]at hS
 rw[zzd (by rw[zzn];exact hq),show c.q.map jz++[ep (nU t)]=(c.q++[t]).map jz by simp[jz,gz]]at hS
 refine Gn λw hS=>?_;have hS:=cn.put {c with q:=c.q++[t],pos:=c.pos+1} hS Xp;exact⟨_,⟨rfl,H',hh,rfl⟩,aR hS⟩
def Qx(t:cM)(q:List cM)(m':dJ)(x:cJ)(hq:c.q=t::q)(hm:eG t=true)(mr:0<c.lg kc)(sL:c.m.take t=(m',(x,0)))(uR:eH x=true)(sK:c.m.Ok)(hid : -9223372036854775808<=c.m.cI.id/\c.m.cI.id<=9223372036854775807):SP 102 [cH p.np] [.ob (cn p cf kc H c),.mem H] (B5 p cf kc H (({c with q:=q,m:=m'}:cx).BY x,⟨0,0,2⟩)):=by
 refine Enzz λW F w hS=>?_;apply cK5;delta aI a_ aW b_ EB ai bR;refine Cc (Si p cf kc H c t q hq hm) ?_;clear hS;rintro r post ⟨tx,H1,du,hx,rfl,rfl⟩ w hS;refine Gm λb w hS=>?_;refine zt (vs:=eV tx) hS Xu rfl rfl hx.DX λw hS=>?_;obtain⟨dv,hS⟩:=cn.open hS Xr;rw[hq,zzr]at hS
 refine Gp ?_;refine Cg (W1 p.rb kc.cap (jz t) (q.map jz)) λw hS=>?_;refine⟨λus w=>∃(b:Nat) (y:iK) (H':bw),us=[cH b,Γ 0]/\H.le H'/\ik H' y x/\SL W (.pt b (eU y) 240::.ob (cn p cf kc H' {c with q:=q,m:=m'})::.mem H'::F) w,?_,?_⟩
 ·refine Gn λw hS=>?_;refine⟨?_,?_⟩
  ·refine Cc (Ye p.mp p.wi H1 c.m sK tx t hx hid) ?_;clear hS;rintro r post ⟨y,H2,dF,rfl,hy,rfl⟩ w hS;rw[sL]at hy hS ⊢
   refine Gm λb w hS=>?_;refine zt (vs:=eU y) hS Xu rfl rfl (mL hy) λw hS=>?_;have hS:=dA.gB dF hS Xr;have hS:=cn.put {c with m:=m',q:=q} hS Xp;exact⟨_,y,H2,rfl,bw.le_trans du dF,hy,aR hS⟩
  refine Gm λb w hS=>?_;refine Cc (Ye p.mp p.wi H1 c.m sK tx t hx hid) ?_;clear hS;rintro r post ⟨y,H2,dF,rfl,hy,rfl⟩ w hS;rw[sL]at hy hS ⊢
  (try simp only[app]at hS);refine Gp ?_
  refine zt (vs:=eU y) hS Xu rfl rfl (mL hy) λw hS=>?_;have hS:=dA.gB dF hS Xr;have hS:=cn.put {c with m:=m',q:=q} hS Xp;exact⟨_,y,H2,rfl,bw.le_trans du dF,hy,aR hS⟩
 clear hS;rintro v1 v2 w ⟨b,y,H',cT,hh,hy,hS⟩;cases cT;have vS:=(oQ.1 uR).1;refine Gp ?_;refine Υ ?_;refine Gp ?_;refine zo hy.ops ?_;refine Gp ?_;refine zo hy.iX ?_;refine Gp ?_;unfold cx.BY;refine za (λh=>?_) (λh=>?_)
 ·rw[zzd (by omega)];refine zr hS Xh rfl ?_;have b_2:c.s.L.length+c.s.out<kc.cap:=by unfold cx.lg at mr;omega
  refine Cc (YH p cf kc H' {c with q:=q,m:=m'} y x hy uR b_2) ?_;clear hS;rintro _ post ⟨rfl,rfl⟩ w hS;try simp only[app]at hS
  have hS:SL W (.ob (cn p cf kc H' ⟨{c.s with L:=c.s.L++[x]},c.k,m',c.dr,q,c.pos,c.due,c.last,c.dD,c.now⟩)::_) _:=hS;obtain⟨dv,hS⟩:=cn.open hS Xr;dsimp only at hS;refine Gn λw hS=>?_;refine Cg (Yx p.bp cf.every c.due c.last y.aw) λw hS=>?_;refine Χ ?_;rw[hy.aw]at hS
  have hS:=cn.put {c with s:={c.s with L:=c.s.L++[x]},m:=m',q:=q,last:=max c.last x.aw} hS Xp;exact⟨[.ob (cn p cf kc H' ⟨{c.s with L:=c.s.L++[x]},c.k,m',c.dr,q,c.pos,c.due,max c.last x.aw,c.dD,c.now⟩),.mem H'],⟨rfl,H',hh,rfl⟩,aR hS⟩
 rw[zzb (by omega)];refine Gp ?_;refine Χ ?_;exact⟨_,⟨rfl,H',hh,rfl⟩,aR hS⟩
def qE{cU f N m:Nat}(hI:pK kc cU c.s f)(hf:f<=1000000)(hk:Ca c.s.k N m)(hd:c.dD.length<=1024):SP 104 [cH p.np] [.ob (cn p cf kc H c),.mem H] (B5 p cf kc H (c.write kc)):=by
 refine Enzz λW F w hS=>?_;apply cK7;delta aI bW a_ aW b_ ai;refine⟨λus w=>us=[Γ c.draw]/\SL W (.ob (cn p cf kc H c)::.mem H::F) w,?_,?_⟩
 ·obtain⟨dv,hS⟩:=cn.open hS Xr;refine Gp ?_;refine zO hS (v:=dv) Xh ?_;refine cA (λh=>?_) (λh=>?_)
  ·have hx:c.dD[0]?=some c.draw:=by
    unfold cx.draw;cases hc:c.dD with
    | nil=>rw[hc]at h;simp at h
    | cons a l=>rfl
   refine Gp ?_;refine y5 (j:=0) (k:=.i64) hS (v:=dv) Xh (by omega) λab ao hb=>⟨_,Γ c.draw,rfl,hb 0 _ (by decide) (pX (enc:=xc) (n:=1) (λ_=>rfl) c.dD 0 0 c.draw (Γ c.draw) hx rfl),?_⟩;have hS:=cn.put c hS Xp;exact⟨rfl,aR hS⟩
  have hS:=cn.put c hS Xp;refine⟨?_,aR hS⟩;have:c.dD=[]:=wwj.1 (by omega);unfold cx.draw;rw[this];rfl
 clear hS;rintro v1 w ⟨cT,hS⟩;cases cT;obtain⟨dv,hS⟩:=cn.open hS Xr;refine Gn λw hS=>?_;refine Cg (zY p.ck [] c.now) λw hS=>?_;refine Cc (cU9 p.w kc H c.s c.now c.draw hI hf hk) ?_;clear hS;rintro _ post ⟨rfl,H',hh,rfl⟩ w hS;try simp only[app]at hS
 unfold cx.write;generalize c.s.step kc c.now c.draw=y at *
 obtain⟨s',th,err⟩:=y;dsimp only at hS ⊢;have hS:=db.gB hh hS Xr;refine cA (λh=>?_) (λh=>?_)
 ·subst h;refine Gp ?_;refine zO hS (v:=dv) Xh ?_;refine cA (λh=>?_) (λh=>?_)
  ·refine Gp ?_;refine Yp (k:=1) (v:=dv) (Has.front hS Xr) (by omega) λu hS=>?_;rw[show (c.dD.map xc).flatten.drop (1*1)=(c.dD.tail.map xc).flatten by cases c.dD with|nil=>rfl|cons a l=>rfl,show c.dD.length-1=c.dD.tail.length by rw[List.length_tail]]at hS
   have h1:=dB.one hS .hd;refine Gn λw hS=>?_;have hS:=cn.put {c with s:=s',dD:=c.dD.tail} hS Xp;exact⟨[.ob (cn p cf kc H' ⟨s',c.k,c.m,c.dr,c.q,c.pos,c.due,c.last,c.dD.tail,c.now⟩),.mem H'],⟨rfl,H',hh,rfl⟩,aR hS⟩
  have e:c.dD.tail=c.dD:=by rw[wwj.1 (show c.dD.length=0 by omega)];rfl
  rw[zzd rfl,e];have hS:=cn.put {c with s:=s'} hS Xp;exact⟨_,⟨rfl,H',hh,rfl⟩,aR hS⟩
 rw[zzb h];have hS:=cn.put {c with s:=s'} hS Xp;exact⟨_,⟨rfl,H',hh,rfl⟩,aR hS⟩
def Qy(he:1<=cf.every/\cf.every<=1073741824)(tQ:c.due<=c.now/\(c.m.at_<=c.last\/0<c.lg kc))(Bm:c.s.L.length+c.s.out<=kc.cap)(hm:¬c.m.at_<=c.last->eH ⟨c.m.at_,[],[]⟩=true):SP 105 [cH p.np] [.ob (cn p cf kc H c),.mem H] (B5 p cf kc H (c.tell cf)):=by
 refine Enzz λW F w hS=>?_;apply cK8;delta aI aW b_ EC ai bR;have hr:c.due<=c.now/\(c.m.at_<=c.last\/0<((kc.cap-(c.s.L.map ie).length-c.s.out:Nat):Int)):=by
  rw[zzn];unfold cx.lg at tQ;omega
 obtain⟨y,x,th,tU,hy,DA,I6⟩:∃(y:iK) (x:cJ) (th tU:Int),ik H y x/\(∀{v:Ε} {post:Β},(if c.m.at_<=c.last then v= .tuple #[agg (eU u7),Γ 9]/\post=[iS p.bp cf.every (jE cf.every c.now) c.last] else v= .tuple #[agg (eU ⟨c.m.at_,Θ,Θ⟩),Γ 8]/\post=[iS p.bp cf.every (jE cf.every c.now) c.m.at_])->v= .tuple #[agg (eU y),Γ th]/\post=[iS p.bp cf.every (jE cf.every c.now) tU])/\((c.m.at_<=c.last/\th=9/\tU=c.last)\/(¬c.m.at_<=c.last/\th=8/\tU=c.m.at_/\x=⟨c.m.at_,[],[]⟩)):=by
  by_cases h:c.m.at_<=c.last
  ·exact⟨u7,n_,9,c.last,⟨rfl,de.nil _ _,de.nil _ _⟩,λh2=>by rw[zzd h]at h2;exact h2,.inl ⟨h,rfl,rfl⟩⟩
  exact⟨⟨c.m.at_,Θ,Θ⟩,⟨c.m.at_,[],[]⟩,8,c.m.at_,⟨rfl,de.nil _ _,de.nil _ _⟩,λh2=>by rw[zzb h]at h2;exact h2,.inr ⟨h,rfl,rfl,rfl⟩⟩
 refine⟨λus w=>∃b:Nat,us=[cH b,Γ th]/\SL W (.pt b (eU y) 240::.ob (cn p cf kc H {c with due:=jE cf.every c.now,last:=tU})::.mem H::F) w,?_,?_⟩
 ·obtain⟨dv,hS⟩:=cn.open hS Xr;obtain⟨ov,nv,hi,hS⟩:=dA.open hS Xr;refine Gn λw hS=>?_;refine⟨?_,?_⟩
  ·refine Cg (zY p.ck [] c.now) λw hS=>?_;refine⟨?_,?_⟩
   ·refine Cg (yx p.mp p.wi H c.m) λw hS=>?_;refine⟨?_,?_⟩
    ·refine Cg (zN p.w.qp p.w.qb kc.cap c.s.out (c.s.L.map ie)) λw hS=>?_;refine⟨?_,?_⟩
     ·refine Cc (yi p.bp cf.every c.due c.last c.now c.m.at_ _ he hr) ?_;clear hS;rintro _ post gg w hS;obtain⟨rfl,rfl⟩:=DA gg;refine Gm λb w hS=>?_;refine zt (vs:=eU y) hS Xu rfl rfl (mL hy) λw hS=>?_;have hS:=dA.put c.s hS hi Xp;have hS:=cn.put {c with due:=jE cf.every c.now,last:=tU} hS Xp;exact⟨_,rfl,aR hS⟩
     refine Gm λb w hS=>?_;refine Cc (yi p.bp cf.every c.due c.last c.now c.m.at_ _ he hr) ?_;clear hS;rintro _ post gg w hS;obtain⟨rfl,rfl⟩:=DA gg;(try simp only[app]at hS);refine Gp ?_
     refine zt (vs:=eU y) hS Xu rfl rfl (mL hy) λw hS=>?_;have hS:=dA.put c.s hS hi Xp;have hS:=cn.put {c with due:=jE cf.every c.now,last:=tU} hS Xp;exact⟨_,rfl,aR hS⟩
    refine Gm λb w hS=>?_;refine Cg (zN p.w.qp p.w.qb kc.cap c.s.out (c.s.L.map ie)) λw hS=>?_;refine Cc (yi p.bp cf.every c.due c.last c.now c.m.at_ _ he hr) ?_;clear hS;rintro _ post gg w hS;obtain⟨rfl,rfl⟩:=DA gg;(try simp only[app]at hS);refine Gp ?_
    refine zt (vs:=eU y) hS Xu rfl rfl (mL hy) λw hS=>?_;have hS:=dA.put c.s hS hi Xp;have hS:=cn.put {c with due:=jE cf.every c.now,last:=tU} hS Xp;exact⟨_,rfl,aR hS⟩
   refine Gm λb w hS=>?_;refine Cg (yx p.mp p.wi H c.m) λw hS=>?_;refine Cg (zN p.w.qp p.w.qb kc.cap c.s.out (c.s.L.map ie)) λw hS=>?_;refine Cc (yi p.bp cf.every c.due c.last c.now c.m.at_ _ he hr) ?_;clear hS;rintro _ post gg w hS;obtain⟨rfl,rfl⟩:=DA gg;(try simp only[app]at hS);refine Gp ?_
   refine zt (vs:=eU y) hS Xu rfl rfl (mL hy) λw hS=>?_;have hS:=dA.put c.s hS hi Xp;have hS:=cn.put {c with due:=jE cf.every c.now,last:=tU} hS Xp;exact⟨_,rfl,aR hS⟩
  refine Gm λb w hS=>?_;refine Cg (zY p.ck [] c.now) λw hS=>?_;refine Cg (yx p.mp p.wi H c.m) λw hS=>?_;refine Cg (zN p.w.qp p.w.qb kc.cap c.s.out (c.s.L.map ie)) λw hS=>?_;refine Cc (yi p.bp cf.every c.due c.last c.now c.m.at_ _ he hr) ?_;clear hS;rintro _ post gg w hS;obtain⟨rfl,rfl⟩:=DA gg;(try simp only[app]at hS);refine Gp ?_
  refine zt (vs:=eU y) hS Xu rfl rfl (mL hy) λw hS=>?_;have hS:=dA.put c.s hS hi Xp;have hS:=cn.put {c with due:=jE cf.every c.now,last:=tU} hS Xp;exact⟨_,rfl,aR hS⟩
 clear hS;rintro v1 v2 w ⟨b,cT,hS⟩;cases cT;unfold cx.tell;refine Gp ?_;rcases I6 with ⟨h1,rfl,rfl⟩|⟨h1,rfl,rfl,rfl⟩
 ·refine Υ ?_;rw[zzd h1];exact⟨_,⟨rfl,H,bw.le_refl H,rfl⟩,aR hS⟩
 refine Χ ?_;rw[zzb h1];refine zr hS Xh rfl ?_;have cwu:c.s.L.length+c.s.out<kc.cap:=by unfold cx.lg at tQ;omega
 refine Cg (YH p cf kc H {c with due:=jE cf.every c.now,last:=c.m.at_} y ⟨c.m.at_,[],[]⟩ hy (hm h1) cwu) λw hS=>?_;refine Χ ?_;exact⟨[.ob (cn p cf kc H (cx.put {c with due:=jE cf.every c.now,last:=c.m.at_} ⟨c.m.at_,[],[]⟩)),.mem H],⟨rfl,H,bw.le_refl H,rfl⟩,aR hS⟩
end
def LK(p:ig)(cf:dL)(kc:dW)(H:bw)(y:cx × Int)(v:Ε)(post:Β):Prop:=v= Γ y.2/\∃H',H.le H'/\post=[.ob (cn p cf kc H' y.1),.mem H']
section
variable (p:ig) (cf:dL) (kc:dW) (H:bw) (c:cx)
def qy(f:fZ)(eg:c.s.k.plan.length<=1024):SP 106 [cH p.np,agg (iU f)] [.ob (cn p cf kc H c),.mem H] (LK p cf kc H (c.fault f)):=by
 refine Enzz λW F w hS=>?_;apply cK9;delta aI aW b_ cP ai;refine zu hS λxb w hS=>?_;refine Gp ?_;refine Cg (YJ f) λw hS=>?_;unfold cx.fault;refine zy (λh=>?_) (λh=>?_)
 ·rw[zzd h];exact⟨_,⟨rfl,H,bw.le_refl H,rfl⟩,aR hS⟩
 rw[zzb (by rw[h];decide)];obtain⟨dv,hS⟩:=cn.open hS Xr;obtain⟨ov,nv,hi,hS⟩:=dA.open hS Xr;refine Gn λw hS=>?_;refine⟨?_,?_⟩
 ·refine Cg (Yd p.w.kp p.w.gp p.w.dp p.w.lp p.w.pp H c.s.k) λw hS=>?_;refine Gm λb w hS=>?_;have hS:=bF.full (t:=33) (n:=1) (sz:=2) rfl hS;obtain⟨H1,du,hv,hS⟩:=zw (H:=H) (v:=.slice (some ⟨b,0,none⟩) 1 1) hS Xp;have hv:de H1 2 (.slice (some ⟨b,0,none⟩) 1 1) [f].length ([f].map iU).flatten:=hv;have hS:=cZ.gB du hS Xr;have hS:=db.gB du hS Xr;have tJ:=hi.mono du;obtain⟨rv,hr,hS⟩:=cZ.open hS Xr;refine Cc (Z8 H1 p.w.pp c.s.k.plan [f] (.slice (some ⟨b,0,none⟩) 1 1) hv (by simp) eg) ?_;clear hS;rintro _ post ⟨rfl,rfl⟩ w hS;try simp only[app]at hS
  rw[D1];rw[D1]at hS
  by_cases hl:1024<=c.s.k.plan.length
  ·rw[zzb (λh=>by omega)];rw[zzb (λh=>by omega)]at hS
   rw[zzd hl];refine Gp ?_;refine Υ ?_;have hS:=cZ.eX (g:=c.s.k.g) (d:=c.s.k.d) (ts:=c.s.k.ts) (plan:=c.s.k.plan) (aw:=c.s.k.aw) (reqs:=c.s.k.reqs) hS hr Xp;have hS:=dA.eX (p:=p.w) (c:=kc) (k:=c.s.k) (L:=c.s.L) (held:=c.s.held) (n:=c.s.n) hS tJ Xp;have hS:=cn.eX (p:=p) (cf:=cf) (kc:=kc) (H:=H1) (s:=c.s) (k:=c.k) (m:=c.m) (dr:=c.dr) (q:=c.q) (pos:=c.pos) (due:=c.due) (last:=c.last) (dD:=c.dD) (now:=c.now) hS Xp;exact⟨[.ob (cn p cf kc H1 c),.mem H1],⟨rfl,H1,du,rfl⟩,aR hS⟩
  rw[zzd ⟨h,by omega⟩];rw[zzd ⟨h,by omega⟩]at hS
  rw[zzb hl,zza,yyc];refine Gp ?_;refine Χ ?_;have hS:=cZ.eX (g:=c.s.k.g) (d:=c.s.k.d) (ts:=c.s.k.ts) (plan:=c.s.k.plan++[f]) (aw:=c.s.k.aw) (reqs:=c.s.k.reqs) hS hr Xp;have hS:=dA.eX (p:=p.w) (c:=kc) (k:={c.s.k with plan:=c.s.k.plan++[f]}) (L:=c.s.L) (held:=c.s.held) (n:=c.s.n) hS tJ Xp;have hS:=cn.put {c with s:={c.s with k:={c.s.k with plan:=c.s.k.plan++[f]}}} hS Xp;exact⟨[.ob (cn p cf kc H1 {c with s:={c.s with k:={c.s.k with plan:=c.s.k.plan++[f]}}}),.mem H1],⟨rfl,H1,du,rfl⟩,aR hS⟩
 refine Gm λb w hS=>?_;have hS:=bF.full (t:=33) (n:=1) (sz:=2) rfl hS;obtain⟨H1,du,hv,hS⟩:=zw (H:=H) (v:=.slice (some ⟨b,0,none⟩) 1 1) hS Xp;have hv:de H1 2 (.slice (some ⟨b,0,none⟩) 1 1) [f].length ([f].map iU).flatten:=hv;have hS:=cZ.gB du hS Xr;have hS:=db.gB du hS Xr;have tJ:=hi.mono du;refine Cg (Yd p.w.kp p.w.gp p.w.dp p.w.lp p.w.pp H1 c.s.k) λw hS=>?_;obtain⟨rv,hr,hS⟩:=cZ.open hS Xr;refine Cc (Z8 H1 p.w.pp c.s.k.plan [f] (.slice (some ⟨b,0,none⟩) 1 1) hv (by simp) eg) ?_;clear hS;rintro _ post ⟨rfl,rfl⟩ w hS;try simp only[app]at hS
 rw[D1];rw[D1]at hS
 by_cases hl:1024<=c.s.k.plan.length
 ·rw[zzb (λh=>by omega)];rw[zzb (λh=>by omega)]at hS
  rw[zzd hl];refine Gp ?_;refine Υ ?_;have hS:=cZ.eX (g:=c.s.k.g) (d:=c.s.k.d) (ts:=c.s.k.ts) (plan:=c.s.k.plan) (aw:=c.s.k.aw) (reqs:=c.s.k.reqs) hS hr Xp;have hS:=dA.eX (p:=p.w) (c:=kc) (k:=c.s.k) (L:=c.s.L) (held:=c.s.held) (n:=c.s.n) hS tJ Xp;have hS:=cn.eX (p:=p) (cf:=cf) (kc:=kc) (H:=H1) (s:=c.s) (k:=c.k) (m:=c.m) (dr:=c.dr) (q:=c.q) (pos:=c.pos) (due:=c.due) (last:=c.last) (dD:=c.dD) (now:=c.now) hS Xp;exact⟨[.ob (cn p cf kc H1 c),.mem H1],⟨rfl,H1,du,rfl⟩,aR hS⟩
 rw[zzd ⟨h,by omega⟩];rw[zzd ⟨h,by omega⟩]at hS
 rw[zzb hl,zza,yyc];refine Gp ?_;refine Χ ?_;have hS:=cZ.eX (g:=c.s.k.g) (d:=c.s.k.d) (ts:=c.s.k.ts) (plan:=c.s.k.plan++[f]) (aw:=c.s.k.aw) (reqs:=c.s.k.reqs) hS hr Xp;have hS:=dA.eX (p:=p.w) (c:=kc) (k:={c.s.k with plan:=c.s.k.plan++[f]}) (L:=c.s.L) (held:=c.s.held) (n:=c.s.n) hS tJ Xp;have hS:=cn.put {c with s:={c.s with k:={c.s.k with plan:=c.s.k.plan++[f]}}} hS Xp;exact⟨[.ob (cn p cf kc H1 {c with s:={c.s with k:={c.s.k with plan:=c.s.k.plan++[f]}}}),.mem H1],⟨rfl,H1,du,rfl⟩,aR hS⟩
def Aq(p:ig)(cf:dL)(kc:dW)(H:bw)(c:cx)(u:Ε)(v:Ε)(post:Β):Prop:=v=u/\∃H',H.le H'/\post=[.ob (cn p cf kc H' c),.mem H']
def qx(comp:Int)(hm:∀t∈c.q,eG t=true)(lP:c.m.reqs.length<=1000){N:Nat}(hg:ij c.k.g N)(hN:N<=1000000000)(Bm:c.s.L.length+c.s.out<=kc.cap):SP 27 [cH p.np,Γ comp] [.ob (cn p cf kc H c),.mem H] (Aq p cf kc H c (.bool (c.en kc comp))):=by
 refine Enzz λW F w hS=>?_;apply cPi;delta aI bW a_ aW b_ cz ai bR;obtain⟨dv,hS⟩:=cn.open hS Xr;have hS:=dA.take hS Xr;refine Gp ?_;refine Cg (zL p.w.dp c.s.k.d) λw hS=>?_;have hS:=dA.vI c.s c.s.k.d hS Xp;have hS:SL W (.ob (dA p.w kc H c.s)::_) _:=hS;have hS:=cn.put c hS Xp;unfold cx.en;refine yU (λho=>?_) (λho=>?_)
 ·rw[zzd ho];exact⟨_,⟨rfl,H,bw.le_refl H,rfl⟩,aR hS⟩
 rw[zzb (by rw[ho];decide)];refine cA (λh0=>?_) (λh0=>?_)
 ·rw[zzd h0];obtain⟨dv,hS⟩:=cn.open hS Xr;refine Gn λw hS=>?_;refine Cg (zI p.sp p.tp p.w.dp p.sl c.k hg hN) λw hS=>?_;refine za (λh1=>?_) (λh1=>?_)
  ·refine Gp ?_;refine Cg (yw p.rb kc.cap (c.q.map jz)) λw hS=>?_;refine Cg (qt p.rb kc.cap (c.q.map jz)) λw hS=>?_;have hS:=cn.put c hS Xp;refine⟨_,⟨?_,H,bw.le_refl H,rfl⟩,aR hS⟩;rw[zzn];congr 1;rw[yyj];unfold cx.head;omega
  have hS:=cn.put c hS Xp;refine⟨_,⟨?_,H,bw.le_refl H,rfl⟩,aR hS⟩;congr 1;symm;rw[xxc];unfold cx.head;omega
 rw[zzb h0];refine cA (λh1=>?_) (λh1=>?_)
 ·rw[zzd h1];cases hq:c.q with
  | nil=>
   refine Cg (a_z p cf kc H c hq) λw hS=>?_;refine Gm λb w hS=>?_;exact⟨_,⟨rfl,H,bw.le_refl H,rfl⟩,aR hS⟩
  | cons t q=>
   refine Cc (Si p cf kc H c t q hq (hm t (by rw[hq];exact .head _))) ?_;clear hS;rintro _ post ⟨x,H1,du,hx,rfl,rfl⟩ w hS;refine Gm λb w hS=>?_;refine zt (vs:=eV x) hS Xu rfl rfl hx.DX λw hS=>?_;obtain⟨dv,hS⟩:=cn.open hS Xr;obtain⟨ov,nv,hi,hS⟩:=dA.open hS Xr;refine Gn λw hS=>?_;refine Cg (zN p.w.qp p.w.qb kc.cap c.s.out (c.s.L.map ie)) λw hS=>?_;rw[zzn];refine za (λh2=>?_) (λh2=>?_)
   ·have hS:=dA.put c.s hS hi Xp;obtain⟨rv,hr,hS⟩:=db.iff.1 (SL.cD hS (t:=.ob (db p.mp p.wi H1 c.m)::.ob (dA p.w kc H1 c.s)::.pt p.np (oe p cf c.pos dv) 72::pG dv c.dD::.ob (dc p.sp p.tp p.w.dp p.sl c.k)::.pt p.sn (iY p.sp p.mp p.wi p.dg cf.chunk) 234::.ob (fo p.dg c.dr)::.ob (Ring p.rb kc.cap (c.q.map jz))::.ob (gQ p.ck [] c.now)::iS p.bp cf.every c.due c.last::.pt b (eV x) 89::.mem H1::F) Xi);refine Gp ?_;refine yC (vs:=[cH p.wi]) hS Xh rfl (λj v h=>?_) ?_
    ·match j,h with
     | 0,h=>exact h
     | j+1,h=>simp at h
    refine zr hS Xh rfl ?_;refine Cg (ZO p.wi c.m.cI x) λw hS=>?_;have hS:=db.put c.m rv hr hS Xp;have hS:=cn.put c hS Xp;refine⟨_,⟨?_,H1,du,rfl⟩,aR hS⟩;dsimp only;rw[hx.kind,hx.mark,zzo (show 0<c.lg kc by unfold cx.lg;omega),uua]
   have hS:=dA.put c.s hS hi Xp;have hS:=cn.put c hS Xp;refine⟨_,⟨?_,H1,du,rfl⟩,aR hS⟩;rw[zz3 (by unfold cx.lg;omega)];rfl
 rw[zzb h1];refine cA (λh2=>?_) (λh2=>?_)
 ·rw[zzd h2];obtain⟨dv,hS⟩:=cn.open hS Xr;refine Gp ?_;refine Cg (Zv p.sp p.mp p.wi p.sn p.dg cf.chunk H c.m lP) λw hS=>?_;have hS:=cn.put c hS Xp;exact⟨_,⟨rfl,H,bw.le_refl H,rfl⟩,aR hS⟩
 rw[zzb h2];refine cA (λh3=>?_) (λh3=>?_)
 ·rw[zzd h3];obtain⟨dv,hS⟩:=cn.open hS Xr;refine Gn λw hS=>?_;refine Cg (zY p.ck [] c.now) λw hS=>?_;refine Cg (ZX p.w kc H c.s c.now) λw hS=>?_;have hS:=cn.put c hS Xp;exact⟨_,⟨rfl,H,bw.le_refl H,rfl⟩,aR hS⟩
 rw[zzb h3];refine cA (λh4=>?_) (λh4=>?_)
 ·rw[zzd h4];obtain⟨dv,hS⟩:=cn.open hS Xr;obtain⟨ov,nv,hi,hS⟩:=dA.open hS Xr;refine Gn λw hS=>?_;refine Cg (zY p.ck [] c.now) λw hS=>?_;refine Cg (yx p.mp p.wi H c.m) λw hS=>?_;refine Cg (zN p.w.qp p.w.qb kc.cap c.s.out (c.s.L.map ie)) λw hS=>?_;refine Cg (Zm p.bp cf.every c.due c.last c.now c.m.at_ _) λw hS=>?_;have hS:=dA.put c.s hS hi Xp;have hS:=cn.put c hS Xp;refine⟨_,⟨?_,H,bw.le_refl H,rfl⟩,aR hS⟩;rw[zzn];congr 1;rw[yyj];unfold cx.lg;omega
 rw[zzb h4];exact⟨_,⟨rfl,H,bw.le_refl H,rfl⟩,aR hS⟩
end
def fI.Good.Ah{p:fI}{N:Nat}(h:p.Good N)(hN:N<=900000000):p.Ok:=
 ⟨⟨h.reqs,h.t1,by have:=h.rows;omega,h.mg⟩,h.d,h.d.len,⟨N,h.src,hN⟩,h.n,h.row.1,by have:=h.wid;omega⟩
def Aw.okM{n:Nat}{ch:Int}{m:dJ}(h:Aw n ch m)(n1:1<=n)(n8:n<=8):m.Ok:=by
 have ht:=h.nH;have hl:=h.cI.len;exact⟨h.may,⟨by omega,by omega⟩,by omega,⟨h.mg,h.oZ⟩⟩
def cDw(cf:dL)(kc:dW)(c:cx)(comp:Int):(c.pick cf kc comp).2.aw=0:=by
 unfold cx.pick;split
 ·rfl
 split
 ·rfl
 split
 ·unfold cx.read;split<;>rfl
 split
 ·unfold cx.take;split<;>rfl
 split
 ·rfl
 split
 ·rfl
 unfold cx.tell;split<;>rfl
def cIy(p:fI):p.step.1.n=p.n:=by
 unfold fI.step fI.DL fI.we fI.Dc;dsimp only;split
 ·rfl
 split
 ·split
  ·rfl
  unfold fI.DM;split<;>rfl
 split
 ·rfl
 split<;>rfl
def kO.mono{W w:Ζ}{l:Β}{p:s_}{c:dW}{H H':bw}{s:fA}(hh:H.le H')(h:SL W (.ob (kO p c H s)::l) w):SL W (.ob (kO p c H' s)::l) w:=by
 unfold kO at *
 simp only[SL.ex,SL.fact,zzv,zzq]at *
 obtain⟨x,⟨hi,hr⟩,h⟩:=h;exact⟨x,⟨hi.mono hh,hr.mono hh⟩,h⟩
def kO.gB{W w:Ζ}{l F:Β}{p:s_}{c:dW}{H H':bw}{s:fA}(hh:H.le H')(hS:SL W l w)(r:fq (.ob (kO p c H s)) l F):SL W (.ob (kO p c H' s)::F) w:=kO.mono hh (hS.perm r.perm)
section
variable (p:ig) (cf:dL) (kc:dW) (H:bw) (c:cx)
def Qv{n j:Nat}{AL:List cM}(h:fg cf kc n j AL c)(hc:CC cf kc n)(hj:j<=190)(comp:Int):SP 44 [cH p.np,Γ comp] [.ob (cn p cf kc H c),.mem H] (B5 p cf kc H (c.pick cf kc comp)):=by
 refine Enzz λW F w hS=>?_;apply cR6;delta aI a_ b_ cP AG ai;have hn:=hc.n1;have Dk:=hc.n8;have h':=h;obtain⟨tr,xs,hd,RS,RK,hb,ha⟩:=h';have xQ:=tX j;have sK:=hb.mx.okM hn Dk;have Bm:=ha.kZ.room;unfold cx.pick;refine cA (λh0=>?_) (λh0=>?_)
 ·rw[zzd (.inl h0)];exact⟨_,⟨rfl,H,bw.le_refl H,rfl⟩,aR hS⟩
 refine cA (λh1=>?_) (λh1=>?_)
 ·rw[zzd (.inr (by omega))];exact⟨_,⟨rfl,H,bw.le_refl H,rfl⟩,aR hS⟩
 rw[zzb (by omega)];refine Cc (qx p cf kc H c comp hb.q (by have:=sK.reqs.1;omega) hb.sg (by omega) (by omega)) ?_;clear hS;rintro _ post ⟨rfl,H1,du,rfl⟩ w hS;(try simp only[app]at hS);refine Gp ?_
 refine zy (λhe=>?_) (λhe=>?_)
 ·rw[zzd he];exact⟨_,⟨rfl,H1,du,rfl⟩,aR hS⟩
 rw[zzb (by rw[he];decide)];refine cA (λh2=>?_) (λh2=>?_)
 ·rw[zzd h2];subst h2;obtain⟨t,e1,e2,e3,_⟩:=h.read he;have hq:c.q.length<kc.cap:=by
   have ho:=w_ he;unfold cx.en at he;rw[zzb (by rw[ho];decide),zzd rfl,zzw]at he
   exact he.2
  rw[e3];refine Cc (Qw p cf kc H1 c t e1 e2 hq hb.pos hb.sg (by omega)) ?_;clear hS;rintro _ post ⟨rfl,H2,dF,rfl⟩ w hS;(try simp only[app]at hS);refine Gp ?_
  exact⟨_,⟨rfl,H2,bw.le_trans du dF,rfl⟩,aR hS⟩
 rw[zzb h2];refine cA (λh3=>?_) (λh3=>?_)
 ·rw[zzd h3];subst h3;obtain⟨t,q,m',x,e1,e2,e3,e4,e5,e6,e7,_⟩:=h.take hc he;rw[e7];refine Cc (Qx p cf kc H1 c t q m' x e1 e2 e3 e4 e5 sK (by have:=hb.mx.cI.id;omega)) ?_;clear hS;rintro _ post ⟨rfl,H2,dF,rfl⟩ w hS;(try simp only[app]at hS);refine Gp ?_
  exact⟨_,⟨rfl,H2,bw.le_trans du dF,rfl⟩,aR hS⟩
 rw[zzb h3];refine cA (λh4=>?_) (λh4=>?_)
 ·rw[zzd h4];obtain⟨dv,hS⟩:=cn.open hS Xr;have hS:=dA.take hS Xr;refine Gp ?_;have ed:=hb.ops;have hS:SL W (.ob (cw p.w.dp (c.l4 cf).k.d)::.ob (kO p.w kc H1 c.s)::.pt p.np (oe p cf c.pos dv) 72::pG dv c.dD::.ob (dc p.sp p.tp p.w.dp p.sl (c.l4 cf).k)::.ob (db p.mp p.wi H1 (c.l4 cf).m)::.pt p.sn (iY p.sp p.mp p.wi p.dg (c.l4 cf).n) 234::.ob (fo p.dg (c.l4 cf).d)::.ob (Ring p.rb kc.cap (c.q.map jz))::.ob (gQ p.ck [] c.now)::iS p.bp cf.every c.due c.last::.mem H1::F) w:=hS;refine Cc (q8 p.sp p.tp p.w.dp p.sl p.mp p.wi p.sn p.dg H1 (c.l4 cf) ((hb.TE hc).Ah (by omega)) (by show c.s.k.d.ops<=90000;omega)) ?_;clear hS;rintro _ post ⟨H2,dF,rfl,rfl⟩ w hS;try simp only[app]at hS
  have Bw:=cIy (c.l4 cf);have Dz:c.snap cf=(c.GS (c.l4 cf).step.1,⟨(c.l4 cf).step.2.2,0,(c.l4 cf).step.2.1⟩):=rfl;rw[Dz];generalize (c.l4 cf).step=y at *
  obtain⟨⟨yk,ym,yd,yn⟩,th,err⟩:=y;dsimp only at hS Bw ⊢;have Bw:yn=cf.chunk:=Bw;subst Bw;have hS:=kO.gB dF hS Xr;have hS:=dA.vI c.s yk.d hS Xp;refine Gp ?_;have hS:=cn.put {c with s:={c.s with k:={c.s.k with d:=yk.d}},k:=yk,m:=ym,dr:=yd} hS Xp;have hS:SL W (.ob (cn p cf kc H2 (c.GS ⟨yk,ym,yd,cf.chunk⟩))::.mem H2::F) w:=hS;exact⟨[.ob (cn p cf kc H2 (c.GS ⟨yk,ym,yd,cf.chunk⟩)),.mem H2],⟨rfl,H2,bw.le_trans du dF,rfl⟩,aR hS⟩
 rw[zzb h4];refine cA (λh5=>?_) (λh5=>?_)
 ·rw[zzd h5];refine Cc (qE p cf kc H1 c hb.wt (by omega) (hb.VN hj Dk) hb.dl) ?_;clear hS;rintro _ post ⟨rfl,H2,dF,rfl⟩ w hS;(try simp only[app]at hS);refine Gp ?_
  exact⟨_,⟨rfl,H2,bw.le_trans du dF,rfl⟩,aR hS⟩
 rw[zzb h5];have h6:comp=4:=by omega
 subst h6;obtain⟨_,I6⟩:=h.tell hc he;have tQ:c.due<=c.now/\(c.m.at_<=c.last\/0<c.lg kc):=by
  have ho:=w_ he;unfold cx.en at he;rw[zzb (by rw[ho];decide),zzb (by decide),zzb (by decide),zzb (by decide),zzb (by decide),zzd rfl,zzw]at he
  exact he
 refine Cc (Qy p cf kc H1 c ⟨hc.e1,hc.e2⟩ tQ (by omega) (λhl=>by rcases I6 with ⟨hh,_⟩|⟨_,_,hh,_⟩;exact absurd hh hl;exact hh)) ?_;clear hS;rintro _ post ⟨rfl,H2,dF,rfl⟩ w hS;(try simp only[app]at hS);refine Gp ?_
 exact⟨_,⟨rfl,H2,bw.le_trans du dF,rfl⟩,aR hS⟩
def bwq{n j:Nat}{AL:List cM}(h:fg cf kc n j AL c)(hc:CC cf kc n)(hj:j<=190)(x:mH)(s:g_)(hx:lK H x s)(hk:s.kind≠8):SP 45 [cH p.np,agg (ji x)] [.ob (cn p cf kc H c),.mem H] (LK p cf kc H (c.other cf s)):=by
 refine Enzz λW F w hS=>?_;apply ai6;delta aI bW a_ aW b_ ai;refine zu hS λxb w hS=>?_;obtain⟨tr,xs,hd,RS,RK,hb,ha⟩:=h;have xQ:=tX j;have mU:=hx.kind;have oO:=hx.n;have JR:=hx.ft;unfold ji at hS;rw[mU,oO,JR]at hS
 unfold cx.other;refine cA (λh3=>?_) (λh3=>?_)
 ·rw[zzd h3];refine Gp ?_;refine yC (vs:=iU s.ft) hS Xh rfl (λj v h=>?_) ?_
  ·match j,h with
   | 0,h=>exact h
   | 1,h=>exact h
   | j+2,h=>simp[iU]at h
  refine Cc (qy p cf kc H c s.ft hb.pl) ?_;clear hS;rintro _ post ⟨rfl,H1,du,rfl⟩ w hS;try simp only[app]at hS
  exact⟨_,⟨rfl,H1,du,rfl⟩,aR hS⟩
 rw[zzb h3];refine cA (λh4=>?_) (λh4=>?_)
 ·rw[zzd h4];refine Gp ?_;refine Cc (Qz p cf kc H c s.n hb.now) ?_;clear hS;rintro _ post ⟨rfl,rfl⟩ w hS;try simp only[app]at hS
  exact⟨_,⟨rfl,H,bw.le_refl H,rfl⟩,aR hS⟩
 rw[zzb h4];refine cA (λh5=>?_) (λh5=>?_)
 ·rw[zzd h5];refine Gp ?_;refine Cc (Qq p cf kc H c s.n hb.dl) ?_;clear hS;rintro _ post ⟨rfl,rfl⟩ w hS;try simp only[app]at hS
  exact⟨_,⟨rfl,H,bw.le_refl H,rfl⟩,aR hS⟩
 rw[zzb h5];refine cA (λh6=>?_) (λh6=>?_)
 ·rw[zzd h6];obtain⟨dv,hS⟩:=cn.open hS Xr;obtain⟨ov,nv,hi,hS⟩:=dA.open hS Xr;refine Gn λw hS=>?_;refine Cg (yM p.w.kp p.w.gp p.w.dp p.w.lp p.w.pp H c.s.k) λw hS=>?_;have hS:=dA.put c.s hS hi Xp;have hS:=dA.take hS Xr;have hS:SL W (.ob (cw p.w.dp c.src.d)::.ob (kO p.w kc H c.s)::.pt p.np (oe p cf c.pos dv) 72::pG dv c.dD::.ob (dc p.sp p.tp p.w.dp p.sl c.src)::_) w:=hS;have ed:=hb.ops;have oK:=hb.al;have Bo:c.src.g.bI.length<=AL.length+1:=by
   obtain⟨I,d0,f,lo,m,hL⟩:=ha.kv.live;exact hL.bI
  refine Cc (cI3 p.sp p.tp p.w.dp p.sl c.src H c.s.k.aw (hb.D' hc.n1 hc.n8) (by omega) (by show c.s.k.d.ops+_<=90000;omega)) ?_;clear hS;rintro _ post ⟨rfl,H1,du,rfl⟩ w hS;try simp only[app]at hS
  have uY:c.trim=(c.j8 (c.src.iR c.s.k.aw).1,(c.src.iR c.s.k.aw).2):=rfl;rw[uY];generalize c.src.iR c.s.k.aw=y at *
  obtain⟨k',e⟩:=y;dsimp only at hS ⊢;have hS:=kO.gB du hS Xr;have hS:=db.gB du hS Xr;have hS:=dA.vI c.s k'.d hS Xp;have hS:=cn.put {c with s:={c.s with k:={c.s.k with d:=k'.d}},k:=k'} hS Xp;have hS:SL W (.ob (cn p cf kc H1 (c.j8 k'))::_) w:=hS;exact⟨[.ob (cn p cf kc H1 (c.j8 k')),.mem H1],⟨rfl,H1,du,rfl⟩,aR hS⟩
 rw[zzb h6];refine cA (λh7=>?_) (λh7=>?_)
 ·rw[zzd h7];refine Gp ?_;refine Cc (a_p p cf kc H c s.n) ?_;clear hS;rintro _ post ⟨rfl,rfl⟩ w hS;try simp only[app]at hS
  exact⟨_,⟨rfl,H,bw.le_refl H,rfl⟩,aR hS⟩
 rw[zzb h7];refine Gp ?_;refine za (λh8=>absurd h8 hk) (λh8=>?_);rw[zzb h8];exact⟨_,⟨rfl,H,bw.le_refl H,rfl⟩,aR hS⟩
def YE{n j:Nat}{AL:List cM}(h:CS cf kc n j AL c)(hc:CC cf kc n)(hj:j<=190)(H2:bw)(x:mH)(s:g_)(hx:lK H2 x s)(hl:s.l.length<=140737488351232)(hk:s.kind=1):SP 10 [cH p.np,agg (ji x)] [.ob (cn p cf kc H c),.mem H2] (cE (agg (tj (c.h_ cf kc s).2)) [.ob (cn p cf kc H (c.h_ cf kc s).1),.mem H2]):=by
 refine Enzz λW F w hS=>?_;apply Ll;delta aI bW a_ b_ ai;have mU:=hx.kind;refine zu hS λxb w hS=>?_;refine Gb λzb w hS=>?_;unfold ji at hS;rw[mU,hk]at hS
 refine⟨λus w=>us=[]/\c.s.k.d.off=false/\SL W (.pt zb [Γ 0,Γ 0,Γ 0] 44::.pt xb [Γ 1,Γ x.n,x.sv,x.cv,Γ x.ft.kind,Γ x.ft.keep,x.kv] 36::.ob (cn p cf kc H c)::.mem H2::F) w,?_,?_⟩
 ·obtain⟨dv,hS⟩:=cn.open hS Xr;have hS:=dA.take hS Xr;refine Gp ?_;refine Cg (zL p.w.dp c.s.k.d) λw hS=>?_;have hS:=dA.vI c.s c.s.k.d hS Xp;have hS:SL W (.ob (dA p.w kc H c.s)::_) _:=hS;have hS:=cn.put c hS Xp;refine yU (λho=>?_) (λho=>?_)
  ·refine Gp ?_;refine za (λ_=>?_) (λh=>absurd (show (1:Int)≠8 by decide) h);refine Gn λw hS=>?_;unfold cx.h_;rw[zzd ⟨ho,by omega⟩];exact⟨[.ob (cn p cf kc H c),.mem H2],⟨rfl,rfl⟩,aR hS⟩
  exact⟨rfl,ho,aR hS⟩
 clear hS;rintro w ⟨-,ho,hS⟩;have hA:fg cf kc n j AL c:=by
  rcases h with h|h
  ·exact h
  rw[h.1]at ho;cases ho
 obtain⟨tr,xs,hd,RS,RK,hb,ha⟩:=hA;have xQ:=tX j;have Ba:c.h_ cf kc s=c.pP s:=by
  unfold cx.h_;rw[zzb (λhh=>by rw[ho]at hh;cases hh.1),zzd hk]
 rw[Ba];refine Gp ?_;refine za (λh1=>?_) (λh1=>absurd rfl h1);obtain⟨dv,hS⟩:=cn.open hS Xr;have hS:=dA.take hS Xr;refine Gn λw hS=>?_;have hS:SL W (.ob (cw p.w.dp c.src.d)::.ob (kO p.w kc H c.s)::.pt p.np (oe p cf c.pos dv) 72::pG dv c.dD::.ob (dc p.sp p.tp p.w.dp p.sl c.src)::_) w:=hS;have ed:=hb.ops;refine Cc (qj p.sp p.tp p.w.dp p.sl c.src H2 x.sv x.cv s.sg s.l hx.sv hx.cv hl (hb.D' hc.n1 hc.n8) (by omega) (by show c.s.k.d.ops<=90000;omega)) ?_;clear hS;rintro _ post ⟨rfl,rfl⟩ w hS;try simp only[app]at hS
 have uY:c.pP s=(c.j8 (c.src.oD s.sg s.l).1,⟨(c.src.oD s.sg s.l).2.2,(c.src.oD s.sg s.l).2.1,0⟩):=rfl;rw[uY];generalize c.src.oD s.sg s.l=y at *
 obtain⟨k',aw,e⟩:=y;dsimp only at hS ⊢;have hS:=dA.vI c.s k'.d hS Xp;have hS:=cn.put {c with s:={c.s with k:={c.s.k with d:=k'.d}},k:=k'} hS Xp;have hS:SL W (.ob (cn p cf kc H (c.j8 k'))::_) w:=hS;refine Gn λw hS=>?_;exact⟨[.ob (cn p cf kc H (c.j8 k')),.mem H2],⟨rfl,rfl⟩,aR hS⟩
def aIi(p:ig)(cf:dL)(kc:dW)(H:bw)(y:cx × pJ)(v:Ε)(post:Β):Prop:=v=agg (tj y.2)/\∃H',H.le H'/\post=[.ob (cn p cf kc H' y.1),.mem H']
def qw{n j:Nat}{AL:List cM}(h:CS cf kc n j AL c)(hc:CC cf kc n)(hj:j<=190)(x:mH)(s:g_)(hx:lK H x s)(hl:s.l.length<=140737488351232)(hk:s.kind≠8):SP 10 [cH p.np,agg (ji x)] [.ob (cn p cf kc H c),.mem H] (aIi p cf kc H (c.h_ cf kc s)):=by
 by_cases jv:s.kind=1
 ·refine (YE p cf kc H c h hc hj H x s hx hl jv).mono λv post hq=>?_;obtain⟨rfl,rfl⟩:=hq;exact⟨rfl,H,bw.le_refl H,rfl⟩
 refine Enzz λW F w hS=>?_;apply Ll;delta aI bW a_ b_ ai;have mU:=hx.kind;have oO:=hx.n;have JR:=hx.ft;refine zu hS λxb w hS=>?_;refine Gb λzb w hS=>?_;unfold ji at hS;rw[mU,oO,JR]at hS
 refine⟨λus w=>us=[]/\c.s.k.d.off=false/\SL W (.pt zb [Γ 0,Γ 0,Γ 0] 44::.pt xb [Γ s.kind,Γ s.n,x.sv,x.cv,Γ s.ft.kind,Γ s.ft.keep,x.kv] 36::.ob (cn p cf kc H c)::.mem H::F) w,?_,?_⟩
 ·obtain⟨dv,hS⟩:=cn.open hS Xr;have hS:=dA.take hS Xr;refine Gp ?_;refine Cg (zL p.w.dp c.s.k.d) λw hS=>?_;have hS:=dA.vI c.s c.s.k.d hS Xp;have hS:SL W (.ob (dA p.w kc H c.s)::_) _:=hS;have hS:=cn.put c hS Xp;refine yU (λho=>?_) (λho=>?_)
  ·refine Gp ?_;refine za (λ_=>?_) (λh=>absurd hk h);refine Gn λw hS=>?_;unfold cx.h_;rw[zzd ⟨ho,hk⟩];exact⟨_,⟨rfl,H,bw.le_refl H,rfl⟩,aR hS⟩
  exact⟨rfl,ho,aR hS⟩
 clear hS;rintro w ⟨-,ho,hS⟩;have hA:fg cf kc n j AL c:=by
  rcases h with h|h
  ·exact h
  rw[h.1]at ho;cases ho
 have jj:=hA;obtain⟨tr,xs,hd,RS,RK,hb,ha⟩:=jj;have xQ:=tX j;have Ba:c.h_ cf kc s=if s.kind=1 then c.pP s else if s.kind=2 then c.pick cf kc s.n else ((c.other cf s).1,⟨(c.other cf s).2,0,0⟩):=by
  unfold cx.h_;rw[zzb (λhh=>by rw[ho]at hh;cases hh.1)]
 rw[Ba];refine Gp ?_;refine za (λh1=>absurd h1 jv) (λh1=>?_);rw[zzb h1];refine cA (λh2=>?_) (λh2=>?_)
 ·rw[zzd h2];refine Gp ?_;refine Cc (Qv p cf kc H c hA hc hj s.n) ?_;clear hS;rintro _ post ⟨rfl,H1,du,rfl⟩ w hS;refine Gn λw hS=>?_;exact⟨_,⟨by unfold tj;rw[cDw],H1,du,rfl⟩,aR hS⟩
 rw[zzb h2];have oN:lK H ⟨s.kind,s.n,x.sv,x.cv,s.ft,x.kv⟩ s:=⟨rfl,rfl,rfl,hx.sv,hx.cv,hx.kv⟩;refine Gp ?_;refine Cc (bwq p cf kc H c hA hc hj ⟨s.kind,s.n,x.sv,x.cv,s.ft,x.kv⟩ s oN hk) ?_;clear hS;rintro _ post ⟨rfl,H1,du,rfl⟩ w hS;refine Gn λw hS=>?_;exact⟨_,⟨rfl,H1,du,rfl⟩,aR hS⟩
end
abbrev ve(cf:dL)(a0 a1 a2 a3 a4 a5 a6 a7 a8 a9 uj y z:Ε):Ξ:=[a0,a1,a2,a3,a4,a5,a6,a7,a8,a9,uj,Γ cf.tables,Γ cf.late,Γ cf.size,Γ cf.queue,Γ cf.chunk,Γ cf.batch,Γ cf.base,Γ cf.cN,Γ cf.sO,Γ cf.every,y,z]
def a_y{cf:dL}{a0 a1 a2 a3 a4 a5 a6 a7 a8 a9 uj y z:Ε}:∀j v,(ml cf)[j]?=some v->(ve cf a0 a1 a2 a3 a4 a5 a6 a7 a8 a9 uj y z)[11+j]?=some v
 | 0,v,h=>h
 | 1,v,h=>h
 | 2,v,h=>h
 | 3,v,h=>h
 | 4,v,h=>h
 | 5,v,h=>h
 | 6,v,h=>h
 | 7,v,h=>h
 | 8,v,h=>h
 | 9,v,h=>h
 | j+10,v,h=>by simp[ml]at h
def z6:∀i,i<6->([Γ 0,Γ 0,Γ 0,Γ 0,Γ 0,Γ 0]:Ξ)[i]?=some (Γ 0)
 | 0,_=>rfl
 | 1,_=>rfl
 | 2,_=>rfl
 | 3,_=>rfl
 | 4,_=>rfl
 | 5,_=>rfl
section
variable (np dp ck sp tp sl kp gp lp pp:Nat) (cf:dL) (kc:dW) (H:bw) (k1:cW) (k2:cV) (now:Int)
def qC{n:Nat}(hc:CC cf kc n)(a0 a1 a2 a3 a4 a5 a6 a7 a8 a9 uj:Ε)(Dl:0<=now/\now<=1125899906842624)(hl:0<=k2.aw/\k2.aw<=1099511627776)(Dj:gm k2.reqs)(lP:∀r∈k2.reqs,r.table<(n:Int)/\r.at_<=k2.aw):SP 94 [cH np,cH sp,cH kp] [.pt np (ve cf a0 a1 a2 a3 a4 a5 a6 a7 a8 a9 uj (cH dp) (cH ck)) 72,.ob (dc sp tp dp sl k1),.ob (cZ kp gp dp lp pp H k2),.ob (gQ ck [] now),.mem H]
  (λv post=>v= Γ 0/\∃(p:ig) (H':bw),H.le H'/\p.np=np/\p.w.dp=dp/\p.ck=ck/\post=[.ob (cn p cf kc H' (cx.start cf k1 k2 now)),.mem H']):=by
 refine Enzz λW F w hS=>?_;apply cUi;delta aI bW a_ aW b_ ai cY bR iA;have fK:¬DT cf.tables cf.late cf.chunk k2.aw k2.reqs:=by
  have h1:=hc.tables;have h2:=hc.n1;have h3:=hc.n8;have h4:=hc.VQ;have h5:=hc.VP;have h6:=hc.c1;have h7:=hc.wR;rintro (h|h|h|h|h|h|h|h|h|⟨r,hr,h⟩)
  ·omega
  ·omega
  ·omega
  ·rw[h1,zzz]at h;omega
  ·omega
  ·omega
  ·omega
  ·omega
  ·exact h Dj
  have:=lP r hr;omega
 refine Gp ?_;refine yC (o:=11) (vs:=ml cf) hS Xh rfl a_y ?_;refine Gm λb w hS=>?_;refine Cg (yM kp gp dp lp pp H k2) λw hS=>?_;refine Gm λb w hS=>?_;refine Gm λb w hS=>?_;rw[hc.queue];refine Cc (Wk kc.cap hc.q1 hc.D2) ?_;clear hS;rintro _ post ⟨rb,rfl,rfl⟩ w hS;refine Gn λw hS=>?_;refine yB (j:=0) (by decide) ?_;refine Gn λw hS=>?_;rw[hc.queue];refine Cc (bWq kc.cap hc.q1 hc.D2) ?_;clear hS;rintro _ post ⟨qp,qb,rfl,rfl⟩ w hS;refine Gn λw hS=>?_;refine yB (j:=1) (by decide) ?_;refine Gn λw hS=>?_;rw[hc.base,hc.cm,hc.VA];refine Cc (cKd kc.b kc.m kc.j) ?_;clear hS;rintro _ post hq w hS;rw[zzd hc.may]at hq
 obtain⟨rp,rfl,rfl⟩:=hq;refine Gn λw hS=>?_;refine yB (j:=2) (by decide) ?_;refine Gn λw hS=>?_;refine Cg (zY ck [] now) λw hS=>?_;refine Cg (yM kp gp dp lp pp H k2) λw hS=>?_;refine Cc (aW0 cf.every now k2.aw ⟨hc.e1,hc.e2⟩ Dl hl) ?_;clear hS;rintro _ post ⟨bp,rfl,rfl⟩ w hS;refine Gn λw hS=>?_;refine yB (j:=3) (by decide) ?_;refine Gn λw hS=>?_;refine Cg (yM kp gp dp lp pp H k2) λw hS=>?_;refine Cc (QM kp gp dp lp pp H k2 Dj.1) ?_;clear hS;rintro rv post ⟨H1,du,UU,rfl⟩ w hS;(try simp only[app]at hS);refine Gp ?_
 refine Cc (cBt H1 cf.tables cf.late cf.chunk k2.aw rv k2.reqs UU (by have:=Dj.1;omega)) ?_;clear hS;rintro _ post hq w hS;rcases hq with ⟨hb,_⟩|⟨_,mp,wi,H2,dF,rfl,rfl⟩
 ·exact absurd hb fK
 refine Gn λw hS=>?_;refine yB (j:=4) (by decide) ?_;refine Gn λw hS=>?_;rw[hc.batch];refine Cc (cU2 kp qp rp kc.cN hc.b1 hc.HQ) ?_;clear hS;rintro _ post ⟨wp,rfl,rfl⟩ w hS;refine Gn λw hS=>?_;refine yB (j:=5) (by decide) ?_;refine Gn λw hS=>?_;refine⟨λus w'=>∃i:Nat,us=[Γ i]/\i<=6/\w'=w,λus _=>match us with|[.int _ i]=>(6-i).toNat|_=>0,⟨0,rfl,by decide,rfl⟩,?_⟩;rintro v96 w' ⟨i,cT,hi,rfl⟩;cases cT;refine cA (λh=>?_) (λh=>?_)
 ·have Ul:i<6:=by omega
  refine Xt underlying249 (λw=>by kernel_rfl) (λw=>by kernel_rfl) Ul (z6 i Ul) ?_;refine Gp ?_;refine Χ ?_;refine Gp ?_;exact⟨⟨i+1,rfl,by omega,rfl⟩,by dsimp only;omega⟩
 refine Gp ?_;refine Cc (cIk sp mp wi H2 ⟨cf.tables,cf.late,k2.aw,k2.reqs,nf cf.chunk⟩ cf.chunk) ?_;clear hS;rintro _ post hq w hS;rcases hq with ⟨hb,_⟩|⟨_,sn,dg,rfl,rfl⟩
 ·exact absurd ⟨hc.c1,hc.wR⟩ hb
 (try simp only[app]at hS);refine Gp ?_
 refine Υ ?_;refine Gn λw hS=>?_;refine ZT (o:=0) (vs:=[cH kp,cH sp,cH rb,Γ k2.aw,cH mp,cH sn,cH qp,cH rp,cH wp,cH bp,Θ]) hS Xu rfl (by show 11<=23;decide) (by simp[Value.oneCell']) λw hS=>?_;have hS:=cZ.gB dF hS Xr;simp only[ve,List.take,List.drop,zzv,zzq,yya]at hS;have hS:SL W (.pt wp (nL kp qp rp kc.cN 0 Θ Θ 0) 242::.ob (cZ kp gp dp lp pp H2 k2)::.ob (Gate qp qb kc.cap 0 [])::jV rp kc.b kc.m kc.j 0 0::.pt np (ve cf (cH kp) (cH sp) (cH rb) (Γ k2.aw) (cH mp) (cH sn) (cH qp) (cH rp) (cH wp) (cH bp) Θ (cH dp) (cH ck)) 72::.ob (dc sp tp dp sl k1)::.ob (db mp wi H2 ⟨cf.tables,cf.late,k2.aw,k2.reqs,nf cf.chunk⟩)::.pt sn (iY sp mp wi dg cf.chunk) 234::.ob (fo dg w9)::.ob (Ring rb kc.cap [])::.ob (gQ ck [] now)::iS bp cf.every (jE cf.every now) k2.aw::.mem H2::F) w:=aR hS;have vP:ik H2 ⟨n_.aw,Θ,Θ⟩ n_:=⟨rfl,de.nil _ _,de.nil _ _⟩;have hS:=(dA.iff (p:=⟨wp,kp,gp,dp,lp,pp,qp,qb,rp⟩) (c:=kc) (H:=H2) (s:=⟨k2,[],0,0,0,n_,0⟩)).2 ⟨Θ,Θ,vP,hS⟩;have hS:=dB.ri (t:=2) (sz:=1) (a:=none) hS;have hS:SL W (.pt np (ve cf (cH kp) (cH sp) (cH rb) (Γ k2.aw) (cH mp) (cH sn) (cH qp) (cH rp) (cH wp) (cH bp) Θ (cH dp) (cH ck)) 72::.ob (dB Θ 2 1 0 [])::.ob (dA ⟨wp,kp,gp,dp,lp,pp,qp,qb,rp⟩ kc H2 ⟨k2,[],0,0,0,n_,0⟩)::.ob (dc sp tp dp sl k1)::.ob (db mp wi H2 ⟨cf.tables,cf.late,k2.aw,k2.reqs,nf cf.chunk⟩)::.pt sn (iY sp mp wi dg cf.chunk) 234::.ob (fo dg w9)::.ob (Ring rb kc.cap [])::.ob (gQ ck [] now)::iS bp cf.every (jE cf.every now) k2.aw::.mem H2::F) w:=aR hS;have hS:=(cn.iff (p:=⟨np,⟨wp,kp,gp,dp,lp,pp,qp,qb,rp⟩,sp,tp,sl,rb,mp,wi,sn,dg,bp,ck⟩) (cf:=cf) (kc:=kc) (H:=H2) (c:=cx.start cf k1 k2 now)).2 ⟨Θ,hS⟩;exact⟨[.ob (cn ⟨np,⟨wp,kp,gp,dp,lp,pp,qp,qb,rp⟩,sp,tp,sl,rb,mp,wi,sn,dg,bp,ck⟩ cf kc H2 (cx.start cf k1 k2 now)),.mem H2],⟨rfl,⟨np,⟨wp,kp,gp,dp,lp,pp,qp,qb,rp⟩,sp,tp,sl,rb,mp,wi,sn,dg,bp,ck⟩,H2,bw.le_trans du dF,rfl,rfl,rfl,rfl⟩,aR hS⟩
def aIg(np dp ck:Nat)(cf:dL)(kc:dW)(H:bw)(c:cx)(v:Ε)(post:Β):Prop:=v= Γ 0/\∃(p:ig) (H':bw),H.le H'/\p.np=np/\p.w.dp=dp/\p.ck=ck/\post=[.ob (cn p cf kc H' c),.mem H']
def Z4{n:Nat}(hc:CC cf kc n)(d:DS){N:Nat}(e1:lD d cf.tables cf.size=(k1.d,.ok k1))(e2:kI k1.d cf.tables cf.size=(k2.d,.ok k2))(cL:d.Ok N)(cwj:k1.d.Ok N)(hN:N<=100000000)(ed:d.ops<=90000)(UJ:k1.d.ops<=90000)(nC:∀d' g,ff d 16 cf.size=(d',.ok g)->(cX g.bI).length<=50000)(xP:∀d' g,ff k1.d 8192 cf.size=(d',.ok g)->(cX g.bI).length<=200)
  (a0 a1 a2 a3 a4 a5 a6 a7 a8 a9 uj:Ε) (Dl:0<=now/\now<=1125899906842624) (hl:0<=k2.aw/\k2.aw<=1099511627776) (Dj:gm k2.reqs) (lP:∀r∈k2.reqs,r.table<(n:Int)/\r.at_<=k2.aw):SP 37 [cH np] [.pt np (ve cf a0 a1 a2 a3 a4 a5 a6 a7 a8 a9 uj (cH dp) (cH ck)) 72,.ob (cw dp d),.ob (gQ ck [] now),.mem H] (aIg np dp ck cf kc H (cx.start cf k1 k2 now)):=by
 refine Enzz λW F w hS=>?_;apply cRs;delta aI bW a_ b_ ai;refine Gn λw hS=>?_;refine Cc (Q9 H dp d cf.tables cf.size cL (by omega) ed nC) ?_;clear hS;rintro r post hq w hS;unfold He at hq;rw[e1]at hq
 obtain⟨sp,tp,sl,H1,du,rfl,rfl⟩:=hq;(try simp only[app]at hS);refine Gp ?_
 refine Χ ?_;refine Gn λw hS=>?_;refine Cc (QJ H1 dp k1.d cf.tables cf.size cwj hN UJ xP) ?_;clear hS;rintro r post hq w hS;unfold LJ at hq;rw[e2]at hq
 obtain⟨kp,gp,lp,pp,H2,dF,rfl,rfl⟩:=hq;(try simp only[app]at hS);refine Gp ?_
 refine Χ ?_;refine Cc (qC np dp ck sp tp sl kp gp lp pp cf kc H2 k1 k2 now hc a0 a1 a2 a3 a4 a5 a6 a7 a8 a9 uj Dl hl Dj lP) ?_;clear hS;rintro _ post ⟨rfl,p,H3,fB,nZ,p',vY,rfl⟩ w hS;try simp only[app]at hS
 exact⟨_,⟨rfl,p,H3,bw.le_trans du (bw.le_trans dF fB),nZ,p',vY,rfl⟩,aR hS⟩
end
section
variable (p:ig) (cf:dL) (kc:dW) (H:bw) (c:cx)
def LG(H:bw)(X:Μ)(v:Ε)(l:Ω):Prop:=∀{W w:Ζ} {r:Β},SL W (.mem H::X::r) w->∃H',de H' 1 v l.length (l.map (Value.int .i64))/\SL W (.mem H'::r) w/\∀{W' w':Ζ} {r':Β},SL W' (.mem H'::r') w'->SL W' (.mem H::X::r') w'
def qv{n j:Nat}{AL:List cM}(h:CS cf kc n j AL c)(hc:CC cf kc n)(hj:j<=190)(X:Μ)(x:mH)(s:g_)(mU:x.kind=s.kind)(hx:LG H X x.kv s.keep)(hk:s.kind=8):SP 45 [cH p.np,agg (ji x)] [.ob (cn p cf kc H c),X,.mem H] (λv post=>v= Γ 0/\∃(q:ig) (H':bw),H.le H'/\q.np=p.np/\q.w.dp=p.w.dp/\q.ck=p.ck/\post=[.ob (cn q cf kc H' (c.eO cf s.keep)),X,.mem H']):=by
 refine Enzz λW F w hS=>?_;apply ai6;delta aI bW a_ aW b_ ai;refine zu hS λxb w hS=>?_;obtain⟨k1,k2,fx,hK⟩:=h.eO hc hj s.keep;obtain⟨xs0,tG⟩:=h.mJ;obtain⟨tr,xs,hd,RS,RK,hb,ha⟩:=hK.st;unfold ji at hS;rw[mU,hk]at hS
 refine Gp ?_;refine za (λh3=>absurd h3 (by decide)) (λh3=>?_);refine Gp ?_;refine za (λh3=>absurd h3 (by decide)) (λh3=>?_);refine Gp ?_;refine za (λh3=>absurd h3 (by decide)) (λh3=>?_);refine Gp ?_;refine za (λh3=>absurd h3 (by decide)) (λh3=>?_);refine Gp ?_;refine za (λh3=>absurd h3 (by decide)) (λh3=>?_);refine Gp ?_;refine Υ ?_;obtain⟨dv,hS⟩:=cn.open hS Xr;have hS:=dA.take hS Xr;have uV:=tG.dk.D4;have xQ:=tX j;have UE:=Ki j;have ed:=tG.ops;have UJ:=hK.ops;have nC:=hK.n1;refine Gn λw hS=>?_;obtain⟨H2,Df,hS,jY⟩:=hx (Has.front (SL.cD hS (t:=.mem H::X::.ob (cw p.w.dp c.s.k.d)::.pt p.np (ve cf (iy p.w.kp) (cH p.sp) (cH p.rb) (Γ c.pos) (cH p.mp) (cH p.sn) (cH p.w.qp) (cH p.w.rp) (cH p.w.wp) (cH p.bp) dv (cH p.w.dp) (cH p.ck)) 72::.ob (gQ p.ck [] c.now)::F) Xi) .hd);refine Cg (qB H2 p.w.dp c.s.k.d (nJ j) tG.dk (by omega) (by omega) x.kv s.keep Df) λw hS=>?_;have hS:=jY (Has.front (c:=.mem H2) hS Xr);have hS:SL W (.pt p.np (ve cf (iy p.w.kp) (cH p.sp) (cH p.rb) (Γ c.pos) (cH p.mp) (cH p.sn) (cH p.w.qp) (cH p.w.rp) (cH p.w.wp) (cH p.bp) dv (cH p.w.dp) (cH p.ck)) 72::.ob (cw p.w.dp (c.s.k.d.eO s.keep))::.ob (gQ p.ck [] c.now)::.mem H::X::F) w:=aR hS;refine Cc (Z4 p.np p.w.dp p.ck cf kc H k1 k2 c.now hc (c.s.k.d.eO s.keep) (N:=nJ (j+1)) hK.e1 hK.e2 ((tG.dk.eO s.keep).mono (BG j)) hK.dk (by omega) (by show c.s.k.d.ops<=90000;omega) (by omega) (λd' g e=>yyw (nC d' g e) (by decide)) hK.n2 _ _ _ _ _ _ _ _ _ _ _ tG.now ⟨ha.kZ.l0,hb.mx.oZ⟩ hb.mx.may ha.mD) ?_;clear hS;rintro _ post ⟨rfl,q,H3,fB,nZ,p',vY,rfl⟩ w hS;try simp only[app]at hS
 rw[hK.is];exact⟨_,⟨rfl,q,H3,fB,nZ,p',vY,rfl⟩,aR hS⟩
def YF{n j:Nat}{AL:List cM}(h:CS cf kc n j AL c)(hc:CC cf kc n)(hj:j<=190)(X:Μ)(x:mH)(s:g_)(mU:x.kind=s.kind)(hx:LG H X x.kv s.keep)(hk:s.kind=8):SP 10 [cH p.np,agg (ji x)] [.ob (cn p cf kc H c),X,.mem H]
  (λv post=>v=agg (tj ⟨0,0,0⟩)/\∃(q:ig) (H':bw),H.le H'/\q.np=p.np/\q.w.dp=p.w.dp/\q.ck=p.ck/\post=[.ob (cn q cf kc H' (c.eO cf s.keep)),X,.mem H']):=by
 refine Enzz λW F w hS=>?_;apply Ll;delta aI bW a_ b_ ai;refine zu hS λxb w hS=>?_;refine Gb λzb w hS=>?_;unfold ji at hS;rw[mU,hk]at hS
 refine⟨λus w=>us=[]/\SL W (.pt zb [Γ 0,Γ 0,Γ 0] 44::.pt xb [Γ 8,Γ x.n,x.sv,x.cv,Γ x.ft.kind,Γ x.ft.keep,x.kv] 36::.ob (cn p cf kc H c)::X::.mem H::F) w,?_,?_⟩
 ·obtain⟨dv,hS⟩:=cn.open hS Xr;have hS:=dA.take hS Xr;refine Gp ?_;refine Cg (zL p.w.dp c.s.k.d) λw hS=>?_;have hS:=dA.vI c.s c.s.k.d hS Xp;have hS:SL W (.ob (dA p.w kc H c.s)::_) _:=hS;have hS:=cn.put c hS Xp;refine yU (λho=>?_) (λho=>?_)
  ·refine Gp ?_;refine Χ ?_;exact⟨rfl,aR hS⟩
  exact⟨rfl,aR hS⟩
 clear hS;rintro w ⟨-,hS⟩;refine Gp ?_;refine za (λh3=>absurd h3 (by decide)) (λh3=>?_);refine Gp ?_;refine za (λh3=>absurd h3 (by decide)) (λh3=>?_);refine Gp ?_;refine Cc (qv p cf kc H c h hc hj X ⟨8,x.n,x.sv,x.cv,x.ft,x.kv⟩ s hk.symm hx hk) ?_;clear hS;rintro _ post ⟨rfl,q,H1,du,nZ,p',vY,rfl⟩ w hS;refine Gn λw hS=>?_;exact⟨_,⟨rfl,q,H1,du,nZ,p',vY,rfl⟩,aR hS⟩
def a_r{n j:Nat}{AL:List cM}(h:CS cf kc n j AL c)(hc:CC cf kc n)(hj:j<=190)(x:mH)(s:g_)(hx:lK H x s)(hk:s.kind=8):SP 10 [cH p.np,agg (ji x)] [.ob (cn p cf kc H c),.mem H]
  (λv post=>v=agg (tj ⟨0,0,0⟩)/\∃(q:ig) (H':bw),H.le H'/\q.np=p.np/\q.w.dp=p.w.dp/\q.ck=p.ck/\post=[.ob (cn q cf kc H' (c.eO cf s.keep)),.mem H']):=by
 intro W F w hS;have hS:SL W (.ob (cn p cf kc H c)::.ob (zH True [])::.mem H::F) w:=(SL.fact.2 ⟨trivial,hS⟩:SL W (.ob (zH True [])::.ob (cn p cf kc H c)::.mem H::F) w).perm (.swap _ _ _);refine zB.mono (YF p cf kc H c h hc hj (.ob (zH True [])) x s hx.kind (λhS=>⟨H,hx.kv,(SL.fact.1 (hS.perm (.swap _ _ _))).2,λhS=>(SL.fact.2 ⟨trivial,hS⟩:SL _ (.ob (zH True [])::_) _).perm (.swap _ _ _)⟩) hk W F w hS) ?_;rintro u w ⟨post,⟨e,q,H',hh,h1,h2,h3,rfl⟩,hS⟩;exact⟨_,⟨e,q,H',hh,h1,h2,h3,rfl⟩,aR hS⟩
end
def zV(n a b:Int):SP 89 [Γ n,Γ a,Γ b] [] (cE (.bool (decide (a<=n/\n<=b))) []):=by
 refine Enzz λW F w hS=>?_;apply cUc;delta aI cz;refine cA (λh=>?_) (λh=>?_)
 ·refine Gp ?_;rw[show decide (a<=n/\n<=b)=decide (n<=b) from yyj.2 ⟨λh=>h.2,λh'=>⟨by omega,h'⟩⟩];(exact cF hS)
 rw[zz3 (p:=a<=n/\n<=b) (by omega)];(exact cF hS)
def a_7{cf:dL}{kc:dW}{n:Nat}(hc:CC cf kc n):SP 34 [agg (ml cf)] [] (cE (.bool true) []):=by
 refine Enzz λW F w hS=>?_;apply ai5;delta aI a_ cz ai;have h1:=hc.tables;have h2:=hc.n1;have h3:=hc.n8;have h4:=hc.VQ;have h5:=hc.queue;have h6:=hc.batch;have h7:=hc.q1;have h8:=hc.D2;have h9:=hc.b1;have vJ:=hc.HQ;have hp:(2:Int) ^ n<=256:=by
  have:(2:Nat) ^ n<=2 ^ 8:=vv3 (by decide) h3;have h:=Int.ofNat_le.2 this
  push_cast at h
  exact h
 have vX:(1:Int)<=2 ^ n:=by
  have h:=Int.ofNat_le.2 (Nat.one_le_two_pow (n:=n))
  push_cast at h
  exact h
 refine zu hS λxb w hS=>?_;unfold ml at hS;refine Gn λw hS=>?_;refine ye (by kernel_rfl) (zV cf.tables 1 8) rfl hS Xp ?_;rintro _ post ⟨rfl,rfl⟩ w hS;try simp only[app]at hS
 rw[zzo (p:=1<=cf.tables/\cf.tables<=8) (by omega)];refine Gp ?_;rw[hc.tables];refine Q7 (n:=n) (by omega) (by omega) ?_;refine Gp ?_;refine ye (by kernel_rfl) (zV cf.late 0 (1*2 ^ n-1)) rfl hS Xp ?_;rintro _ post ⟨rfl,rfl⟩ w hS;try simp only[app]at hS
 rw[zzo (p:=0<=cf.late/\cf.late<=(1*2 ^ n-1)) ⟨hc.VP,by omega⟩];refine Gp ?_;refine ye (by kernel_rfl) (zV cf.size 64 65536) rfl hS Xp ?_;rintro _ post ⟨rfl,rfl⟩ w hS;try simp only[app]at hS
 rw[zzo (p:=64<=cf.size/\cf.size<=65536) ⟨hc.s0,hc.s1⟩];refine Gp ?_;refine ye (by kernel_rfl) (zV cf.queue 1 64) rfl hS Xp ?_;rintro _ post ⟨rfl,rfl⟩ w hS;try simp only[app]at hS
 rw[zzo (p:=1<=cf.queue/\cf.queue<=64) (by omega)];refine Gp ?_;refine ye (by kernel_rfl) (zV cf.chunk 1 64) rfl hS Xp ?_;rintro _ post ⟨rfl,rfl⟩ w hS;try simp only[app]at hS
 rw[zzo (p:=1<=cf.chunk/\cf.chunk<=64) ⟨hc.c1,hc.wR⟩];refine Gp ?_;refine ye (by kernel_rfl) (zV cf.batch 1 64) rfl hS Xp ?_;rintro _ post ⟨rfl,rfl⟩ w hS;try simp only[app]at hS
 rw[zzo (p:=1<=cf.batch/\cf.batch<=64) (by omega)];refine Gp ?_;rw[hc.base,hc.cm,hc.VA];refine Cc (y3 kc.b kc.m kc.j) ?_;clear hS;rintro _ post ⟨rfl,rfl⟩ w hS;try simp only[app]at hS
 rw[zzo hc.may];refine Gp ?_;refine za (λh=>?_) (λh=>absurd hc.e1 h);refine Gp ?_;rw[zzo hc.e2];(exact cF hS)
def Zz{cf:dL}{kc:dW}{n:Nat}(H:bw)(hc:CC cf kc n):SP 5 [agg (ml cf)] [.mem H] (λv post=>∃(p:ig) (H':bw),H.le H'/\v= .tuple #[cH p.np,Γ 0]/\post=[.ob (cn p cf kc H' (AP cf n)),.mem H']):=by
 refine Enzz λW F w hS=>?_;apply vc5;delta aI cP ai cY bR;obtain⟨e1,e2,h0⟩:=fg.first (kc:=kc) hc;obtain⟨tr,xs,hd,RS,RK,hb,ha⟩:=h0;refine zu hS λxb w hS=>?_;refine Gp ?_;refine Cg (a_7 hc) λw hS=>?_;refine zy (λh=>by cases h) (λ_=>?_);refine Gn λw hS=>?_;refine Cc (cB3) ?_;clear hS;rintro _ post ⟨dp,rfl,rfl⟩ w hS;(try simp only[app]at hS);refine Gp ?_
 refine Cc (cB4 0) ?_;clear hS;rintro _ post ⟨ck,rfl,rfl⟩ w hS;try simp only[app]at hS
 rw[show sq 0=0 from rfl]at hS
 refine Gp ?_;refine⟨ve cf (.pointer none) (.pointer none) (.pointer none) (Γ 0) (.pointer none) (.pointer none) (.pointer none) (.pointer none) (.pointer none) (.pointer none) Θ (cH dp) (cH ck),rfl,_,rfl,zE hS λnp w hS=>?_⟩;have ho:∀(base:Int),0<=base->base<=12288->∀d' g,ff gU base cf.size=(d',.ok g)->(cX g.bI).length=0:=λbase b0 b1 d' g e=>by
  rw[Kt b0 b1 hc.s0 hc.s1]at e
  cases e;rfl
 refine Cc (Z4 np dp ck cf kc H (wc n cf.size) (sP n cf.size) 0 hc gU (N:=nJ 0) e1 e2 (D6 _) (D6 _) (by decide) (by decide) (show (0:Nat)<=90000 by decide) (λd' g e=>by rw[ho 16 (by decide) (by decide) d' g e];decide) (λd' g e=>by rw[ho 8192 (by decide) (by decide) d' g e];decide) _ _ _ _ _ _ _ _ _ _ _ (by decide) ⟨ha.kZ.l0,hb.mx.oZ⟩ hb.mx.may ha.mD) ?_;clear hS;rintro _ post ⟨rfl,q,H3,fB,nZ,p',vY,rfl⟩ w hS;(try simp only[app]at hS);refine Gp ?_
 refine Χ ?_;have hS:SL W (.ob (cn q cf kc H3 (AP cf n))::_) w:=hS;exact⟨_,⟨q,H3,fB,by rw[nZ],rfl⟩,aR hS⟩
section
end
def db.DY{W w:Ζ}{l F:Β}{mp wp:Nat}{H:bw}{m:dJ}(hS:SL W l w)(r:fq (.ob (db mp wp H m)) l F):∃rv,iZ H rv m.reqs/\SL W (.pt mp (Ae m wp rv) 140::.ob (dN wp m.cI)::F) w:=db.iff.1 (hS.perm r.perm)
def Gate.DY{W w:Ζ}{l F:Β}{g b cap out:Nat}{L:Ψ}(hS:SL W l w)(r:fq (.ob (Gate g b cap out L)) l F):(L.length+out<=cap/\cap<=64)/\SL W (.pt g [Δ b,Γ out] 144::.ob (Ring b cap L)::F) w:=Gate.open (hS.perm r.perm)
def Gate.put{W w:Ζ}{l F:Β}{g b cap out:Nat}{L:Ψ}(hA:L.length+out<=cap/\cap<=64)(hS:SL W l w)(k:gE [.pt g [Δ b,Γ out] 144,.ob (Ring b cap L)] l F):SL W (.ob (Gate g b cap out L)::F) w:=Gate.close hA (hS.pick k)
section
variable (p:ig) (cf:dL) (kc:dW) (H:bw) (c:cx)
set_option maxHeartbeats 4000000 in
def Qs{N:Nat}(hg:ij c.k.g N)(hN:N<=1000000000)(Bm:c.s.L.length+c.s.out<=kc.cap)(Dt:c.m.cI.rows.length<=1000):SP 25 [cH p.np] [.ob (cn p cf kc H c),.mem H] (Aq p cf kc H c (agg (CK (c.look kc)))):=by
 refine Enzz λW F w hS=>?_;apply cO4;delta a_ aW b_ ai;obtain⟨dv,hS⟩:=cn.open hS Xr;obtain⟨ov,nv,hi,hS⟩:=dA.open hS Xr;obtain⟨rv,hr,hS⟩:=db.DY hS Xr;obtain⟨hG,hS⟩:=Gate.DY hS Xr;refine Gm λb w hS=>?_;refine yC (vs:=[cH p.wi]) hS Xh rfl (λj v h=>?_) ?_
 ·match j,h with
  | 0,h=>exact h
  | j+1,h=>simp at h
 refine Cg (YT p.wi) λw hS=>?_;have hS:=db.put c.m rv hr hS Xp;refine Cg (yM p.w.kp p.w.gp p.w.dp p.w.lp p.w.pp H c.s.k) λw hS=>?_;refine Cg (zI p.sp p.tp p.w.dp p.sl c.k hg hN) λw hS=>?_;refine Cg (ZI p.sp p.tp p.w.dp p.sl c.k hg hN) λw hS=>?_;refine Cg (zY p.ck [] c.now) λw hS=>?_;refine Cg (yx p.mp p.wi H c.m) λw hS=>?_;refine Cg (yw p.rb kc.cap (c.q.map jz)) λw hS=>?_;refine Cg (yw p.w.qb kc.cap (c.s.L.map ie)) λw hS=>?_;have hS:=Gate.put hG hS Xp;refine Cg (bWs p.w.qp p.w.qb kc.cap c.s.out (c.s.L.map ie)) λw hS=>?_;refine Cg (zN p.w.qp p.w.qb kc.cap c.s.out (c.s.L.map ie)) λw hS=>?_;obtain⟨KU,uT,hS⟩:=db.DY hS Xr;refine Cg (y2 p.wi c.m.cI) λw hS=>?_;refine Cc (cU6 p.wi c.m.cI (by omega)) ?_;clear hS;rintro u post rfl w hS;(try simp only[app]at hS);refine Gp ?_
 refine zz hS Xh ?_;have hS:=db.put c.m KU uT hS Xp;refine Cg (Qi p.w.rp kc.b kc.m kc.j c.s.fW c.s.eQ) λw hS=>?_;refine Cg (ZW p.w.rp kc.b kc.m kc.j c.s.fW c.s.eQ) λw hS=>?_;refine Cg (Qp p.bp cf.every c.due c.last) λw hS=>?_;obtain⟨rv3,hr3,hS⟩:=cZ.open hS Xr;refine Cg (zL p.w.dp c.s.k.d) λw hS=>?_;have hS:=cZ.eX (g:=c.s.k.g) (d:=c.s.k.d) (ts:=c.s.k.ts) (plan:=c.s.k.plan) (aw:=c.s.k.aw) (reqs:=c.s.k.reqs) hS hr3 Xp;have hS:SL W (.ob (cZ p.w.kp p.w.gp p.w.dp p.w.lp p.w.pp H c.s.k)::_) w:=hS;have hS:=dA.put c.s hS hi Xp;have hS:=cn.put c hS Xp;exact⟨[.ob (cn p cf kc H c),.mem H],⟨rfl,H,bw.le_refl H,rfl⟩,aR hS⟩
end
def cn.gB{W w:Ζ}{l F:Β}{p:ig}{cf:dL}{kc:dW}{H H':bw}{c:cx}(hh:H.le H')(hS:SL W l w)(r:fq (.ob (cn p cf kc H c)) l F):SL W (.ob (cn p cf kc H' c)::F) w:=cn.mono hh (hS.perm r.perm)
def aIc(np:Nat)(cf:dL)(kc:dW)(H:bw)(y:cx × pJ)(v:Ε)(post:Β):Prop:=v=agg (tj y.2)/\∃(q:ig) (H':bw),H.le H'/\q.np=np/\post=[.ob (cn q cf kc H' y.1),.mem H']
def S0{cf:dL}{kc:dW}{c:cx}{s:g_}(hk:s.kind=8):c.h_ cf kc s=(c.eO cf s.keep,⟨0,0,0⟩):=by
 have e:c.other cf s=(c.eO cf s.keep,0):=by
  unfold cx.other;rw[zzb (by omega),zzb (by omega),zzb (by omega),zzb (by omega),zzb (by omega),zzd hk]
 unfold cx.h_;rw[zzb (λh=>h.2 hk),zzb (by omega),zzb (by omega),e]
def yv(p:ig)(cf:dL)(kc:dW)(H:bw)(c:cx){n j:Nat}{AL:List cM}(h:CS cf kc n j AL c)(hc:CC cf kc n)(hj:j<=190)(x:mH)(s:g_)(hx:lK H x s)(hl:s.l.length<=140737488351232):SP 10 [cH p.np,agg (ji x)] [.ob (cn p cf kc H c),.mem H] (aIc p.np cf kc H (c.h_ cf kc s)):=by
 by_cases hk:s.kind=8
 ·refine (a_r p cf kc H c h hc hj x s hx hk).mono λv post hq=>?_;obtain⟨e,q,H',hh,h1,_,_,hp⟩:=hq;rw[S0 hk];exact⟨e,q,H',hh,h1,hp⟩
 refine (qw p cf kc H c h hc hj x s hx hl hk).mono λv post hq=>?_;obtain⟨e,H',hh,hp⟩:=hq;exact⟨e,p,H',hh,rfl,hp⟩
def Qt:SP 34 [agg (ml ⟨0,0,0,0,0,0,0,0,0,0⟩)] [] (cE (.bool false) []):=by
 refine Enzz λW F w hS=>?_;apply ai5;delta aI a_ cz ai;refine zu hS λxb w hS=>?_;unfold ml at hS;dsimp only at hS;refine Gn λw hS=>?_;refine ye (by kernel_rfl) (zV 0 1 8) rfl hS Xp ?_;rintro _ post ⟨rfl,rfl⟩ w hS;try simp only[app]at hS
 rw[zz3 (p:=(1:Int)<=0/\(0:Int)<=8) (by omega)];refine Gp ?_;(exact cF hS)
def Qu:SP 5 [agg (ml ⟨0,0,0,0,0,0,0,0,0,0⟩)] [] (cE (.tuple #[.pointer none,Γ 1]) []):=by
 refine Enzz λW F w hS=>?_;apply vc5;delta aI cP ai cY bR;refine zu hS λxb w hS=>?_;unfold ml at hS;dsimp only at hS;refine Gp ?_;refine Cg (Qt) λw hS=>?_;refine zq ?_;(exact cF hS)
def Vz{β:Type}{p:Prop}[Decidable p]{q:Bool}{f:Bool->β}{x:β}(h:x=f q):(if p then x else f false)=f (decide p && q):=by
 subst h;by_cases hp:p
 ·rw[zzd hp,zzo hp,uua]
 rw[zzb hp,zz3 hp,uu5]
def Vy{β:Type}{p:Prop}[Decidable p]{f:Bool->β}:(if p then f true else f false)=f (decide p):=by
 by_cases hp:p
 ·rw[zzd hp,zzo hp]
 rw[zzb hp,zz3 hp]
def CO(a b:pJ)(w:Ζ):(Op.equal 44 (agg (tj a)) (agg (tj b))).run prog w= .ok (decide (a=b)) w:=by
 refine wy underlying44 (by kernel_rfl) ?_;obtain⟨a1,a2,a3⟩:=a;obtain⟨b1,b2,b3⟩:=b;simp[tj,Op.eqFields,part,xxd (h:=yyr),xxd (h:=yyd),xxd (h:=underlying27),Result.andThen];by_cases h0:a1=b1<;>by_cases h1:a2=b2<;>by_cases h2:a3=b3<;>simp[*]
def bI5(a b:Ep)(w:Ζ):(Op.equal 93 (agg (CK a)) (agg (CK b))).run prog w= .ok (decide (a=b)) w:=by
 refine wy underlying93 (by kernel_rfl) ?_;obtain⟨a1,a2,a3,a4,a5,a6,a7,a8,a9,uj,a11,a12,a13,a14,a15,a16⟩:=a;obtain⟨b1,b2,b3,b4,b5,b6,b7,b8,b9,b10,b11,b12,b13,b14,b15,b16⟩:=b;simp only[Ep.mk.injEq];simp[CK,Op.eqFields,part,xxd (h:=yyr),xxd (h:=yyd),vvi (h:=wwk),Result.andThen]
 iterate 15 refine Vz (f:=λx=>Result.ok x w) ?_
 exact Vy (f:=λx=>Result.ok x w)
def cGi{P:Program}{w:Ζ}{t:Ι}{xs ys:Ξ}{p:Prop}[Decidable p]{K:Ε->Prop}(h:(Op.equal t (agg xs) (agg ys)).run P w= .ok (decide p) w)(hK:K (.bool !(decide p))):yP P t true (agg xs) (agg ys) w K:=⟨xs.toArray,ys.toArray,decide p,rfl,rfl,h,hK⟩
def bI2(a b:Cell)(w:Ζ):(Op.equal 81 (agg (iT a)) (agg (iT b))).run prog w= .ok (decide (a=b)) w:=by
 refine wy underlying81 (by kernel_rfl) ?_;obtain⟨k,n,g,v⟩:=a;obtain⟨k',n',g',v'⟩:=b;simp[iT,Op.eqFields,part,xxd (h:=yyr),vvi (h:=wwk),tta (h:=yyz),Result.andThen,toList_inj];by_cases h0:k=k'<;>by_cases h1:n=n'<;>by_cases h2:g=g'<;>by_cases h3:v=v'<;>simp[*]
def one_cell(a b:Cell):SP 83 [agg (iT a),agg (iT b)] [] (cE (.bool (decide (a=b))) []):=by
 refine Enzz λW F w hS=>?_;apply cT6;refine⟨_,rfl,zE hS ?_⟩;clear hS;intro b1 w hS;refine⟨_,rfl,zE hS ?_⟩;clear hS;intro b2 w hS;refine zr hS Xh rfl (zr hS Xh rfl (y8 (bI2 a b w) ?_));(exact cF hS)
def cDy(H:bw)(u v:Ε)(A B:List Cell)(hu:de H 4 u A.length (A.map iT).flatten)(hv:de H 4 v B.length (B.map iT).flatten)(hn:A.length<=9223372036854775806):
  SP 28 [u,v] [.mem H] (cE (.bool (decide (A=B))) [.mem H]):=by
 refine Enzz λW F w hS=>?_;apply cPt;refine Cc (GO S8 rfl (λv0 v1 v2 w R h=>cT5 v0 v1 v2 w R h) one_cell H u v A B hu hv hn) ?_;clear hS;rintro v post ⟨rfl,rfl⟩ w hS;try simp only[app]at hS
 (exact cF hS)
def bI8(a b:Row)(w:Ζ):(Op.equal 54 (agg (eD a)) (agg (eD b))).run prog w= .ok (decide (a=b)) w:=by
 refine wy underlying54 (by kernel_rfl) ?_;obtain⟨k,v⟩:=a;obtain⟨k',v'⟩:=b;simp[eD,Op.eqFields,part,xxd (h:=yyr),xxd (h:=yyd),vvi (h:=wwk),tta (h:=yyz),Result.andThen,toList_inj];by_cases h0:k=k'<;>by_cases h1:v=v'<;>simp[*]
def cC7(a b:Row):SP 85 [agg (eD a),agg (eD b)] [] (cE (.bool (decide (a=b))) []):=by
 refine Enzz λW F w hS=>?_;apply cT8;refine⟨_,rfl,zE hS ?_⟩;clear hS;intro b1 w hS;refine⟨_,rfl,zE hS ?_⟩;clear hS;intro b2 w hS;refine zr hS Xh rfl (zr hS Xh rfl (y8 (bI8 a b w) ?_));(exact cF hS)
def WY(H:bw)(u v:Ε)(A B:List Row)(hu:de H 2 u A.length (A.map eD).flatten)(hv:de H 2 v B.length (B.map eD).flatten)(hn:A.length<=9223372036854775806):
  SP 29 [u,v] [.mem H] (cE (.bool (decide (A=B))) [.mem H]):=by
 refine Enzz λW F w hS=>?_;apply cP4;refine Cc (GO jt rfl (λv0 v1 v2 w R h=>cT7 v0 v1 v2 w R h) cC7 H u v A B hu hv hn) ?_;clear hS;rintro v post ⟨rfl,rfl⟩ w hS;try simp only[app]at hS
 (exact cF hS)
def Ze(n:Int):SP 86 [Γ n] [] (cE (agg [Γ 2,Γ n,Θ,Θ,Γ 0,Γ 0,Θ]) []):=by
 refine Enzz λW F w hS=>?_;apply cT9;delta ai bR;refine Gm λb w hS=>?_;(exact cF hS)
def KF(H:bw)(n:Int):lK H ⟨2,n,Θ,Θ,kE,Θ⟩ (oS n):=⟨rfl,rfl,rfl,de.nil _ _,de.nil _ _,de.nil _ _⟩
def cB2(H:bw):SP 5 [agg [Γ 1,Γ 0,Γ 256,Γ 4,Γ 2,Γ 4,Γ 1,Γ 8,Γ 0,Γ 5]] [.mem H] (λv post=>∃(p:ig) (H':bw),H.le H'/\v= .tuple #[cH p.np,Γ 0]/\post=[.ob (cn p kA kG H' wS),.mem H']):=Zz H ur
def SB:CS kA kG 1 0 [] wS:=.inl (fg.first (kc:=kG) ur).2.2
def SC:∃AL,CS kA kG 1 1 AL wT:=by
 obtain⟨AL,h,_⟩:=SB.h_ ur (by decide) BV;exact⟨AL,h⟩
def SD:∃AL,CS kA kG 1 2 AL wU:=by
 obtain⟨AL,h⟩:=SC;obtain⟨AL,h,_⟩:=h.h_ ur (by decide) (oS 0);exact⟨AL,h⟩
def bwy:∃AL,CS kA kG 1 3 AL wV:=by
 obtain⟨AL,h⟩:=SD;obtain⟨AL,h,_⟩:=h.h_ ur (by decide) (oS 1);exact⟨AL,h⟩
def dA1:wS.h_ kA kG BV=(wT,⟨0,1,0⟩):=by rw[<- tA1];rfl
def dA2:wT.h_ kA kG (oS 0)=(wU,⟨0,0,1⟩):=by rw[<- tA2];rfl
def dA3:wU.h_ kA kG (oS 1)=(wV,⟨0,0,2⟩):=by rw[<- tA3];rfl
def dA4:wV.h_ kA kG (oS 3)=(wW,⟨0,0,6⟩):=by rw[<- tA4];rfl
def rwA:rowsOf (mh wW.s.k.ts 0)=[⟨5,⟨#[97]⟩⟩]:=by decide +kernel
def smA:small wW.s.k.ts 0:=by
 have h:(wW.s.k.ts.all λC=>decide (C.length+0<=1000000))=true:=by decide +kernel
 exact λC hC=>zzp (zz5.1 h C hC)
attribute [local irreducible] wS wT wU wV wW
set_option maxHeartbeats 4000000 in
def Y5:SP 30 [] [] (cE (.bool true) []):=by
 refine Enzz λW F w hS=>?_;apply cQd;delta aI bW a_ b_ cz ai cY cR bR iA;have hS:=SL.Ke hS;generalize bw.emp=H at hS;refine yZ rfl ?_;refine Cc (cB2 H) ?_;clear hS;rintro _ post ⟨p,H1,du,rfl,rfl⟩ w hS;(try simp only[app]at hS);refine Gp ?_
 refine Cg (Qu) λw hS=>?_;refine Χ ?_;refine Gp ?_;refine zp ?_;refine Gp ?_;refine Χ ?_;refine Gp ?_;refine zM hS (cells:=dC ⟨0,5,false,⟨#[97]⟩⟩) (by rfl) λcb w hS=>?_;obtain⟨H2,dF,hC,hS⟩:=SL.KQ (sz:=4) (H:=H1) hS Xp rfl;have hS:=cn.gB dF hS Xr;refine Gp ?_;have hxA:lK H2 ⟨1,0,Θ,.slice (some ⟨cb,0,none⟩) 1 1,kE,Θ⟩ BV:=⟨rfl,rfl,rfl,de.nil _ _,hC,de.nil _ _⟩;refine Cc (yv p kA kG H2 wS SB ur (by decide) ⟨1,0,Θ,.slice (some ⟨cb,0,none⟩) 1 1,kE,Θ⟩ BV hxA (by decide)) ?_;clear hS;rintro _ post ⟨rfl,q1,H3,fB,tP,rfl⟩ w hS;try simp only[app]at hS
 rw[dA1]at hS ⊢
 dsimp only at hS ⊢;rw[<- tP];refine Gm λb w hS=>?_;refine Cg (Ze 0) λw hS=>?_;obtain⟨AL0,xB⟩:=SC;refine Cc (yv q1 kA kG H3 wT xB ur (by decide) ⟨2,0,Θ,Θ,kE,Θ⟩ (oS 0) (KF H3 0) (by decide)) ?_;clear hS;rintro _ post ⟨rfl,q2,H4,nm,lu,rfl⟩ w hS;try simp only[app]at hS
 rw[dA2]at hS ⊢
 dsimp only at hS ⊢;rw[<- lu];refine Gm λb w hS=>?_;refine Cg (Ze 1) λw hS=>?_;obtain⟨AL1,gl⟩:=SD;refine Cc (yv q2 kA kG H4 wU gl ur (by decide) ⟨2,1,Θ,Θ,kE,Θ⟩ (oS 1) (KF H4 1) (by decide)) ?_;clear hS;rintro _ post ⟨rfl,q3,H5,tz,JA,rfl⟩ w hS;try simp only[app]at hS
 rw[dA3]at hS ⊢
 dsimp only at hS ⊢;rw[<- JA];refine Gm λb w hS=>?_;refine Cg (Ze 3) λw hS=>?_;obtain⟨Ly,ju⟩:=bwy;refine Cc (yv q3 kA kG H5 wV ju ur (by decide) ⟨2,3,Θ,Θ,kE,Θ⟩ (oS 3) (KF H5 3) (by decide)) ?_;clear hS;rintro _ post ⟨rfl,q4,H6,vK,hq4,rfl⟩ w hS;try simp only[app]at hS
 rw[dA4]at hS ⊢
 dsimp only at hS ⊢;rw[<- hq4];refine Gm λb w hS=>?_;refine y8 (CO ⟨0,1,0⟩ ⟨0,1,0⟩ w) ?_;refine Υ ?_;refine Gp ?_;refine y8 (CO ⟨0,0,1⟩ ⟨0,0,1⟩ w) ?_;refine Υ ?_;refine Gp ?_;refine y8 (CO ⟨0,0,2⟩ ⟨0,0,2⟩ w) ?_;refine Υ ?_;refine Gp ?_;refine y8 (CO ⟨0,0,6⟩ ⟨0,0,6⟩ w) ?_;refine Υ ?_;obtain⟨dv,hS⟩:=cn.open hS Xr;obtain⟨ov,nv,hi,hS⟩:=dA.open hS Xr;obtain⟨rv,hr,hS⟩:=cZ.open hS Xr;refine Gp ?_;refine Cc (Z9 q4.w.gp wW.s.k.ts 0 smA) ?_;clear hS;rintro u post rfl w hS;try simp only[app]at hS
 rw[rwA]at hS
 have hS:SL W (.ob (gy q4.w.gp wW.s.k.ts)::.ob (bF u 54 2 [(⟨5,⟨#[97]⟩⟩:Row)].length ([(⟨5,⟨#[97]⟩⟩:Row)].map eD).flatten)::_) w:=hS;refine Gp ?_;refine zM hS (cells:=eD ⟨5,⟨#[97]⟩⟩) (by rfl) λrb w hS=>?_;obtain⟨H7,uD,hA,hS⟩:=SL.KQ (sz:=2) (H:=H6) hS Xp rfl;obtain⟨H8,A5,hB,hS⟩:=zw (H:=H7) (v:=u) hS Xp;refine Cc (WY H8 u (.slice (some ⟨rb,0,none⟩) 1 1) [⟨5,⟨#[97]⟩⟩] [⟨5,⟨#[97]⟩⟩] hB (hA.mono A5) (by decide)) ?_;clear hS;rintro _ post ⟨rfl,rfl⟩ w hS;try simp only[app]at hS
 rw[zzo (p:=([(⟨5,⟨#[97]⟩⟩:Row)]=[⟨5,⟨#[97]⟩⟩])) rfl];exact cF hS
def E4(s:Η)(n:Nat):Η:=s.extract 0 (min s.size n)
def qD(s:Η)(n:Nat):SP 147 [.string s,Γ n] [] (cE (.string (E4 s n)) []):=by
 refine Enzz λW F w hS=>?_;apply cMb;refine Gp ?_;rw[show min (s.size:Int) (n:Int)=((min s.size n:Nat):Int) by omega];refine⟨s,0,min s.size n,rfl,⟨.i64,rfl⟩,rfl,zz4 _,Nat.min_le_left _ _,?_⟩;(exact cF hS)
def jK(c:d_)(k:Nat):d_:=⟨md c.table k,if md c.key 31=30 then ((1+md c.key 1099511627776:Nat):Int) else ((1+md c.key 12:Nat):Int),c.gone,if c.gone then ⟨#[]⟩ else E4 c.val 32⟩
def qz(c:d_)(k:Nat)(h1:0<k)(h2:k<=8):SP 95 [agg (dC c),Γ k] [] (cE (agg (dC (jK c k))) []):=by
 refine Enzz λW F w hS=>?_;apply cUj;delta aI a_ aW cP HH ai cR;obtain⟨table,key,gone,val⟩:=c;refine⟨_,rfl,zE hS ?_⟩;clear hS;intro p w hS;refine zE hS ?_;clear hS;intro q w hS;simp only[dC]at hS;have cW4:=ix key 12 (by decide);have hmb:=ix key 1099511627776 (by decide);have Jq:(1:Int)+(md key 12:Int)=((1+md key 12:Nat):Int):=by omega
 have hmf:(1:Int)+(md key 1099511627776:Int)=((1+md key 1099511627776:Nat):Int):=by omega
 refine⟨λus w=>∃x:Nat,us=[Δ x]/\SL W (.pt x [Γ (md table k:Nat),Γ ((1+md key 12:Nat):Int),.bool gone,.string ⟨#[]⟩] 40::.pt q [Γ 0,Γ 0,.bool false,.string ⟨#[]⟩] 40::.pt p [Γ table,Γ key,.bool gone,.string val] 40::F) w,?_,?_⟩
 ·refine yp hS ?_;clear hS;intro w hS;refine Gp ?_;refine⟨?_,?_⟩
  ·refine Cg (yl table k h1 (by omega)) λw hS=>?_;refine⟨?_,?_⟩
   ·refine Cg (zQ key 12 (by decide) (by decide)) λw hS=>?_;refine Gm λb w hS=>?_;rw[Jq]at hS
    exact⟨_,rfl,aR hS⟩
   refine Gm λb w hS=>?_;refine Cg (zQ key 12 (by decide) (by decide)) λw hS=>?_;rw[Jq]at hS
   exact⟨_,rfl,aR hS⟩
  refine Gm λb w hS=>?_;refine Cg (yl table k h1 (by omega)) λw hS=>?_;refine Cg (zQ key 12 (by decide) (by decide)) λw hS=>?_;rw[Jq]at hS
  exact⟨_,rfl,aR hS⟩
 clear hS;rintro v5 w ⟨x,cT,hS⟩;cases cT;refine⟨λus w=>us=[]/\SL W (.pt x [Γ (md table k:Nat),Γ (jK ⟨table,key,gone,val⟩ k).key,.bool gone,.string ⟨#[]⟩] 40::.pt q [Γ 0,Γ 0,.bool false,.string ⟨#[]⟩] 40::.pt p [Γ table,Γ key,.bool gone,.string val] 40::F) w,?_,?_⟩
 ·refine Gp ?_;refine Cg (zQ key 31 (by decide) (by decide)) λw hS=>?_;refine za (λh=>?_) (λh=>?_)
  ·have hk:(jK ⟨table,key,gone,val⟩ k).key=((1+md key 1099511627776:Nat):Int):=by unfold jK;simp only;rw[zzd (by omega)]
   rw[hk];refine Gp ?_;refine Cg (zQ key 1099511627776 (by decide) (by decide)) λw hS=>?_;rw[hmf]at hS
   exact aR hS
  have hk:(jK ⟨table,key,gone,val⟩ k).key=((1+md key 12:Nat):Int):=by unfold jK;simp only;rw[zzb (by omega)]
  rw[hk];exact⟨rfl,aR hS⟩
 clear hS;rintro w ⟨-,hS⟩;refine Gp ?_;cases gone with
 | true=>
  refine zp ?_;refine Gn λw hS=>?_;have e:dC (jK ⟨table,key,true,val⟩ k)=[Γ (md table k:Nat),Γ (jK ⟨table,key,true,val⟩ k).key,.bool true,.string ⟨#[]⟩]:=rfl;rw[e];(exact cF hS)
 | false=>
  refine zq ?_;refine Gp ?_;refine Cg (qD val 32) λw hS=>?_;have e:dC (jK ⟨table,key,false,val⟩ k)=[Γ (md table k:Nat),Γ (jK ⟨table,key,false,val⟩ k).key,.bool false,.string (E4 val 32)]:=rfl;rw[e];(exact cF hS)
def bRy(c:d_)(z:Ξ)(hz:z.length=4):ib (cQ z 1) [(0,4,agg (dC c))]=some (dC c):=by
 simp[ib,cQ,Value.cells,dC,hz]
def Yz(H:bw)(v:Ε)(l:List d_)(k cN:Nat)(hv:de H 4 v l.length (l.map dC).flatten)(h1:0<k)(h2:k<=8)(hm:cN<=1000)(hn:l.length<=140737488351232):
  SP 38 [v,Γ k,Γ cN] [.mem H] (λu post=>post=[.ob (bF u 40 4 ((l.take cN).map (jK · k)).length (((l.take cN).map (jK · k)).map dC).flatten),.mem H]):=by
 refine Enzz λW F w hS=>?_;apply cRx;delta aI ai cR bR;refine⟨λus w=>∃(m:Nat) (u:Ε),us=[u,Γ m]/\m<=l.length/\m<=cN/\SL W (.ob (bF u 40 4 m ((((l.take m).map (jK · k)).map dC).flatten))::.mem H::F) w,
  λus _=>match us with|[_,.int _ m]=>(l.length-m).toNat|_=>0,⟨0,_,rfl,by omega,by omega,bF.nil hS⟩,?_⟩
 clear hS;rintro v7 v8 w ⟨m,u,cT,mR,vU,hS⟩;cases cT;have gV:∀w,(m=l.length\/m=cN)->SL W (.ob (bF v7 40 4 m ((((l.take m).map (jK · k)).map dC).flatten))::.mem H::F) w ->
   ∃post,(post=[.ob (bF v7 40 4 ((l.take cN).map (jK · k)).length (((l.take cN).map (jK · k)).map dC).flatten),.mem H])/\SL W (app post F) w:=λw he hS=>by
  have ht:l.take m=l.take cN:=by
   rcases he with rfl|rfl
   ·rw[zz0,zz7 (by omega)]
   rfl
  have hl:m=((l.take cN).map (jK · k)).length:=by rw[<- ht,zzn,zzg];omega
  rw[ht,hl]at hS
  exact⟨_,rfl,hS⟩
 refine zo hv ?_;refine Gp ?_;refine za (λh=>?_) (λh=>gV w (.inl (by omega)) hS);refine Gp ?_;refine za (λh3=>?_) (λh3=>gV w (.inr (by omega)) hS);have cG:m<l.length:=by omega
 refine zF hS Xh oF hv (x:=l[m]) (by simp[cG]) cG ?_;refine Cc (qz l[m] k h1 h2) ?_;clear hS;rintro v26 post ⟨rfl,rfl⟩ w hS;try simp only[app]at hS
 refine zM hS (bRy (jK l[m] k) [Γ 0,Γ 0,.bool false,.string ⟨#[]⟩] rfl) ?_;clear hS;intro b w hS;refine zJ (n:=m) (m:=1) hS Xr (jR (cs:=dC (jK l[m] k)) hS .hd rfl) rfl rfl (Iq _) (by omega) (by omega) ?_;clear hS;intro u' w hS;refine Gp ?_;have e:(l.take (m+1)).map (jK · k)=(l.take m).map (jK · k)++[jK l[m] k]:=by rw[zze cG,zzt];rfl
 refine⟨⟨m+1,u',rfl,(by omega),(by omega),(by rw[e,vF];exact aR hS)⟩,(by dsimp only;omega)⟩
def Y6(H:bw)(v:Ε)(l:List d_)(k cN:Nat)(hv:de H 4 v l.length (l.map dC).flatten)(h1:0<k)(h2:k<=8)(hm:cN<=1000)(hn:l.length<=140737488351232):
  SP 38 [v,Γ k,Γ cN] [.mem H] (λu post=>∃H',H.le H'/\de H' 4 u ((l.take cN).map (jK · k)).length (((l.take cN).map (jK · k)).map dC).flatten/\post=[.mem H']):=by
 intro W F w hS;refine zB.mono (Yz H v l k cN hv h1 h2 hm hn W F w hS) ?_;rintro u w ⟨post,rfl,hS⟩;have hS:SL W (_::.mem H::F) w:=hS;obtain⟨H2,dF,hR,hS⟩:=zw (H:=H) (v:=u) hS Xp;exact⟨_,⟨H2,dF,hR,rfl⟩,hS⟩
def cHv(s:Η)(k:Nat)(h1:0<k)(h2:k<=8):SP 96 [.string s,Γ k] [] (λv post=>∃r,v= .string r/\r.size<=40/\post=[]):=by
 refine Enzz λW F w hS=>?_;apply cUk;delta aI ai;refine Gp ?_;refine za (λh=>⟨_,⟨_,rfl,by decide,rfl⟩,hS⟩) (λh=>?_);have f_:0<s.size:=by
  rcases yy6 s.size with h0|h0
  ·refine absurd ?_ h;obtain⟨⟨l⟩⟩:=s;have:l=[]:=zzl h0;subst this;rfl
  exact h0
 refine XI (j:=0) yyz f_ ?_;generalize s[0]=b;have hb:b.toNat<256:=b.toNat_lt;generalize b.toNat=n at hb;refine yA (by omega) ?_;refine Zt (by decide) ?_;refine cA (λh3=>?_) (λh3=>?_)
 ·refine Cg (qD s 40) λw hS=>?_;exact⟨_,⟨_,rfl,by unfold E4;rw[ByteArray.size_extract];omega,rfl⟩,hS⟩
 refine K1 (by decide) (by rw[xx4 (by omega)];omega) ?_;rw[show (n:Int).tdiv 4=((n / 4:Nat):Int) by rw[xx4 (by omega)];omega];refine Q6 h1 ?_;have hk:n / 4 % k<8:=Nat.lt_of_lt_of_le (vvj _ h1) h2;refine Gp ?_;refine zW ?_;generalize hx:IntKind.u8.wrap (48+((n / 4 % k:Nat):Int))=x;refine zM hS (cells:=[.int .u8 x]) (by simp[ib,cQ,Value.cells]) ?_;clear hS;intro b1 w hS;refine YZ hS .hd xxv yyz wwx ?_;generalize hA:(⟨#[UInt8.ofNat x.toNat]⟩:Η)=A;have Fm:A.size=1:=by rw[<- hA];rfl
 refine Q1 (by rw[Fm];decide) ?_;generalize hB:(⟨#[115,110,97,112,115,104,111,116,32]⟩:Η)++A=B;have TJ:B.size<=10:=by rw[<- hB,uus,Fm];decide
 refine Zt (by decide) ?_;refine Gp ?_;refine za (λh4=>?_) (λh4=>⟨_,⟨_,rfl,by omega,rfl⟩,aR hS⟩);refine Q1 (yyw (uuw TJ _) (by decide)) ?_;generalize hC:B++(⟨#[32]⟩:Η)=C;have hCs:C.size<=11:=by rw[<- hC,uus];exact uuw TJ _
 refine K1 (by decide) (by rw[xx4 (by omega)];omega) ?_;rw[show (n:Int).tdiv 16=((n / 16:Nat):Int) by rw[xx4 (by omega)];omega];refine Zt (by decide) ?_;rw[show ((n / 16:Nat):Int).tmod 8=((n / 16 % 8:Nat):Int) by rw[xx2 (by omega)];omega];refine Gp ?_;refine zW ?_;generalize IntKind.u8.wrap (49+((n / 16 % 8:Nat):Int))=y;refine zM hS (cells:=[.int .u8 y]) (by simp[ib,cQ,Value.cells]) ?_;clear hS;intro b2 w hS;refine YZ hS .hd xxv yyz wwx ?_;refine Q1 (yyw (uuw hCs _) (by show 11+1<=1000000;decide)) ?_;exact⟨_,⟨_,rfl,by rw[uus];show C.size+1<=40;omega,rfl⟩,aR hS⟩
def cHw(H:bw)(v:Ε)(l:Ψ)(k cN:Nat)(hv:de H 1 v l.length (l.map Value.string))(h1:0<k)(h2:k<=8)(hm:cN<=1000)(hn:l.length<=140737488351232):
  SP 39 [v,Γ k,Γ cN] [.mem H] (λu post=>∃(H':bw) (rs:Ψ),H.le H'/\rs.length<=cN/\(∀s∈rs,s.size<=40)/\de H' 1 u rs.length (rs.map Value.string)/\post=[.mem H']):=by
 refine Enzz λW F w hS=>?_;apply cRy;delta aI ai cR bR;refine⟨λus w=>∃(m:Nat) (u:Ε) (rs:Ψ),us=[u,Γ m]/\m<=l.length/\rs.length=m/\m<=cN/\(∀s∈rs,s.size<=40)/\SL W (.ob (bF u 9 1 m (rs.map Value.string))::.mem H::F) w,
  λus _=>match us with|[_,.int _ m]=>(l.length-m).toNat|_=>0,⟨0,_,[],rfl,by omega,rfl,by omega,by simp,bF.nil hS⟩,?_⟩
 clear hS;rintro v7 v8 w ⟨m,u,rs,cT,mR,Dw,vU,xt,hS⟩;cases cT;have gV:∀w,SL W (.ob (bF v7 9 1 m (rs.map Value.string))::.mem H::F) w ->
   ∃post,(∃(H':bw) (rs:Ψ),H.le H'/\rs.length<=cN/\(∀s∈rs,s.size<=40)/\de H' 1 v7 rs.length (rs.map Value.string)/\post=[.mem H'])/\SL W (app post F) w:=λw hS=>by
  obtain⟨H2,dF,hR,hS⟩:=zw (H:=H) (v:=v7) hS Xp;rw[<- Dw]at hR
  exact⟨_,⟨H2,rs,dF,by omega,xt,hR,rfl⟩,hS⟩
 refine zo hv ?_;refine Gp ?_;refine za (λh=>?_) (λh=>gV w hS);refine Gp ?_;refine za (λh3=>?_) (λh3=>gV w hS);clear gV;have cG:m<l.length:=by omega
 refine yT hS Xh hv cG (u:=.string l[m]) (by simp[cG]) ?_;refine Cc (cHv l[m] k h1 h2) ?_;clear hS;rintro v26 post ⟨r,rfl,cwt,rfl⟩ w hS;refine Gm λb w hS=>?_;refine zJ (n:=m) (m:=1) hS Xr (jR (cs:=[.string r]) hS .hd rfl) rfl rfl (by simp[Value.oneCell']) (by omega) (by omega) ?_;clear hS;intro u' w hS;refine Gp ?_;refine⟨⟨m+1,u',rs++[r],rfl,(by omega),(by simp[Dw]),(by omega),(λs hs=>by
  rcases zz6.1 hs with hs|hs
  ·exact xt s hs
  rw[zz8.1 hs];exact cwt),(by rw[zzt,zzr,yy8];exact aR hS)⟩,(by dsimp only;omega)⟩
def czr(H:bw)(v:Ε)(l:Ω)(cN:Nat)(hv:de H 1 v l.length (l.map (Value.int .i64)))(hm:cN<=1000)(hn:l.length<=140737488351232):
  SP 41 [v,Γ cN] [.mem H] (λu post=>∃(H':bw) (rs:Ω),H.le H'/\rs.length<=cN/\de H' 1 u rs.length (rs.map (Value.int .i64))/\post=[.mem H']):=by
 refine Enzz λW F w hS=>?_;apply cR3;delta aI ai bR;refine⟨λus w=>∃(m:Nat) (u:Ε) (rs:Ω),us=[u,Γ m]/\m<=l.length/\rs.length=m/\m<=cN/\SL W (.ob (bF u 3 1 m (rs.map (Value.int .i64)))::.mem H::F) w,
  λus _=>match us with|[_,.int _ m]=>(l.length-m).toNat|_=>0,⟨0,_,[],rfl,by omega,rfl,by omega,bF.nil hS⟩,?_⟩
 clear hS;rintro v7 v8 w ⟨m,u,rs,cT,mR,Dw,vU,hS⟩;cases cT;have gV:∀w,SL W (.ob (bF v7 3 1 m (rs.map (Value.int .i64)))::.mem H::F) w ->
   ∃post,(∃(H':bw) (rs:Ω),H.le H'/\rs.length<=cN/\de H' 1 v7 rs.length (rs.map (Value.int .i64))/\post=[.mem H'])/\SL W (app post F) w:=λw hS=>by
  obtain⟨H2,dF,hR,hS⟩:=zw (H:=H) (v:=v7) hS Xp;rw[<- Dw]at hR
  exact⟨_,⟨H2,rs,dF,by omega,hR,rfl⟩,hS⟩
 refine zo hv ?_;refine Gp ?_;refine za (λh=>?_) (λh=>gV w hS);refine Gp ?_;refine za (λh3=>?_) (λh3=>gV w hS);clear gV;have cG:m<l.length:=by omega
 refine yT hS Xh hv cG (u:=Γ l[m]) (by simp[cG]) ?_;refine Cg (yl l[m] 200 (by decide) (by decide)) λw hS=>?_;refine Gm λb w hS=>?_;refine zJ (n:=m) (m:=1) hS Xr (jR (cs:=[Γ (md l[m] 200:Int)]) hS .hd rfl) rfl rfl (by simp[Value.oneCell']) (by omega) (by omega) ?_;clear hS;intro u' w hS;refine Gp ?_;refine⟨⟨m+1,u',rs++[(md l[m] 200:Int)],rfl,(by omega),(by simp[Dw]),(by omega),(by rw[zzt,zzr,yy8];exact aR hS)⟩,(by dsimp only;omega)⟩
structure Es(s:g_):Prop where
 kind:1<=s.kind/\s.kind<=8
 n:0<=s.n/\s.n<=40
 pick:s.kind=2->s.n<5
 l:s.l.length<=4
 sg:s.sg.length<=1
 keep:s.keep.length<=20
 bare:(s.kind=1\/s.l=[]/\s.sg=[])/\(s.kind=8\/s.keep=[])
def Yh(H:bw)(x:mH)(s:g_)(k:Nat)(hx:lK H x s)(h1:0<k)(h2:k<=8)(l1:s.sg.length<=140737488351232)(l2:s.l.length<=140737488351232)(l3:s.keep.length<=140737488351232):
  SP 6 [agg (ji x),Γ k] [.mem H] (λv post=>∃(H':bw) (y:mH) (t:g_),H.le H'/\v=agg (ji y)/\lK H' y t/\Es t/\post=[.mem H']):=by
 refine Enzz λW F w hS=>?_;apply vc6;delta aI a_ aW vr ai bR;obtain⟨e1,e2,e3,Bq,sG,Df⟩:=hx;refine zu hS λxb w hS=>?_;unfold ji at hS;rw[e1,e2,e3]at hS
 have hk:=ix s.kind 24 (by decide);have nl:∀(H:bw) (sz:Nat),de H sz Θ 0 []:=de.nil;refine Gm λb w hS=>?_;refine Cg (yl s.kind 24 (by decide) (by decide)) λw hS=>?_;refine za (λh5=>?_) (λh5=>?_)
 ·refine Gn λw hS=>?_;refine Cc (Y6 H x.cv s.l k 4 sG h1 h2 (by decide) l2) ?_;clear hS;rintro u post ⟨H1,du,hR,rfl⟩ w hS;(try simp only[app]at hS);refine Gp ?_
  refine Cc (cHw H1 x.sv s.sg k 1 (Bq.mono du) h1 h2 (by decide) l1) ?_;clear hS;rintro u2 post ⟨H2,rs,dF,uV,_,pY,rfl⟩ w hS;try simp only[app]at hS
  obtain⟨a1,n1,c1,rfl⟩:=hR.J6;obtain⟨a2,n2,c2,rfl⟩:=pY.J6;refine Gn λw hS=>?_;refine⟨_,⟨H2,⟨1,0,.slice a2 n2 c2,.slice a1 n1 c1,kE,Θ⟩,⟨1,0,rs,(s.l.take 4).map (jK · k),kE,[]⟩,bw.le_trans du dF,rfl,⟨rfl,rfl,rfl,pY,hR.mono dF,nl _ _⟩,⟨⟨show (1:Int)<=1 by decide,show (1:Int)<=8 by decide⟩,⟨show (0:Int)<=0 by decide,show (0:Int)<=40 by decide⟩,λh=>absurd h (show ¬(1:Int)=2 by decide),?_,uV,zz4 _,⟨.inl rfl,.inr rfl⟩⟩,rfl⟩,aR hS⟩;show ((s.l.take 4).map (jK · k)).length<=4;rw[zzn,zzg];omega
 refine Gp ?_;have mk:∀(kd nn:Int) (ft:fZ),1<=kd->kd<=8->0<=nn->nn<=40->(kd=2->nn<5)->lK H ⟨kd,nn,Θ,Θ,ft,Θ⟩ ⟨kd,nn,[],[],ft,[]⟩/\Es ⟨kd,nn,[],[],ft,[]⟩:=λkd nn ft a1 a2 a3 a4 a5=>⟨⟨rfl,rfl,rfl,nl _ _,nl _ _,nl _ _⟩,⟨⟨a1,a2⟩,⟨a3,a4⟩,a5,zz4 _,zz4 _,zz4 _,⟨.inr ⟨rfl,rfl⟩,.inr rfl⟩⟩⟩;refine za (λh6=>?_) (λh6=>?_)
 ·refine Gp ?_;refine Cg (zQ s.n 5 (by decide) (by decide)) λw hS=>?_;have hb:=ix s.n 5 (by decide);obtain⟨m1,m2⟩:=mk 2 (md s.n 5:Int) kE (by decide) (by decide) (by omega) (by omega) (λ_=>by omega);exact⟨_,⟨H,⟨2,(md s.n 5:Int),Θ,Θ,kE,Θ⟩,_,bw.le_refl H,rfl,m1,m2,rfl⟩,aR hS⟩
 refine cA (λh7=>?_) (λh7=>?_)
 ·refine Gp ?_;refine yC (vs:=iU s.ft) hS Xh rfl (λj v h=>?_) ?_
  ·match j,h with
   | 0,h=>exact h
   | 1,h=>exact h
   | j+2,h=>simp[iU]at h
  refine Cg (qP s.ft) λw hS=>?_;unfold iU;refine Gn λw hS=>?_;obtain⟨m1,m2⟩:=mk 3 0 (CX s.ft) (by decide) (by decide) (by decide) (by decide) (λh=>absurd h (by decide));exact⟨_,⟨H,⟨3,0,Θ,Θ,CX s.ft,Θ⟩,_,bw.le_refl H,rfl,m1,m2,rfl⟩,aR hS⟩
 refine cA (λh8=>?_) (λh8=>?_)
 ·refine Gp ?_;have hb:=ix s.n 5 (by decide);refine Cg (zQ s.n 5 (by decide) (by decide)) λw hS=>?_;obtain⟨m1,m2⟩:=mk 4 (1+(md s.n 5:Int)) kE (by decide) (by decide) (by omega) (by omega) (λh=>absurd h (by decide));exact⟨_,⟨H,⟨4,1+(md s.n 5:Int),Θ,Θ,kE,Θ⟩,_,bw.le_refl H,rfl,m1,m2,rfl⟩,aR hS⟩
 refine cA (λh9=>?_) (λh9=>?_)
 ·refine Gp ?_;refine Cg (zQ s.n 40 (by decide) (by decide)) λw hS=>?_;have hb:=ix s.n 40 (by decide);obtain⟨m1,m2⟩:=mk 5 (md s.n 40:Int) kE (by decide) (by decide) (by omega) (by omega) (λh=>absurd h (by decide));exact⟨_,⟨H,⟨5,(md s.n 40:Int),Θ,Θ,kE,Θ⟩,_,bw.le_refl H,rfl,m1,m2,rfl⟩,aR hS⟩
 refine cA (λvJ=>?_) (λvJ=>?_)
 ·refine Gn λw hS=>?_;obtain⟨m1,m2⟩:=mk 6 0 kE (by decide) (by decide) (by decide) (by decide) (λh=>absurd h (by decide));exact⟨_,⟨H,⟨6,0,Θ,Θ,kE,Θ⟩,_,bw.le_refl H,rfl,m1,m2,rfl⟩,aR hS⟩
 refine cA (λA2=>?_) (λA2=>?_)
 ·refine Gp ?_;have hb:=ix s.n 4 (by decide);refine Cg (zQ s.n 4 (by decide) (by decide)) λw hS=>?_;obtain⟨m1,m2⟩:=mk 7 (1+(md s.n 4:Int)) kE (by decide) (by decide) (by omega) (by omega) (λh=>absurd h (by decide));exact⟨_,⟨H,⟨7,1+(md s.n 4:Int),Θ,Θ,kE,Θ⟩,_,bw.le_refl H,rfl,m1,m2,rfl⟩,aR hS⟩
 refine Gp ?_;refine Cc (czr H x.kv s.keep 20 Df (by decide) l3) ?_;clear hS;rintro u post ⟨H1,rs,du,uV,hR,rfl⟩ w hS;try simp only[app]at hS
 obtain⟨a1,n1,c1,rfl⟩:=hR.J6;refine Gn λw hS=>?_;exact⟨_,⟨H1,⟨8,0,Θ,Θ,kE,.slice a1 n1 c1⟩,⟨8,0,[],[],kE,rs⟩,du,rfl,⟨rfl,rfl,rfl,nl _ _,nl _ _,hR⟩,⟨⟨show (1:Int)<=8 by decide,show (8:Int)<=8 by decide⟩,⟨show (0:Int)<=0 by decide,show (0:Int)<=40 by decide⟩,λh=>absurd h (show ¬(8:Int)=2 by decide),zz4 _,zz4 _,uV,⟨.inr ⟨rfl,rfl⟩,.inl rfl⟩⟩,rfl⟩,aR hS⟩
