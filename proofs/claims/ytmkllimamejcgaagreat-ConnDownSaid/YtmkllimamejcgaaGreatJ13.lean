/- Part. -/
import Derived.Test.YtmkllimamejcgaaGreatJ12
import Derived.Shelf.SlSortCmp.NoneTotal
import Derived.Ground.SlsfProg
import Derived.Test.YtmkllimamejcgaaGreatProg
import Derived.Test.YtmkllimamejcgaaGreatChecked
namespace Go.Proofs.YtmkllimamejcgaaGreat
set_option linter.all false
set_option maxRecDepth 100000
open Go.RowKit Go.Sort Go.Shelf
def vv4:=@Tryz.underlying4
def xx2:=@Int.tdiv_eq_ediv_of_nonneg
def uur:=@ByteArray.size_append
def uuv:=@Nat.add_le_add_right
def cBx:Go.Shelf.Ren:=⟨λ| 6=>243|15=>192|14=>303|28=>266|29=>267|20=>346|21=>347|22=>348|23=>349|24=>350|25=>351|26=>352|27=>353|46=>376|47=>317|48=>318|49=>377|50=>378|57=>393|n=>n,λ| 22=>170|24=>361|25=>364|3=>3|39=>107|0=>0|53=>380|55=>163|4=>4|46=>373|45=>372|50=>352|5=>5|9=>9|66=>428|70=>432|76=>483|77=>484|n=>n,λ| n=>n⟩
def Xa:Go.Proofs.SlLaysF0.n6 Tryz.prog cBx where
 mixed:=by kernel_rfl
 f6 := ⟨ "slices.SortFunc[[]qanat/wheel.timer,qanat/wheel.timer]", by decide, Tryz.func243.trans (yyt some (by kernel_rfl))⟩
 f14 := ⟨ "slices.pdqsortCmpFunc[qanat/wheel.timer]", by decide, Tryz.func303.trans (yyt some (by kernel_rfl))⟩
 f15:=Tryz.func192.trans (yyt some (by kernel_rfl))
 f20 := ⟨ "slices.insertionSortCmpFunc[qanat/wheel.timer]", by decide, Tryz.func346.trans (yyt some (by kernel_rfl))⟩
 f21 := ⟨ "slices.heapSortCmpFunc[qanat/wheel.timer]", by decide, Tryz.func347.trans (yyt some (by kernel_rfl))⟩
 f22 := ⟨ "slices.breakPatternsCmpFunc[qanat/wheel.timer]", by decide, Tryz.func348.trans (yyt some (by kernel_rfl))⟩
 f23 := ⟨ "slices.choosePivotCmpFunc[qanat/wheel.timer]", by decide, Tryz.func349.trans (yyt some (by kernel_rfl))⟩
 f24 := ⟨ "slices.reverseRangeCmpFunc[qanat/wheel.timer]", by decide, Tryz.func350.trans (yyt some (by kernel_rfl))⟩
 f25 := ⟨ "slices.partialInsertionSortCmpFunc[qanat/wheel.timer]", by decide, Tryz.func351.trans (yyt some (by kernel_rfl))⟩
 f26 := ⟨ "slices.partitionEqualCmpFunc[qanat/wheel.timer]", by decide, Tryz.func352.trans (yyt some (by kernel_rfl))⟩
 f27 := ⟨ "slices.partitionCmpFunc[qanat/wheel.timer]", by decide, Tryz.func353.trans (yyt some (by kernel_rfl))⟩
 f28:=Tryz.func266.trans (yyt some (by kernel_rfl))
 f29:=Tryz.func267.trans (yyt some (by kernel_rfl))
 f46 := ⟨ "slices.siftDownCmpFunc[qanat/wheel.timer]", by decide, Tryz.func376.trans (yyt some (by kernel_rfl))⟩
 f47:=Tryz.func317.trans (yyt some (by kernel_rfl))
 f48:=Tryz.func318.trans (yyt some (by kernel_rfl))
 f49 := ⟨ "slices.medianAdjacentCmpFunc[qanat/wheel.timer]", by decide, Tryz.func377.trans (yyt some (by kernel_rfl))⟩
 f50 := ⟨ "slices.medianCmpFunc[qanat/wheel.timer]", by decide, Tryz.func378.trans (yyt some (by kernel_rfl))⟩
 f57 := ⟨ "slices.order2CmpFunc[qanat/wheel.timer]", by decide, Tryz.func393.trans (yyt some (by kernel_rfl))⟩
 t0:=Tryz.underlying0
 a0:=Tryz.isAgg0
 z0:=Tryz.sizeOf0
 v0:=Tryz.zeroValue0
 t3:=yyc
 a3:=Tryz.isAgg3
 z3:=Tryz.sizeOf3
 v3:=Tryz.zeroValue3
 t4:=vv4
 a4:=Tryz.isAgg4
 z4:=Tryz.sizeOf4
 v4:=Tryz.zeroValue4
 t5:=wwt
 a5:=Tryz.isAgg5
 z5:=Tryz.sizeOf5
 v5:=Tryz.zeroValue5
 t9:=yy5
 a9:=Tryz.isAgg9
 z9:=Tryz.sizeOf9
 v9:=Tryz.zeroValue9
 t22:=Tryz.underlying170
 a22:=Tryz.isAgg170
 z22:=Tryz.sizeOf170
 v22:=Tryz.zeroValue170
 t25:=Tryz.underlying364
 a25:=Tryz.isAgg364
 z25:=Tryz.sizeOf364
 v25:=Tryz.zeroValue364
 t39:=Tryz.underlying107
 a39:=Tryz.isAgg107
 z39:=Tryz.sizeOf107
 v39:=Tryz.zeroValue107
 t45:=Tryz.underlying372
 a45:=Tryz.isAgg372
 z45:=Tryz.sizeOf372
 v45:=Tryz.zeroValue372
 t46:=Tryz.underlying373
 a46:=Tryz.isAgg373
 z46:=Tryz.sizeOf373
 v46:=Tryz.zeroValue373
 t50:=Tryz.underlying352
 a50:=Tryz.isAgg352
 z50:=Tryz.sizeOf352
 v50:=Tryz.zeroValue352
 t53:=Tryz.underlying380
 a53:=Tryz.isAgg380
 z53:=Tryz.sizeOf380
 v53:=Tryz.zeroValue380
 t55:=Tryz.underlying163
 a55:=Tryz.isAgg163
 z55:=Tryz.sizeOf163
 v55:=Tryz.zeroValue163
 t66:=Tryz.underlying428
 a66:=Tryz.isAgg428
 z66:=Tryz.sizeOf428
 v66:=Tryz.zeroValue428
 t70:=Tryz.underlying432
 a70:=Tryz.isAgg432
 z70:=Tryz.sizeOf432
 v70:=Tryz.zeroValue432
 t76:=Tryz.underlying483
 a76:=Tryz.isAgg483
 z76:=Tryz.sizeOf483
 v76:=Tryz.zeroValue483
 t77:=Tryz.underlying484
 a77:=Tryz.isAgg484
 z77:=Tryz.sizeOf484
 v77:=Tryz.zeroValue484
def Grown(W w:Ζ):Prop:=∃q os,w=grow (W.drewN q) os
def Grown.refl(W:Ζ):Grown W W:=⟨0,#[],by simp[World.drewN]⟩
def Grown.alloc{W w:Ζ}(h:Grown W w)(o:Obj):Grown W (w.alloc o):=by
 obtain⟨q,os,rfl⟩:=h;exact⟨q,os ++ #[o],by rw[alloc_eq_grow,grow_grow]⟩
def Grown.drew{W w:Ζ}(h:Grown W w):Grown W w.drew:=by
 obtain⟨q,os,rfl⟩:=h;exact⟨q+1,os,rfl⟩
section
variable {W0 W w:Ζ} {l l':Β} {P:Program}
def SX{cs:Ξ}{t:Ι}{K:Ε->Ζ->Prop}(hS:SL W l w)(hG:Grown W0 w)(h:∀b w',SL W (.pt b cs t::l) w'->Grown W0 w'->K (Δ b) w'):zh cs t w K:=h _ _ hS.new (hG.alloc _)
def bIz{K:Ζ->Prop}(hS:SL W l w)(hG:Grown W0 w)(h:∀w',SL W l w'->Grown W0 w'->K w'):zi w K:=h _ hS.drew hG.drew
def bIy{z cells:Ξ}{ps:List (Nat × Nat × Ε)}{e:Ι}{n:Nat}{K:Ε->Ζ->Prop}(hS:SL W l w)(hG:Grown W0 w)(hc:iz z ps=some cells)
  (h:∀b w',SL W (.pt b cells e::l) w'->Grown W0 w'->K (.slice (some ⟨b,0,none⟩) n n) w'):zn z ps e n w K:=⟨cells,hc,h _ _ hS.new (hG.alloc _)⟩
def SL.grow{os:Array Obj}(hS:SL W l w):SL W l (Go.Sort.grow w os):=
 ⟨hS.os,hS.tape,hS.output,let ⟨k,s,m⟩:=hS.out;⟨k,s,λb o e=>by
  have:=m b o e;have de:=(yy8.1 this).1;show (w.heap++os)[b]?=some o;rw[Array.getElem?_append_left de];exact this⟩⟩
def SL.none(w:Ζ):SL w [] w:=⟨rfl,rfl,rfl,bw.emp,rfl,λb o e=>by cases e⟩
def cww(F:Array Ε)(cells rest:Ξ)(h:cells.length=F.size):putCells id 0 F (cells++rest).toArray=(F.toList++rest).toArray:=by
 apply Array.ext_getElem?;intro k;simp only[putCells,Array.getElem?_mapIdx,List.getElem?_toArray];by_cases hk:k<F.size
 ·rw[zzs (by omega),zzs (by simpa using hk)];have e1:cells[k]?=some (cells[k]'(by omega)):=zzc (by omega);have fW:0<=k/\k<0+F.size:=by omega
  rw[e1];simp[hk,wwu]
 rw[yyb (by omega),yyb (by simpa using hk)];have fW:¬(0<=k/\k<0+F.size):=by omega
 simp only[fW,wwb,Array.length_toList,h];cases rest[k-F.size]?<;>rfl
def SL.putRow{b n:Nat}{t:Ι}{cells rest:Ξ}{F:Array Ε}(hS:SL W (.pt b (cells++rest) t::l) w)(h:cells.length=F.size):SL W (.pt b (F.toList++rest) t::l) (Go.Sort.putRow id (Go.Sort.ahead w n) b 0 F):=by
 obtain⟨f,hf,e⟩:=hS.oQ .hd;refine hS.rS (b:=b) (o':=.cells (F.toList++rest).toArray t f) .hd (λk hk=>by obtain⟨f,_,rfl⟩:=hk;exact⟨_,rfl⟩) ⟨f,by simpa [<- h] using hf,rfl⟩ ?_ ?_ rfl rfl rfl
 ·show (w.heap.modify b _)[b]?=_;rw[vvc];simp[e,onCells,cww F cells rest h]
 intro x hx;show (w.heap.modify b _)[x]?=_;rw[vvc,zzb (λe=>hx e.symm)]
def SR{α:Type}[Inhabited α]{enc:α->Ξ}{k:Nat}(hk:∀x,(enc x).length=k)(xs:List α):(flatK enc k xs.toArray).toList=(xs.map enc).flatten:=by
 have hl:=oV hk xs;refine uum λt=>?_;by_cases ht:t<xs.length*k
 ·have k0:0<k:=by
   rcases yyu k with h|h
   ·subst h;omega
   exact h
  have h1:t / k<xs.length:=(uup k0).2 ht;have h2:t % k<(enc xs[t / k]).length:=by rw[hk];exact vvg _ k0
  have h3:=pP hk xs (t / k) (t % k) xs[t / k] ((enc xs[t / k])[t % k]) (by simp[h1]) (by simp[h2]);rw[show t / k*k+t % k=t by rw[Nat.mul_comm];exact uub t k]at h3
  rw[h3];have h4:(flatK enc k xs.toArray)[t]! = (enc xs.toArray[t / k]!)[t % k]!:=get_flatK enc k xs.toArray t (by simpa using ht);have h5:xs.toArray[t / k]! = xs[t / k]:=by simp[h1,wwu]
  rw[h5]at h4
  rw[Array.getElem?_toList,wwn (by simpa using ht)];rw[wwu _ _ (by simpa using ht)]at h4
  rw[h4];congr 1;exact List.getElem!_eq_getElem?_getD.trans (by simp[h2])
 rw[yys (by simp;omega),yys (by omega)]
end
def s9(a b:Int):Int:=if a<b then -1 else if b<a then 1 else 0
def sc(x y:Tm):Int:=if s9 x.when y.when≠0 then s9 x.when y.when else s9 x.id y.id
def Vm(x y:Tm):sc x y<0↔pw x y:=by
 unfold sc s9 pw;repeat' split
 all_goals omega
def bZh(x y:Tm):ltOf sc x y=true↔pw x y:=by unfold ltOf;rw[uuf];exact Vm x y
def Bs(x y:Tm):ltOf sc x y=false↔¬pw x y:=by unfold ltOf;rw[xxc,Vm]
def Xt:SWO (ltOf sc) where
 irrefl x:=by rw[Bs];unfold pw;omega
 trans x y z h1 h2:=by rw[bZh]at *;unfold pw at *;omega
 ntrans x y z h1 h2:=by rw[Bs]at *;unfold pw at *;omega
def cDo(x y:Tm)(h1:ltOf sc x y=false)(h2:ltOf sc y x=false):x=y:=by
 rw[Bs]at *
 obtain⟨a,b⟩:=x;obtain⟨c,d⟩:=y;unfold pw at *
 simp only at *
 simp only[Tm.mk.injEq];omega
def uW(xs:List Tm):List Tm:=xs.mergeSort λx y=>!(ltOf sc) y x
def Xb(xs:List Tm):(uW xs).Perm xs:=List.mergeSort_perm _ _
def cBy(xs:List Tm):(uW xs).Pairwise λx y=>¬pw y x:=by
 have h:=List.pairwise_mergeSort (le:=λx y=>!(ltOf sc) y x) (λa b c h1 h2=>by
  simp only[wwk]at *;exact Xt.ntrans c b a h2 h1) (λa b=>by
  by_cases h:pw b a
  ·have:¬pw a b:=by unfold pw at *;omega
   simp[(Bs a b).2 this]
  simp[(Bs b a).2 h]) xs
 refine h.imp λ{x y} UD=>?_;rw[wwk]at UD
 exact (Bs y x).1 UD
def UZ{K:Ε->Ζ->Prop}{w:Ζ}{a:Int}(h:K (.bool false) w):aF 305 [Γ a] w K:=by
 apply cJa;unfold Oy;refine BK ?_;simpa using h
def UY{K:Ε->Ζ->Prop}{w:Ζ}{a:Int}(h:K (.bool false) w):aF 304 [Γ a] w K:=by
 apply XU;unfold G9;refine BK ?_;simpa using h
def aWt{K:Ε->Ζ->Prop}{w:Ζ}{a b:Int}(h:K (Γ (s9 a b)) w):aF 247 [Γ a,Γ b] w K:=by
 apply cH2;delta NO aI ai;unfold s9 at h;refine UZ (UZ (zp (zp (DU (za (λh1=>?_) (λh1=>Kw (za (λh2=>?_) (λh2=>?_))))))))
 ·rwa [zzd h1]at h
 ·rwa [zzb h1,zzd h2]at h
 rwa [zzb h1,zzb h2]at h
def aWr{K:Ε->Ζ->Prop}{w:Ζ}{a b:Int}(h:K (Γ (s9 a b)) w):aF 246 [Γ a,Γ b] w K:=by
 apply XS;delta G7 aI ai;unfold s9 at h;refine UY (UY (zp (zp (DU (za (λh1=>?_) (λh1=>Kw (za (λh2=>?_) (λh2=>?_))))))))
 ·rwa [zzd h1]at h
 ·rwa [zzb h1,zzd h2]at h
 rwa [zzb h1,zzb h2]at h
def cn6{K:Ε->Ζ->Prop}{W w:Ζ}{l:Β}{b:Nat}{c d:Int}{t:Ι}(hS:SL W (.pt b [Γ c,Γ d] t::l) w)(h:K (Γ (if c≠0 then c else d)) w):aF 245 [.slice (some ⟨b,0,none⟩) 2 2] w K:=by
 apply cH1;delta NN aI ai;refine ye ?_;refine⟨λus w'=>∃k:Nat,us=[Γ k]/\k<=2/\w'=w/\(1<=k->c=0)/\(2<=k->d=0),λus _=>match us with|[.int _ k]=>(2-k).toNat|_=>0,⟨0,rfl,by omega,rfl,by omega,by omega⟩,?_⟩;rintro v8 w' ⟨k,hv,hk,rfl,h1,h2⟩;cases hv;refine DU ?_;refine za (λde=>?_) (λde=>?_)
 ·have fW:k=0\/k=1:=by omega
  rcases fW with rfl|rfl
  ·refine zF (by decide) (zV hS .hd (v:=Γ c) rfl (BK (za (λhc=>?_) (λhc=>?_))))
   ·rwa [zzd hc]at h
   refine QQ (by decide) ⟨⟨1,rfl,by omega,rfl,λ_=>by omega,λh=>by omega⟩,by dsimp only;omega⟩
  have hc:=h1 (by omega);refine zF (by decide) (zV hS .hd (v:=Γ d) rfl (BK (za (λhd=>?_) (λhd=>?_))))
  ·rwa [zzb (by omega)]at h
  refine QQ (by decide) ⟨⟨2,rfl,by omega,rfl,λ_=>hc,λ_=>by omega⟩,by dsimp only;omega⟩
 have hc:=h1 (by omega);have hd:=h2 (by omega);rw[zzb (by omega),hd]at h
 exact h
def cDw(x y:Tm)(W:Ζ):aF 244 [agg (gm x),agg (gm y)] W λv w=>v= Γ (sc x y)/\Grown W w:=by
 apply cH0;delta NM a_ aR ai;have hS:=SL.none W;have hG:=Grown.refl W;refine⟨_,rfl,SX hS hG ?_⟩;clear hS hG;intro b1 w hS hG;refine⟨_,rfl,SX hS hG ?_⟩;clear hS hG;intro b2 w hS hG;refine bIz hS hG ?_;clear hS hG;intro w hS hG;refine Gp ?_;refine aWr ?_;refine Gp ?_;refine aWt ?_;refine bIy hS hG (cells:=[Γ (s9 x.when y.when),Γ (s9 x.id y.id)]) (by simp[iz,Value.cells,cK]) ?_;clear hS hG;intro b3 w hS hG;exact cn6 hS ⟨rfl,hG⟩
def cBz(v:Ε)(xs:List Tm)(hl:xs.length<=1000000):SP 243 [v,.func (.func 244) #[] #[]] [.ob (bR v 361 2 xs.length (xs.map gm).flatten)]
  (cE (.tuple #[]) [.ob (bR v 361 2 (uW xs).length ((uW xs).map gm).flatten)]):=by
 intro W F w hS;try simp only[app]at hS
 rcases bR.open hS with ⟨⟨a,rfl⟩,I9,xq,hS⟩|⟨b,cap,rest,rfl,o_,hlen,jP,hS⟩
 ·obtain rfl:xs=[]:=zzl I9;refine ttg (AnyF.slices_SortFunc_none Xa a 0 _ w) ?_;rintro e w' ⟨rfl,rfl⟩;have e:uW []=[]:=by simp[uW]
  rw[e];exact⟨_,rfl,_,⟨rfl,rfl⟩,hS⟩
 have na:=SR tf xs;have fX:(flatK gm 2 xs.toArray).size=(xs.map gm).flatten.length:=by rw[<- na];simp
 have hH:HoldsK gm 2 w b 0 xs.toArray:=λj hj=>by
  have IX:j<(xs.map gm).flatten.length:=by rw[<- fX];exact hj
  have e1:(flatK gm 2 xs.toArray)[j]! = (xs.map gm).flatten[j]:=by
   rw[wwu (flatK gm 2 xs.toArray) j hj];have:(flatK gm 2 xs.toArray).toList[j]?=(xs.map gm).flatten[j]?:=by rw[na]
   rw[Array.getElem?_toList,wwn hj,zzc IX]at this
   exact wwc this
  have hc:((xs.map gm).flatten++rest)[0+j]?=some (xs.map gm).flatten[j]:=by rw[yye,zzs IX,zzc IX]
  rw[e1];exact⟨hS.cell .hd hc,hS.frozen .hd hc⟩
 have hb:b<w.heap.size:=by
  obtain⟨f,_,e⟩:=hS.oQ .hd;exact (yy8.1 e).1
 have hK:=AnyQ.slices_SortFunc_total Xa 2 (λw=>by kernel_rfl) (λw=>by kernel_rfl) gm tf Cx sc Xt 244 #[] b 0 cap xs.toArray w
  (ttm Tryz.func244 (by kernel_rfl) rfl) (λm os dk _ x y=>by
   refine ttg (cDw x y (sortWorldK gm 2 w b 0 m dk os)) ?_;rintro e w' ⟨v,rfl,rfl,q,os',hw⟩;exact⟨rfl,q,os',hw⟩) hH hb (by simp;omega) cDo
 refine ttg hK ?_;rintro e w' ⟨rfl,n,os,rfl⟩;refine⟨_,rfl,_,⟨rfl,rfl⟩,?_⟩;have De:=Xb xs;have IS:=SR tf (uW xs);have bWp:(xs.map gm).flatten.length=(flatK gm 2 (uW xs).toArray).size:=by
  rw[oV tf,size_flatK,List.size_toArray,De.length_eq]
 have h2:=SL.grow (os:=os) (SL.putRow (n:=n) hS bWp);rw[IS]at h2
 rw[De.length_eq];exact bR.mk o_ (by rw[oV tf,De.length_eq]) jP h2
set_option maxRecDepth 100000
open Go.RowKit
instance:DecidableRel pw:=λa b=>inferInstanceAs (Decidable (a.when<b.when\/(a.when=b.when/\a.id<b.id)))
abbrev ids(L:List Tm):Ξ:=L.map λt=>Γ t.id
def bXi{L:List Tm}(hn:(L.map (·.id)).Nodup){a b:Tm}(ha:a∈L)(hb:b∈L)(h:a.id=b.id):a=b:=by
 induction L with
 | nil=>cases ha
 | cons x L ih=>
  rw[zzo,ww5]at hn
  rcases zz0.1 ha with rfl|sx<;>rcases zz0.1 hb with rfl|mF
  ·rfl
  ·exact absurd (zzx.2 ⟨b,mF,h.symm⟩) hn.1
  ·exact absurd (zzx.2 ⟨a,sx,h⟩) hn.1
  exact ih hn.2 sx mF
def cDx(wp:Nat)(L:List Tm)(now x:Int)(hn:L.length<=1000000)(hd:(L.map (·.id)).Nodup):SP 180 [Δ wp,Γ x] [.ob (iy wp L now)]
  (λv post=>∃D:List Tm,D.Perm (kz (max now (se x)) L)/\(D.Pairwise λx y=>¬pw y x)/\post=[.ob (iy wp (L.filter λt=>!decide (t.when<=max now (se x))) (max now (se x))),.ob (bR v 3 1 D.length (ids D))]):=by
 refine Enzz λW F w hS=>?_;apply cGc;delta MK aI a_ cV aR bV ai bI;obtain⟨xs,hx,hS⟩:=iy.iff.1 hS;refine Gn λw hS=>?_;refine zV hS Xh (D5 hx.len) ?_;refine Cg (Yy x) λw hS=>?_;refine zV hS Xh (D5 hx.len) ?_;refine Gp ?_;generalize max now (se x)=n2 at *
 refine Zz hS Xu (D5 hx.len) rfl ?_;clear hS;intro w hS;rw[cMe hx.len]at hS
 have na:(xs.flatMap (·.2)).length<=1000000:=by rw[hx.perm.length_eq];exact hn
 refine Cc (bwx wp xs n2 hx.len na) ?_;clear hS;rintro dv post rfl w hS;try simp only[app]at hS
 have pd:(kz n2 (xs.flatMap (·.2))).length<=1000000:=yy2 (yyp _ _) na;have TF:(kz n2 (xs.flatMap (·.2))).Perm (kz n2 L):=hx.perm.filter _;refine Cg (cBz dv _ pd) λw hS=>?_;have pY:=Xb (kz n2 (xs.flatMap (·.2)));have Bg:=cBy (kz n2 (xs.flatMap (·.2)));have Iw:=pY.trans TF;have E_:=pY.length_eq;generalize uW (kz n2 (xs.flatMap (·.2)))=D at *
 rw[<- E_]at pd
 clear pY TF;refine zu hS (t:=361) (sz:=2) (n:=D.length) (cells:=(D.map gm).flatten) Xh ?_;have hS:=iy.iff.2 ⟨xs,hx,SL.b_ hS (t:=.pt wp (jJ xs n2) 173::.ob (ze mv xs)::.ob (bR dv 361 2 D.length ((D.map gm).flatten))::F) Xi⟩;clear hx;have e0:L.filter (λt=>decide (t∉D.take 0))=L:=by simp
 refine⟨λus w=>∃(k:Nat) (o:Ε),us=[o,Γ k]/\k<=D.length/\SL W (.ob (bR o 3 1 k (ids (D.take k)))::.ob (iy wp (L.filter λt=>decide (t∉D.take k)) n2)::.ob (bR dv 361 2 D.length ((D.map gm).flatten))::F) w,
  λus _=>match us with|[_,.int _ k]=>(D.length-k).toNat|_=>0,⟨0,_,rfl,by omega,by rw[e0];exact bR.nil hS⟩,?_⟩
 clear hS e0;rintro v6 v25 w ⟨k,o,cP,hk,hS⟩;cases cP;refine bZ (λh=>?_) (λh=>?_)
 ·have mf:k<D.length:=by omega
  refine zT hS (t:=361) Xh tf (x:=D[k]) (by simp[mf]) mf ?_;refine zC hS ?_;clear hS;intro b w hS;refine zr (vs:=gm D[k]) hS .hd rfl rfl (Cx _) ?_;clear hS;intro w hS;refine Gp ?_;have IS:(L.filter λt=>decide (t∉D.take k)).length<=1000000:=yy2 (yyp _ _) hn;refine Cg (bwc wp _ n2 D[k].id IS) λw hS=>?_;refine Gm λb w hS=>?_;have ll:p4 (L.filter λt=>decide (t∉D.take k)) D[k].id=L.filter λt=>decide (t∉D.take (k+1)):=by
   unfold p4;rw[List.filter_filter];refine uuo λt ht=>?_;have hDm:D[k]∈L:=(yyz.1 (Iw.subset (zzh mf))).1;have xC:t∈D.take (k+1)↔t∈D.take k\/t=D[k]:=by rw[zze mf,zz5,zz7]
   have FA:t.id=D[k].id↔t=D[k]:=⟨λe=>bXi hd ht hDm e,λe=>by rw[e]⟩;rw[uuw];simp only[zzu,zzw,ne_eq];rw[xC,FA,not_or];first|exact And.comm|exact Iff.rfl
  rw[ll]at hS
  refine zI (n:=k) (m:=1) hS Xr (kf (cs:=[Γ D[k].id]) hS .hd rfl) rfl rfl (by simp[Value.oneCell']) (by omega) (by omega) ?_;clear hS;intro o2 w hS;refine Gp ?_;have ht:ids (D.take k)++[Γ D[k].id]=ids (D.take (k+1)):=by
   unfold ids;rw[zze mf,zzt];rfl
  rw[ht]at hS
  exact⟨⟨k+1,o2,by simp,by omega,aW hS⟩,by dsimp only;omega⟩
 have uE:k=D.length:=by omega
 subst uE;rw[zz4]at hS
 have e:L.filter (λt=>decide (t∉D))=L.filter λt=>!decide (t.when<=n2):=by
  refine uuo λt ht=>?_;have:t∈D↔t.when<=n2:=by
   rw[Iw.mem_iff];unfold kz;rw[yyz];simp[ht]
  by_cases hw:t.when<=n2
  ·simp[this,hw]
  have h3:t∉D:=λhm=>hw (this.1 hm);simp only[h3,not_false_eq_true,tti,hw,vvf,Bool.not_false]
 rw[e]at hS
 exact⟨_,⟨D,Iw,Bg,rfl⟩,aW hS⟩
def kM(p:s7)(c:dM)(H:bw)(s:eX):zB:=jK λh:Ε × Ε × Ε=>zG (ie H ⟨s.held.aw,h.1,h.2.1⟩ s.held/\ji H h.2.2 s.k.reqs)
 [.pt p.wp (oK p.kp p.qp p.rp c.cJ s.held.aw h.1 h.2.1 s.n) 216,.pt p.kp (nT p.gp p.dp p.lp p.pp s.k.aw h.2.2) 90,.ob (gu p.gp s.k.ts),.ob (dd p.lp p.dp s.k.g),.ob (gD p.pp s.k.plan),.ob (Gate p.qp p.qb c.cap s.out (s.L.map iB)),kq p.rp c.b c.m c.j s.fL s.eI]
section
variable {W w:Ζ} {l F:Β} {p:s7} {c:dM} {H:bw} {s:eX}
def du.take(hS:SL W l w)(r:gd (.ob (du p c H s)) l F):SL W (.ob (bX p.dp s.k.d)::.ob (kM p c H s)::F) w:=by
 obtain⟨ov,nv,hi,hS⟩:=du.open hS r;obtain⟨rv,hr,hS⟩:=db.open hS Xr;have h2:SL W (.ob (kM p c H s)::.ob (bX p.dp s.k.d)::F) w:=by
  unfold kM;simp only[SL.ex,SL.fact,zzv,zzr];exact⟨(ov,nv,rv),⟨hi,hr⟩,aW hS⟩
 exact h2.perm (.swap _ _ _)
def kM.open(hS:SL W l w)(r:gd (.ob (kM p c H s)) l F):∃ov nv rv,ie H ⟨s.held.aw,ov,nv⟩ s.held/\ji H rv s.k.reqs/\SL W (.pt p.wp (oK p.kp p.qp p.rp c.cJ s.held.aw ov nv s.n) 216::.pt p.kp (nT p.gp p.dp p.lp p.pp s.k.aw rv) 90::.ob (gu p.gp s.k.ts)::.ob (dd p.lp p.dp s.k.g)::.ob (gD p.pp s.k.plan)::.ob (Gate p.qp p.qb c.cap s.out (s.L.map iB))::kq p.rp c.b c.m c.j s.fL s.eI::F) w:=by
 have h:=hS.perm r.perm;unfold kM at h;simp only[SL.ex,SL.fact,zzv,zzr]at h;obtain⟨⟨ov,nv,rv⟩,⟨hi,hr⟩,h⟩:=h;exact⟨ov,nv,rv,hi,hr,h⟩
def du.xa(s:eX)(d:DS)(hS:SL W l w)(k:gC [.ob (bX p.dp d),.ob (kM p c H s)] l F):SL W (.ob (du p c H {s with k:={s.k with d:=d}})::F) w:=by
 have hS:SL W (.ob (bX p.dp d)::.ob (kM p c H s)::F) w:=hS.pick k;obtain⟨ov,nv,rv,hi,hr,hS⟩:=kM.open hS Xr;have hS:=db.eS (g:=s.k.g) (d:=d) (ts:=s.k.ts) (plan:=s.k.plan) (aw:=s.k.aw) (reqs:=s.k.reqs) hS hr Xp;exact du.eS (k:={s.k with d:=d}) (L:=s.L) (held:=s.held) (n:=s.n) hS hi Xp
end
structure ic where
 np:Nat
 w:s7
 sp:Nat
 tp:Nat
 sl:Nat
 rb:Nat
 mp:Nat
 wi:Nat
 sn:Nat
 dg:Nat
 bp:Nat
 ck:Nat
abbrev sN(p:ic)(cf:dF)(pos:Int)(dv:Ε):Ξ:=[iL p.w.kp,cG p.sp,cG p.rb,Γ pos,cG p.mp,cG p.sn,cG p.w.qp,cG p.w.rp,cG p.w.wp,cG p.bp,dv,Γ cf.tables,Γ cf.late,Γ cf.size,Γ cf.queue,Γ cf.chunk,Γ cf.batch,Γ cf.base,Γ cf.cJ,Γ cf.sI,Γ cf.every,cG p.w.dp,cG p.ck]
def jT(t:cF):Η:=dY (gi t)
def wS(n:Int):Ξ:=[Γ n]
abbrev sY(v:Ε)(l:Ω):Μ:=.ob (dt v 2 1 l.length (l.map wS).flatten)
abbrev Ld(p:ic)(cf:dF)(kc:dM)(H:bw)(c:bW)(dv:Ε):Β:=[.pt p.np (sN p cf c.pos dv) 84,sY dv c.dy,.ob (du p.w kc H c.s),.ob (df p.sp p.tp p.w.dp p.sl c.k),.ob (cW p.mp p.wi H c.m),.pt p.sn (jq p.sp p.mp p.wi p.dg cf.chunk) 208,.ob (fw p.dg c.dr),.ob (Ring p.rb kc.cap (c.q.map jT)),.ob (iy p.ck [] c.now),jh p.bp cf.every c.due c.last]
def cx(p:ic)(cf:dF)(kc:dM)(H:bw)(c:bW):zB:=jK λdv:Ε=>zG True (Ld p cf kc H c dv)
section
variable {W w:Ζ} {l F:Β} {p:ic} {cf:dF} {kc:dM} {H:bw} {c:bW}
def cx.iff:SL W (.ob (cx p cf kc H c)::l) w↔∃dv,SL W (.pt p.np (sN p cf c.pos dv) 84::sY dv c.dy::.ob (du p.w kc H c.s)::.ob (df p.sp p.tp p.w.dp p.sl c.k)::.ob (cW p.mp p.wi H c.m)::.pt p.sn (jq p.sp p.mp p.wi p.dg cf.chunk) 208::.ob (fw p.dg c.dr)::.ob (Ring p.rb kc.cap (c.q.map jT))::.ob (iy p.ck [] c.now)::jh p.bp cf.every c.due c.last::l) w:=by
 unfold cx;simp only[SL.ex,SL.fact,zzv,zzr,uut]
def cx.open(hS:SL W l w)(r:gd (.ob (cx p cf kc H c)) l F):∃dv,SL W (.pt p.np (sN p cf c.pos dv) 84::sY dv c.dy::.ob (du p.w kc H c.s)::.ob (df p.sp p.tp p.w.dp p.sl c.k)::.ob (cW p.mp p.wi H c.m)::.pt p.sn (jq p.sp p.mp p.wi p.dg cf.chunk) 208::.ob (fw p.dg c.dr)::.ob (Ring p.rb kc.cap (c.q.map jT))::.ob (iy p.ck [] c.now)::jh p.bp cf.every c.due c.last::F) w:=cx.iff.1 (hS.perm r.perm)
def cx.put(c:bW){dv:Ε}(hS:SL W l w)(k:gC (Ld p cf kc H c dv) l F):SL W (.ob (cx p cf kc H c)::F) w:=cx.iff.2 ⟨dv,hS.pick k⟩
def cx.eS{s:eX}{k:cN}{m:dD}{dr:dB}{q:List cF}{pos due last:Int}{dy:Ω}{now:Int}{dv:Ε}(hS:SL W l w)(r:gC [.pt p.np (sN p cf pos dv) 84,sY dv dy,.ob (du p.w kc H s),.ob (df p.sp p.tp p.w.dp p.sl k),.ob (cW p.mp p.wi H m),.pt p.sn (jq p.sp p.mp p.wi p.dg cf.chunk) 208,.ob (fw p.dg dr),.ob (Ring p.rb kc.cap (q.map jT)),.ob (iy p.ck [] now),jh p.bp cf.every due last] l F):SL W (.ob (cx p cf kc H ⟨s,k,m,dr,q,pos,due,last,dy,now⟩)::F) w:=cx.iff.2 ⟨dv,hS.pick r⟩
def cx.mono{H':bw}(hh:H.le H')(h:SL W (.ob (cx p cf kc H c)::l) w):SL W (.ob (cx p cf kc H' c)::l) w:=by
 obtain⟨dv,hS⟩:=cx.iff.1 h;have hS:=du.je hh hS Xr;have hS:=cW.je hh hS Xr;exact cx.put c hS Xp
end
section
variable (p:ic) (cf:dF) (kc:dM) (H:bw) (c:bW)
def Qq(n:Int)(hn:0<=c.now/\c.now<=1125899906842624):SP 118 [cG p.np,Γ n] [.ob (cx p cf kc H c)] (cE (Γ (c.tick n).2) [.ob (cx p cf kc H (c.tick n).1)]):=by
 refine Enzz λW F w hS=>?_;apply cEt;delta LM aI bU aR bV ai;unfold bW.tick;refine bZ (λh=>?_) (λh1=>?_)
 ·rw[zzd (.inl h)];(exact cC hS)
 refine bZ (λh=>?_) (λh2=>?_)
 ·rw[zzd (.inr (by omega))];(exact cC hS)
 rw[zzb (by omega)];obtain⟨dv,hS⟩:=cx.open hS Xr;refine Gp ?_;refine Cg (zY p.ck [] c.now) λw hS=>?_;refine za (λh=>?_) (λh3=>?_)
 ·rw[zzd (by omega)];have hS:=cx.put c hS Xp;(exact cC hS)
 rw[zzb (by omega)];refine Gn λw hS=>?_;refine Cg (zY p.ck [] c.now) λw hS=>?_;refine Cc (cDx p.ck [] c.now (c.now+n) (by simp) (by simp)) ?_;clear hS;rintro v post ⟨D,_,_,rfl⟩ w hS;try simp only[app]at hS
 have e:max c.now (se (c.now+n))=c.now+n:=by unfold se;omega
 rw[e,List.filter_nil]at hS
 have hS:=cx.eS (s:=c.s) (k:=c.k) (m:=c.m) (dr:=c.dr) (q:=c.q) (pos:=c.pos) (due:=c.due) (last:=c.last) (dy:=c.dy) hS Xp;(exact cC hS)
def aR7(x:Int):SP 121 [cG p.np,Γ x] [.ob (cx p cf kc H c)] (cE (Γ (c.re x).2) [.ob (cx p cf kc H (c.re x).1)]):=by
 refine Enzz λW F w hS=>?_;apply cEw;delta LP aI bU ai;unfold bW.re;refine bZ (λh=>?_) (λh1=>?_)
 ·rw[zzd (.inl h)];(exact cC hS)
 refine bZ (λh=>?_) (λh2=>?_)
 ·rw[zzd (.inr (by omega))];(exact cC hS)
 rw[zzb (by omega)];obtain⟨dv,hS⟩:=cx.open hS Xr;have hS:=du.take hS Xr;refine Gp ?_;refine Cg (aIr p.w.dp c.s.k.d x) λw hS=>?_;have hS:=du.xa c.s (c.s.k.d.oh x) hS Xp;have hS:=cx.eS (p:=p) (cf:=cf) (s:={c.s with k:={c.s.k with d:=c.s.k.d.oh x}}) (k:=c.k) (m:=c.m) (dr:=c.dr) (q:=c.q) (pos:=c.pos) (due:=c.due) (last:=c.last) (dy:=c.dy) (now:=c.now) hS Xp;(exact cC hS)
def q9(x:Int)(hd:c.dy.length<=1024):SP 119 [cG p.np,Γ x] [.ob (cx p cf kc H c)] (cE (Γ (c.drawn x).2) [.ob (cx p cf kc H (c.drawn x).1)]):=by
 refine Enzz λW F w hS=>?_;apply cEu;delta LN aI a_ bV ai;unfold bW.drawn;refine bZ (λh=>?_) (λh1=>?_)
 ·rw[zzd (.inl h)];(exact cC hS)
 refine bZ (λh=>?_) (λh2=>?_)
 ·rw[zzd (.inr (by omega))];(exact cC hS)
 rw[zzb (by omega)];obtain⟨dv,hS⟩:=cx.open hS Xr;refine Gp ?_;refine zJ hS (v:=dv) Xh ?_;refine bZ (λh=>?_) (λh3=>?_)
 ·rw[zzd (by omega)];have hS:=cx.put c hS Xp;(exact cC hS)
 rw[zzb (by omega)];refine Gm λb w hS=>?_;refine qN (t:=2) (n:=c.dy.length) (xs:=c.dy) (y:=x) (enc:=wS) hS Xr Xh (λ_=>rfl) (by simp[wS,Value.oneCell']) rfl rfl (by omega) (by omega) ?_;clear hS;intro nv w hS;have h1:=dt.one hS .hd;refine Gn λw hS=>?_;have hS:SL W (.pt p.np (sN p cf c.pos nv) 84::.ob (dt nv 2 1 (c.dy.length+1) ((c.dy++[x]).map wS).flatten)::.ob (du p.w kc H c.s)::.ob (df p.sp p.tp p.w.dp p.sl c.k)::.ob (cW p.mp p.wi H c.m)::.pt p.sn (jq p.sp p.mp p.wi p.dg cf.chunk) 208::.ob (fw p.dg c.dr)::.ob (Ring p.rb kc.cap (c.q.map jT))::.ob (iy p.ck [] c.now)::jh p.bp cf.every c.due c.last::F) w:=aW hS;rw[show c.dy.length+1=(c.dy++[x]).length by simp]at hS
 have hS:=cx.eS (p:=p) (cf:=cf) (s:=c.s) (k:=c.k) (m:=c.m) (dr:=c.dr) (q:=c.q) (pos:=c.pos) (due:=c.due) (last:=c.last) (dy:=c.dy++[x]) (now:=c.now) hS Xp;(exact cC hS)
end
section
variable (p:ic) (cf:dF) (kc:dM) (H:bw) (c:bW)
def Yu(v:iD)(t:cD)(hv:ie H v t)(hm:eC t=true)(hr:c.s.L.length+c.s.out<kc.cap):SP 168 [cG p.np,agg (eP v)] [.ob (cx p cf kc H c),.mem H] (cE (Γ 0) [.ob (cx p cf kc H (c.put t)),.mem H]):=by
 refine Enzz λW F w hS=>?_;apply cFz;delta Mx aI a_ bV ai;refine zw hS λxb w hS=>?_;refine Gp ?_;refine Cc (YL H v t hv) ?_;clear hS;rintro r post hq w hS;unfold BZ at hq;rw[Rz hm]at hq
 obtain⟨bv,rfl,rfl⟩:=hq;try simp only[app]at hS
 obtain⟨dv,hS⟩:=cx.open hS Xr;obtain⟨ov,nv,hi,hS⟩:=du.open hS Xr;refine Gp ?_;refine za (λ_=>?_) (λh=>absurd rfl h);refine Gn λw hS=>?_;obtain⟨a,ca,hb,_⟩:=bR.at hS (v:=bv) (t:=5) (sz:=1) (n:=(gl t).length) (cells:=(gl t).map cX) Xh;have gU:=nk hS (v:=bv) (t:=5) (sz:=1) Xh;refine Zc ⟨_,_,_,hb⟩ gU xxt yy5 wwt ?_;refine Cg (bRd p.w.qp p.w.qb kc.cap c.s.out (c.s.L.map iB) (iB t) (by rw[zzn];exact hr)) λw hS=>?_;rw[show c.s.L.map iB++[iB t]=(c.s.L++[t]).map iB by simp]at hS
 have hS:=du.eS (p:=p.w) (c:=kc) (H:=H) (k:=c.s.k) (L:=c.s.L++[t]) (out:=c.s.out) (fL:=c.s.fL) (eI:=c.s.eI) (held:=c.s.held) (n:=c.s.n) hS hi Xp;have hS:=cx.eS (p:=p) (cf:=cf) (k:=c.k) (m:=c.m) (dr:=c.dr) (q:=c.q) (pos:=c.pos) (due:=c.due) (last:=c.last) (dy:=c.dy) (now:=c.now) hS Xp;have hS:SL W (.ob (cx p cf kc H (c.put t))::_) w:=hS;(exact cC hS)
def aWi(hq:c.q=[]):SP 62 [cG p.np] [.ob (cx p cf kc H c)] (cE (.tuple #[agg (fr Ag),.bool false]) [.ob (cx p cf kc H c)]):=by
 refine Enzz λW F w hS=>?_;apply XY;delta Hc a_ bV cL ai bI;refine Gb λzb w hS=>?_;obtain⟨dv,hS⟩:=cx.open hS Xr;rw[hq,yy7]at hS
 refine Gp ?_;refine Cg (Wf p.rb kc.cap) λw hS=>?_;refine zt (λ_=>?_) (λh=>by cases h);refine Gn λw hS=>?_;rw[show ([]:Ψ)=c.q.map jT by rw[hq];rfl]at hS
 have hS:=cx.put c hS Xp;(exact cC hS)
def RE(t:cF)(q:List cF)(hq:c.q=t::q)(hm:eg t=true):SP 62 [cG p.np] [.ob (cx p cf kc H c),.mem H] (λv post=>∃x H',H.le H'/\lF H' x t/\v= .tuple #[agg (fr x),.bool true]/\post=[.ob (cx p cf kc H' c),.mem H']):=by
 refine Enzz λW F w hS=>?_;apply XY;delta Hc a_ bV cL ai bI;refine Gb λzb w hS=>?_;obtain⟨dv,hS⟩:=cx.open hS Xr;rw[hq,zzo]at hS
 refine Gp ?_;refine Cg (Wg p.rb kc.cap (jT t) (q.map jT)) λw hS=>?_;refine zt (λh=>by cases h) (λ_=>?_);rw[show jT t::q.map jT=c.q.map jT by rw[hq];rfl]at hS
 have hS:=cx.put c hS Xp;refine Yf (bs:=gi t) hS yy5 xxt wwt λbv w hS=>?_;refine Cc (Z6 (.ob (bR bv 5 1 (gi t).length ((gi t).map cX))) H bv (gi t) dS.own) ?_;clear hS;rintro r post hd w hS;unfold wu at hd;rw[RA hm]at hd
 obtain⟨x,H',hh,rfl,hx,rfl⟩:=hd;try simp only[app]at hS
 have h1:∀v∈fr x,v.oneCell'=true:=AJ (aw:=x.aw) (kind:=x.kind) (mark:=x.mark) hx.cv.one hx.sv.one;refine Gm λb w hS=>?_;refine zr (vs:=fr x) hS Xu rfl rfl h1 λw hS=>?_;refine zA hS Xh rfl ?_;refine Gp ?_;refine zr (vs:=fr x) hS Xu rfl rfl h1 λw hS=>?_;refine zA hS Xh rfl ?_;have hS:=cx.mono hh (SL.b_ hS (t:=.ob (cx p cf kc H c)::.mem H'::F) Xi);exact⟨_,⟨x,H',hh,hx,rfl,rfl⟩,aW hS⟩
end
def lF.Bz{H:bw}{x:mU}{t:cF}(hx:lF H x t):∀v∈fr x,v.oneCell'=true:=AJ (aw:=x.aw) (kind:=x.kind) (mark:=x.mark) hx.cv.one hx.sv.one
def BY(p:ic)(cf:dF)(kc:dM)(H:bw)(y:bW × oM)(v:Ε)(post:Β):Prop:=v= .tuple #[Γ y.2.td,Γ y.2.err]/\∃H',H.le H'/\post=[.ob (cx p cf kc H' y.1),.mem H']
section
variable (p:ic) (cf:dF) (kc:dM) (H:bw) (c:bW)
def Qn(t:cF)(hr:c.k.gX (c.pos+1)= .ok t)(hm:eg t=true)(hq:c.q.length<kc.cap)(hp:0<=c.pos/\c.pos<=1099511627776){N:Nat}(hg:iu c.k.g N)(hN:N<=1000000000):SP 112 [cG p.np] [.ob (cx p cf kc H c),.mem H] (BY p cf kc H ({c with q:=c.q++[t],pos:=c.pos+1},⟨0,0,1⟩)):=by
 refine Enzz λW F w hS=>?_;apply cEn;delta LG aI a_ aR bV ai bI;refine⟨λus w=>∃(b:Nat) (x:mU) (H':bw),us=[cG b,Γ 0]/\H.le H'/\lF H' x t/\SL W (.pt b (fr x) 101::.ob (cx p cf kc H' c)::.mem H'::F) w,?_,?_⟩
 ·obtain⟨dv,hS⟩:=cx.open hS Xr;refine Gn λw hS=>?_;refine⟨?_,?_⟩
  ·refine Cc (yR p.sp p.tp p.w.dp p.sl c.k hg hN H (c.pos+1) (by omega)) ?_;clear hS;rintro r post hq w hS;unfold u_ at hq;rw[hr]at hq
   obtain⟨x,H',hh,rfl,hx,rfl⟩:=hq;refine Gm λb w hS=>?_;refine zr (vs:=fr x) hS Xu rfl rfl (hx.Bz) λw hS=>?_;have hS:=cx.mono hh (cx.put c hS Xp);exact⟨_,x,H',rfl,hh,hx,aW hS⟩
  refine Gm λb w hS=>?_;refine Cc (yR p.sp p.tp p.w.dp p.sl c.k hg hN H (c.pos+1) (by omega)) ?_;clear hS;rintro r post hq w hS;unfold u_ at hq;rw[hr]at hq
  obtain⟨x,H',hh,rfl,hx,rfl⟩:=hq;(try simp only[app]at hS);refine Gp ?_
  refine zr (vs:=fr x) hS Xu rfl rfl (hx.Bz) λw hS=>?_;have hS:=cx.mono hh (cx.put c hS Xp);exact⟨_,x,H',rfl,hh,hx,aW hS⟩
 clear hS;rintro v1 v2 w ⟨b,x,H',cP,hh,hx,hS⟩;cases cP;refine Gp ?_;refine za (λh=>absurd rfl h) (λ_=>?_);refine zA hS Xh rfl ?_;refine Cc (Z7 H' x t hx) ?_;clear hS;rintro r post ja w hS;unfold B0 at ja;rw[RC hm]at ja
 obtain⟨bv,rfl,rfl⟩:=ja;try simp only[app]at hS
 obtain⟨dv,hS⟩:=cx.open hS Xr;refine Gp ?_;refine za (λh=>absurd rfl h) (λ_=>?_);refine Gn λw hS=>?_;obtain⟨a,ca,hb,_⟩:=bR.at hS (v:=bv) (t:=5) (sz:=1) (n:=(nG t).length) (cells:=(nG t).map cX) Xh;have gU:=nk hS (v:=bv) (t:=5) (sz:=1) Xh;refine Zc ⟨_,_,_,hb⟩ gU xxt yy5 wwt ?_;refine Cc (YM p.rb kc.cap (c.q.map jT) (dY (nG t))) ?_;clear hS;rintro v post ⟨rfl,rfl⟩ w hS;try simp only[app]at hS
 rw[zzd (by rw[zzn];exact hq),show c.q.map jT++[dY (nG t)]=(c.q++[t]).map jT by simp[jT,gi]]at hS
 refine Gn λw hS=>?_;have hS:=cx.eS (p:=p) (cf:=cf) (kc:=kc) (H:=H') (s:=c.s) (k:=c.k) (m:=c.m) (dr:=c.dr) (q:=c.q++[t]) (pos:=c.pos+1) (due:=c.due) (last:=c.last) (dy:=c.dy) (now:=c.now) hS Xp;exact⟨_,⟨rfl,H',hh,rfl⟩,aW hS⟩
def Qo(t:cF)(q:List cF)(m':dD)(x:cD)(hq:c.q=t::q)(hm:eg t=true)(ma:0<c.jV kc)(sF:c.m.take t=(m',(x,0)))(uG:eC x=true)(sE:c.m.Ok)(hid : -9223372036854775808<=c.m.cB.id/\c.m.cB.id<=9223372036854775807):SP 113 [cG p.np] [.ob (cx p cf kc H c),.mem H] (BY p cf kc H (({c with q:=q,m:=m'}:bW).Ad x,⟨0,0,2⟩)):=by
 refine Enzz λW F w hS=>?_;apply cEo;delta LH aI a_ aR bV Eh ai bI;refine Cc (RE p cf kc H c t q hq hm) ?_;clear hS;rintro r post ⟨tx,H1,dj,hx,rfl,rfl⟩ w hS;refine Gm λb w hS=>?_;refine zr (vs:=fr tx) hS Xu rfl rfl hx.Bz λw hS=>?_;obtain⟨dv,hS⟩:=cx.open hS Xr;rw[hq,zzo]at hS
 refine Gp ?_;refine Cg (Wj p.rb kc.cap (jT t) (q.map jT)) λw hS=>?_;refine⟨λus w=>∃(b:Nat) (y:iD) (H':bw),us=[cG b,Γ 0]/\H.le H'/\ie H' y x/\SL W (.pt b (eP y) 214::.ob (cx p cf kc H' {c with q:=q,m:=m'})::.mem H'::F) w,?_,?_⟩
 ·refine Gn λw hS=>?_;refine⟨?_,?_⟩
  ·refine Cc (Z2 p.mp p.wi H1 c.m sE tx t hx hid) ?_;clear hS;rintro r post ⟨y,H2,dU,rfl,hy,rfl⟩ w hS;rw[sF]at hy hS ⊢
   refine Gm λb w hS=>?_;refine zr (vs:=eP y) hS Xu rfl rfl (mD hy) λw hS=>?_;have hS:=du.je dU hS Xr;have hS:=cx.eS (p:=p) (cf:=cf) (kc:=kc) (H:=H2) (s:=c.s) (k:=c.k) (m:=m') (dr:=c.dr) (q:=q) (pos:=c.pos) (due:=c.due) (last:=c.last) (dy:=c.dy) (now:=c.now) hS Xp;exact⟨_,y,H2,rfl,bw.le_trans dj dU,hy,aW hS⟩
  refine Gm λb w hS=>?_;refine Cc (Z2 p.mp p.wi H1 c.m sE tx t hx hid) ?_;clear hS;rintro r post ⟨y,H2,dU,rfl,hy,rfl⟩ w hS;rw[sF]at hy hS ⊢
  (try simp only[app]at hS);refine Gp ?_
  refine zr (vs:=eP y) hS Xu rfl rfl (mD hy) λw hS=>?_;have hS:=du.je dU hS Xr;have hS:=cx.eS (p:=p) (cf:=cf) (kc:=kc) (H:=H2) (s:=c.s) (k:=c.k) (m:=m') (dr:=c.dr) (q:=q) (pos:=c.pos) (due:=c.due) (last:=c.last) (dy:=c.dy) (now:=c.now) hS Xp;exact⟨_,y,H2,rfl,bw.le_trans dj dU,hy,aW hS⟩
 clear hS;rintro v1 v2 w ⟨b,y,H',cP,hh,hy,hS⟩;cases cP;have vI:=(oF.1 uG).1;refine Gp ?_;refine za (λ_=>?_) (λh=>absurd rfl h);refine Gp ?_;refine zo hy.ops ?_;refine Gp ?_;refine zo hy.iS ?_;refine Gp ?_;unfold bW.Ad;refine za (λh=>?_) (λh=>?_)
 ·rw[zzd (by omega)];refine zA hS Xh rfl ?_;have bUm:c.s.L.length+c.s.out<kc.cap:=by unfold bW.jV at ma;omega
  refine Cc (Yu p cf kc H' {c with q:=q,m:=m'} y x hy uG bUm) ?_;clear hS;rintro _ post ⟨rfl,rfl⟩ w hS;try simp only[app]at hS
  have hS:SL W (.ob (cx p cf kc H' ⟨{c.s with L:=c.s.L++[x]},c.k,m',c.dr,q,c.pos,c.due,c.last,c.dy,c.now⟩)::_) _:=hS;obtain⟨dv,hS⟩:=cx.open hS Xr;dsimp only at hS;refine Gn λw hS=>?_;refine Cg (Yl p.bp cf.every c.due c.last y.aw) λw hS=>?_;refine za (λh=>absurd rfl h) (λ_=>?_);rw[hy.aw]at hS
  have hS:=cx.eS (p:=p) (cf:=cf) (kc:=kc) (H:=H') (s:={c.s with L:=c.s.L++[x]}) (k:=c.k) (m:=m') (dr:=c.dr) (q:=q) (pos:=c.pos) (due:=c.due) (last:=max c.last x.aw) (dy:=c.dy) (now:=c.now) hS Xp;exact⟨[.ob (cx p cf kc H' ⟨{c.s with L:=c.s.L++[x]},c.k,m',c.dr,q,c.pos,c.due,max c.last x.aw,c.dy,c.now⟩),.mem H'],⟨rfl,H',hh,rfl⟩,aW hS⟩
 rw[zzb (by omega)];refine Gp ?_;refine za (λh=>absurd rfl h) (λ_=>?_);exact⟨_,⟨rfl,H',hh,rfl⟩,aW hS⟩
def qr{cO f N m:Nat}(hI:pC kc cO c.s f)(hf:f<=1000000)(hk:B5 c.s.k N m)(hd:c.dy.length<=1024):SP 115 [cG p.np] [.ob (cx p cf kc H c),.mem H] (BY p cf kc H (c.write kc)):=by
 refine Enzz λW F w hS=>?_;apply cEq;delta LJ aI bU a_ aR bV ai;refine⟨λus w=>us=[Γ c.draw]/\SL W (.ob (cx p cf kc H c)::.mem H::F) w,?_,?_⟩
 ·obtain⟨dv,hS⟩:=cx.open hS Xr;refine Gp ?_;refine zJ hS (v:=dv) Xh ?_;refine bZ (λh=>?_) (λh=>?_)
  ·have hx:c.dy[0]?=some c.draw:=by
    unfold bW.draw;cases hc:c.dy with
    | nil=>rw[hc]at h;simp at h
    | cons a l=>rfl
   refine Gp ?_;refine y1 (j:=0) (k:=.i64) hS (v:=dv) Xh (by omega) λab ao hb=>⟨_,Γ c.draw,rfl,hb 0 _ (by decide) (pP (enc:=wS) (n:=1) (λ_=>rfl) c.dy 0 0 c.draw (Γ c.draw) hx rfl),?_⟩;have hS:=cx.put c hS Xp;exact⟨rfl,aW hS⟩
  have hS:=cx.put c hS Xp;refine⟨?_,aW hS⟩;have:c.dy=[]:=wwh.1 (by omega);unfold bW.draw;rw[this];rfl
 clear hS;rintro v1 w ⟨cP,hS⟩;cases cP;obtain⟨dv,hS⟩:=cx.open hS Xr;refine Gn λw hS=>?_;refine Cg (zY p.ck [] c.now) λw hS=>?_;refine Cc (cMt p.w kc H c.s c.now c.draw hI hf hk) ?_;clear hS;rintro _ post ⟨rfl,H',hh,rfl⟩ w hS;try simp only[app]at hS
 unfold bW.write;generalize c.s.step kc c.now c.draw=y at *
 obtain⟨s',td,err⟩:=y;dsimp only at hS ⊢;have hS:=cW.je hh hS Xr;refine bZ (λh=>?_) (λh=>?_)
 ·subst h;refine Gp ?_;refine zJ hS (v:=dv) Xh ?_;refine bZ (λh=>?_) (λh=>?_)
  ·refine Gp ?_;refine Yd (k:=1) (v:=dv) (Has.front hS Xr) (by omega) λu hS=>?_;rw[show (c.dy.map wS).flatten.drop (1*1)=(c.dy.tail.map wS).flatten by cases c.dy with|nil=>rfl|cons a l=>rfl,show c.dy.length-1=c.dy.tail.length by rw[List.length_tail]]at hS
   have h1:=dt.one hS .hd;refine Gn λw hS=>?_;have hS:=cx.eS (p:=p) (cf:=cf) (kc:=kc) (H:=H') (s:=s') (k:=c.k) (m:=c.m) (dr:=c.dr) (q:=c.q) (pos:=c.pos) (due:=c.due) (last:=c.last) (dy:=c.dy.tail) (now:=c.now) hS Xp;exact⟨[.ob (cx p cf kc H' ⟨s',c.k,c.m,c.dr,c.q,c.pos,c.due,c.last,c.dy.tail,c.now⟩),.mem H'],⟨rfl,H',hh,rfl⟩,aW hS⟩
  have e:c.dy.tail=c.dy:=by rw[wwh.1 (show c.dy.length=0 by omega)];rfl
  rw[zzd rfl,e];have hS:=cx.eS (p:=p) (cf:=cf) (kc:=kc) (H:=H') (s:=s') (k:=c.k) (m:=c.m) (dr:=c.dr) (q:=c.q) (pos:=c.pos) (due:=c.due) (last:=c.last) (dy:=c.dy) (now:=c.now) hS Xp;exact⟨_,⟨rfl,H',hh,rfl⟩,aW hS⟩
 rw[zzb h];have hS:=cx.eS (p:=p) (cf:=cf) (kc:=kc) (H:=H') (s:=s') (k:=c.k) (m:=c.m) (dr:=c.dr) (q:=c.q) (pos:=c.pos) (due:=c.due) (last:=c.last) (dy:=c.dy) (now:=c.now) hS Xp;exact⟨_,⟨rfl,H',hh,rfl⟩,aW hS⟩
def Qp(he:1<=cf.every/\cf.every<=1073741824)(tI:c.due<=c.now/\(c.m.at_<=c.last\/0<c.jV kc))(Bd:c.s.L.length+c.s.out<=kc.cap)(hm:¬c.m.at_<=c.last->eC ⟨c.m.at_,[],[]⟩=true):SP 116 [cG p.np] [.ob (cx p cf kc H c),.mem H] (BY p cf kc H (c.tell cf)):=by
 refine Enzz λW F w hS=>?_;apply cEr;delta LK aI aR bV Ei ai bI;have hr:c.due<=c.now/\(c.m.at_<=c.last\/0<((kc.cap-(c.s.L.map iB).length-c.s.out:Nat):Int)):=by
  rw[zzn];unfold bW.jV at tI;omega
 obtain⟨y,x,td,tM,hy,Dr,CV⟩:∃(y:iD) (x:cD) (td tM:Int),ie H y x/\(∀{v:Ε} {post:Β},(if c.m.at_<=c.last then v= .tuple #[agg (eP uP),Γ 9]/\post=[jh p.bp cf.every (jf cf.every c.now) c.last] else v= .tuple #[agg (eP ⟨c.m.at_,Θ,Θ⟩),Γ 8]/\post=[jh p.bp cf.every (jf cf.every c.now) c.m.at_])->v= .tuple #[agg (eP y),Γ td]/\post=[jh p.bp cf.every (jf cf.every c.now) tM])/\((c.m.at_<=c.last/\td=9/\tM=c.last)\/(¬c.m.at_<=c.last/\td=8/\tM=c.m.at_/\x=⟨c.m.at_,[],[]⟩)):=by
  by_cases h:c.m.at_<=c.last
  ·exact⟨uP,nR,9,c.last,⟨rfl,dq.nil _ _,dq.nil _ _⟩,λh2=>by rw[zzd h]at h2;exact h2,.inl ⟨h,rfl,rfl⟩⟩
  exact⟨⟨c.m.at_,Θ,Θ⟩,⟨c.m.at_,[],[]⟩,8,c.m.at_,⟨rfl,dq.nil _ _,dq.nil _ _⟩,λh2=>by rw[zzb h]at h2;exact h2,.inr ⟨h,rfl,rfl,rfl⟩⟩
 refine⟨λus w=>∃b:Nat,us=[cG b,Γ td]/\SL W (.pt b (eP y) 214::.ob (cx p cf kc H {c with due:=jf cf.every c.now,last:=tM})::.mem H::F) w,?_,?_⟩
 ·obtain⟨dv,hS⟩:=cx.open hS Xr;obtain⟨ov,nv,hi,hS⟩:=du.open hS Xr;refine Gn λw hS=>?_;refine⟨?_,?_⟩
  ·refine Cg (zY p.ck [] c.now) λw hS=>?_;refine⟨?_,?_⟩
   ·refine Cg (yv p.mp p.wi H c.m) λw hS=>?_;refine⟨?_,?_⟩
    ·refine Cg (zH p.w.qp p.w.qb kc.cap c.s.out (c.s.L.map iB)) λw hS=>?_;refine⟨?_,?_⟩
     ·refine Cc (yj p.bp cf.every c.due c.last c.now c.m.at_ _ he hr) ?_;clear hS;rintro _ post fS w hS;obtain⟨rfl,rfl⟩:=Dr fS;refine Gm λb w hS=>?_;refine zr (vs:=eP y) hS Xu rfl rfl (mD hy) λw hS=>?_;have hS:=du.put c.s hS hi Xp;have hS:=cx.eS (p:=p) (cf:=cf) (kc:=kc) (H:=H) (s:=c.s) (k:=c.k) (m:=c.m) (dr:=c.dr) (q:=c.q) (pos:=c.pos) (due:=jf cf.every c.now) (last:=tM) (dy:=c.dy) (now:=c.now) hS Xp;exact⟨_,rfl,aW hS⟩
     refine Gm λb w hS=>?_;refine Cc (yj p.bp cf.every c.due c.last c.now c.m.at_ _ he hr) ?_;clear hS;rintro _ post fS w hS;obtain⟨rfl,rfl⟩:=Dr fS;(try simp only[app]at hS);refine Gp ?_
     refine zr (vs:=eP y) hS Xu rfl rfl (mD hy) λw hS=>?_;have hS:=du.put c.s hS hi Xp;have hS:=cx.eS (p:=p) (cf:=cf) (kc:=kc) (H:=H) (s:=c.s) (k:=c.k) (m:=c.m) (dr:=c.dr) (q:=c.q) (pos:=c.pos) (due:=jf cf.every c.now) (last:=tM) (dy:=c.dy) (now:=c.now) hS Xp;exact⟨_,rfl,aW hS⟩
    refine Gm λb w hS=>?_;refine Cg (zH p.w.qp p.w.qb kc.cap c.s.out (c.s.L.map iB)) λw hS=>?_;refine Cc (yj p.bp cf.every c.due c.last c.now c.m.at_ _ he hr) ?_;clear hS;rintro _ post fS w hS;obtain⟨rfl,rfl⟩:=Dr fS;(try simp only[app]at hS);refine Gp ?_
    refine zr (vs:=eP y) hS Xu rfl rfl (mD hy) λw hS=>?_;have hS:=du.put c.s hS hi Xp;have hS:=cx.eS (p:=p) (cf:=cf) (kc:=kc) (H:=H) (s:=c.s) (k:=c.k) (m:=c.m) (dr:=c.dr) (q:=c.q) (pos:=c.pos) (due:=jf cf.every c.now) (last:=tM) (dy:=c.dy) (now:=c.now) hS Xp;exact⟨_,rfl,aW hS⟩
   refine Gm λb w hS=>?_;refine Cg (yv p.mp p.wi H c.m) λw hS=>?_;refine Cg (zH p.w.qp p.w.qb kc.cap c.s.out (c.s.L.map iB)) λw hS=>?_;refine Cc (yj p.bp cf.every c.due c.last c.now c.m.at_ _ he hr) ?_;clear hS;rintro _ post fS w hS;obtain⟨rfl,rfl⟩:=Dr fS;(try simp only[app]at hS);refine Gp ?_
   refine zr (vs:=eP y) hS Xu rfl rfl (mD hy) λw hS=>?_;have hS:=du.put c.s hS hi Xp;have hS:=cx.eS (p:=p) (cf:=cf) (kc:=kc) (H:=H) (s:=c.s) (k:=c.k) (m:=c.m) (dr:=c.dr) (q:=c.q) (pos:=c.pos) (due:=jf cf.every c.now) (last:=tM) (dy:=c.dy) (now:=c.now) hS Xp;exact⟨_,rfl,aW hS⟩
  refine Gm λb w hS=>?_;refine Cg (zY p.ck [] c.now) λw hS=>?_;refine Cg (yv p.mp p.wi H c.m) λw hS=>?_;refine Cg (zH p.w.qp p.w.qb kc.cap c.s.out (c.s.L.map iB)) λw hS=>?_;refine Cc (yj p.bp cf.every c.due c.last c.now c.m.at_ _ he hr) ?_;clear hS;rintro _ post fS w hS;obtain⟨rfl,rfl⟩:=Dr fS;(try simp only[app]at hS);refine Gp ?_
  refine zr (vs:=eP y) hS Xu rfl rfl (mD hy) λw hS=>?_;have hS:=du.put c.s hS hi Xp;have hS:=cx.eS (p:=p) (cf:=cf) (kc:=kc) (H:=H) (s:=c.s) (k:=c.k) (m:=c.m) (dr:=c.dr) (q:=c.q) (pos:=c.pos) (due:=jf cf.every c.now) (last:=tM) (dy:=c.dy) (now:=c.now) hS Xp;exact⟨_,rfl,aW hS⟩
 clear hS;rintro v1 v2 w ⟨b,cP,hS⟩;cases cP;unfold bW.tell;refine Gp ?_;rcases CV with ⟨h1,rfl,rfl⟩|⟨h1,rfl,rfl,rfl⟩
 ·refine za (λ_=>?_) (λh=>absurd (by decide) h);rw[zzd h1];exact⟨_,⟨rfl,H,bw.le_refl H,rfl⟩,aW hS⟩
 refine za (λh=>absurd rfl h) (λ_=>?_);rw[zzb h1];refine zA hS Xh rfl ?_;have bWg:c.s.L.length+c.s.out<kc.cap:=by unfold bW.jV at tI;omega
 refine Cg (Yu p cf kc H {c with due:=jf cf.every c.now,last:=c.m.at_} y ⟨c.m.at_,[],[]⟩ hy (hm h1) bWg) λw hS=>?_;refine za (λh=>absurd rfl h) (λ_=>?_);exact⟨[.ob (cx p cf kc H (bW.put {c with due:=jf cf.every c.now,last:=c.m.at_} ⟨c.m.at_,[],[]⟩)),.mem H],⟨rfl,H,bw.le_refl H,rfl⟩,aW hS⟩
end
def Ln(p:ic)(cf:dF)(kc:dM)(H:bw)(y:bW × Int)(v:Ε)(post:Β):Prop:=v= Γ y.2/\∃H',H.le H'/\post=[.ob (cx p cf kc H' y.1),.mem H']
section
variable (p:ic) (cf:dF) (kc:dM) (H:bw) (c:bW)
def qi(f:fT)(dW:c.s.k.plan.length<=1024):SP 117 [cG p.np,agg (iO f)] [.ob (cx p cf kc H c),.mem H] (Ln p cf kc H (c.fault f)):=by
 refine Enzz λW F w hS=>?_;apply cEs;delta LL aI aR bV cL ai;refine zw hS λxb w hS=>?_;refine Gp ?_;refine Cg (Yw f) λw hS=>?_;unfold bW.fault;refine zt (λh=>?_) (λh=>?_)
 ·rw[zzd h];exact⟨_,⟨rfl,H,bw.le_refl H,rfl⟩,aW hS⟩
 rw[zzb (by rw[h];decide)];obtain⟨dv,hS⟩:=cx.open hS Xr;obtain⟨ov,nv,hi,hS⟩:=du.open hS Xr;refine Gn λw hS=>?_;refine⟨?_,?_⟩
 ·refine Cg (Z1 p.w.kp p.w.gp p.w.dp p.w.lp p.w.pp H c.s.k) λw hS=>?_;refine Gm λb w hS=>?_;have hS:=bR.full (t:=33) (n:=1) (sz:=2) rfl hS;obtain⟨H1,dj,hv,hS⟩:=zz (H:=H) (v:=.slice (some ⟨b,0,none⟩) 1 1) hS Xp;have hv:dq H1 2 (.slice (some ⟨b,0,none⟩) 1 1) [f].length ([f].map iO).flatten:=hv;have hS:=db.je dj hS Xr;have hS:=cW.je dj hS Xr;have tB:=hi.mono dj;obtain⟨rv,hr,hS⟩:=db.open hS Xr;refine Cc (ZX H1 p.w.pp c.s.k.plan [f] (.slice (some ⟨b,0,none⟩) 1 1) hv (by simp) dW) ?_;clear hS;rintro _ post ⟨rfl,rfl⟩ w hS;try simp only[app]at hS
  rw[DN];rw[DN]at hS
  by_cases hl:1024<=c.s.k.plan.length
  ·rw[zzb (λh=>by omega)];rw[zzb (λh=>by omega)]at hS
   rw[zzd hl];refine Gp ?_;refine za (λ_=>?_) (λh=>absurd (by omega) h);have hS:=db.eS (g:=c.s.k.g) (d:=c.s.k.d) (ts:=c.s.k.ts) (plan:=c.s.k.plan) (aw:=c.s.k.aw) (reqs:=c.s.k.reqs) hS hr Xp;have hS:=du.eS (p:=p.w) (c:=kc) (k:=c.s.k) (L:=c.s.L) (held:=c.s.held) (n:=c.s.n) hS tB Xp;have hS:=cx.eS (p:=p) (cf:=cf) (kc:=kc) (H:=H1) (s:=c.s) (k:=c.k) (m:=c.m) (dr:=c.dr) (q:=c.q) (pos:=c.pos) (due:=c.due) (last:=c.last) (dy:=c.dy) (now:=c.now) hS Xp;exact⟨[.ob (cx p cf kc H1 c),.mem H1],⟨rfl,H1,dj,rfl⟩,aW hS⟩
  rw[zzd ⟨h,by omega⟩];rw[zzd ⟨h,by omega⟩]at hS
  rw[zzb hl,zza,yya];refine Gp ?_;refine za (λh=>absurd h (by omega)) (λ_=>?_);have hS:=db.eS (g:=c.s.k.g) (d:=c.s.k.d) (ts:=c.s.k.ts) (plan:=c.s.k.plan++[f]) (aw:=c.s.k.aw) (reqs:=c.s.k.reqs) hS hr Xp;have hS:=du.eS (p:=p.w) (c:=kc) (k:={c.s.k with plan:=c.s.k.plan++[f]}) (L:=c.s.L) (held:=c.s.held) (n:=c.s.n) hS tB Xp;have hS:=cx.eS (p:=p) (cf:=cf) (kc:=kc) (H:=H1) (s:={c.s with k:={c.s.k with plan:=c.s.k.plan++[f]}}) (k:=c.k) (m:=c.m) (dr:=c.dr) (q:=c.q) (pos:=c.pos) (due:=c.due) (last:=c.last) (dy:=c.dy) (now:=c.now) hS Xp;exact⟨[.ob (cx p cf kc H1 {c with s:={c.s with k:={c.s.k with plan:=c.s.k.plan++[f]}}}),.mem H1],⟨rfl,H1,dj,rfl⟩,aW hS⟩
 refine Gm λb w hS=>?_;have hS:=bR.full (t:=33) (n:=1) (sz:=2) rfl hS;obtain⟨H1,dj,hv,hS⟩:=zz (H:=H) (v:=.slice (some ⟨b,0,none⟩) 1 1) hS Xp;have hv:dq H1 2 (.slice (some ⟨b,0,none⟩) 1 1) [f].length ([f].map iO).flatten:=hv;have hS:=db.je dj hS Xr;have hS:=cW.je dj hS Xr;have tB:=hi.mono dj;refine Cg (Z1 p.w.kp p.w.gp p.w.dp p.w.lp p.w.pp H1 c.s.k) λw hS=>?_;obtain⟨rv,hr,hS⟩:=db.open hS Xr;refine Cc (ZX H1 p.w.pp c.s.k.plan [f] (.slice (some ⟨b,0,none⟩) 1 1) hv (by simp) dW) ?_;clear hS;rintro _ post ⟨rfl,rfl⟩ w hS;try simp only[app]at hS
 rw[DN];rw[DN]at hS
 by_cases hl:1024<=c.s.k.plan.length
 ·rw[zzb (λh=>by omega)];rw[zzb (λh=>by omega)]at hS
  rw[zzd hl];refine Gp ?_;refine za (λ_=>?_) (λh=>absurd (by omega) h);have hS:=db.eS (g:=c.s.k.g) (d:=c.s.k.d) (ts:=c.s.k.ts) (plan:=c.s.k.plan) (aw:=c.s.k.aw) (reqs:=c.s.k.reqs) hS hr Xp;have hS:=du.eS (p:=p.w) (c:=kc) (k:=c.s.k) (L:=c.s.L) (held:=c.s.held) (n:=c.s.n) hS tB Xp;have hS:=cx.eS (p:=p) (cf:=cf) (kc:=kc) (H:=H1) (s:=c.s) (k:=c.k) (m:=c.m) (dr:=c.dr) (q:=c.q) (pos:=c.pos) (due:=c.due) (last:=c.last) (dy:=c.dy) (now:=c.now) hS Xp;exact⟨[.ob (cx p cf kc H1 c),.mem H1],⟨rfl,H1,dj,rfl⟩,aW hS⟩
 rw[zzd ⟨h,by omega⟩];rw[zzd ⟨h,by omega⟩]at hS
 rw[zzb hl,zza,yya];refine Gp ?_;refine za (λh=>absurd h (by omega)) (λ_=>?_);have hS:=db.eS (g:=c.s.k.g) (d:=c.s.k.d) (ts:=c.s.k.ts) (plan:=c.s.k.plan++[f]) (aw:=c.s.k.aw) (reqs:=c.s.k.reqs) hS hr Xp;have hS:=du.eS (p:=p.w) (c:=kc) (k:={c.s.k with plan:=c.s.k.plan++[f]}) (L:=c.s.L) (held:=c.s.held) (n:=c.s.n) hS tB Xp;have hS:=cx.eS (p:=p) (cf:=cf) (kc:=kc) (H:=H1) (s:={c.s with k:={c.s.k with plan:=c.s.k.plan++[f]}}) (k:=c.k) (m:=c.m) (dr:=c.dr) (q:=c.q) (pos:=c.pos) (due:=c.due) (last:=c.last) (dy:=c.dy) (now:=c.now) hS Xp;exact⟨[.ob (cx p cf kc H1 {c with s:={c.s with k:={c.s.k with plan:=c.s.k.plan++[f]}}}),.mem H1],⟨rfl,H1,dj,rfl⟩,aW hS⟩
def Ai(p:ic)(cf:dF)(kc:dM)(H:bw)(c:bW)(u:Ε)(v:Ε)(post:Β):Prop:=v=u/\∃H',H.le H'/\post=[.ob (cx p cf kc H' c),.mem H']
def qh(comp:Int)(hm:∀t∈c.q,eg t=true)(lK:c.m.reqs.length<=1000){N:Nat}(hg:iu c.k.g N)(hN:N<=1000000000)(Bd:c.s.L.length+c.s.out<=kc.cap):SP 11 [cG p.np,Γ comp] [.ob (cx p cf kc H c),.mem H] (Ai p cf kc H c (.bool (c.en kc comp))):=by
 refine Enzz λW F w hS=>?_;apply cEk;delta LC aI bU a_ aR bV bY ai bI;obtain⟨dv,hS⟩:=cx.open hS Xr;have hS:=du.take hS Xr;refine Gp ?_;refine Cg (zM p.w.dp c.s.k.d) λw hS=>?_;have hS:=du.xa c.s c.s.k.d hS Xp;have hS:SL W (.ob (du p.w kc H c.s)::_) _:=hS;have hS:=cx.put c hS Xp;unfold bW.en;refine yT (λho=>?_) (λho=>?_)
 ·rw[zzd ho];exact⟨_,⟨rfl,H,bw.le_refl H,rfl⟩,aW hS⟩
 rw[zzb (by rw[ho];decide)];refine bZ (λh0=>?_) (λh0=>?_)
 ·rw[zzd h0];obtain⟨dv,hS⟩:=cx.open hS Xr;refine Gn λw hS=>?_;refine Cg (zE p.sp p.tp p.w.dp p.sl c.k hg hN) λw hS=>?_;refine za (λh1=>?_) (λh1=>?_)
  ·refine Gp ?_;refine Cg (yu p.rb kc.cap (c.q.map jT)) λw hS=>?_;refine Cg (qe p.rb kc.cap (c.q.map jT)) λw hS=>?_;have hS:=cx.put c hS Xp;refine⟨_,⟨?_,H,bw.le_refl H,rfl⟩,aW hS⟩;rw[zzn];congr 1;rw[yyi];unfold bW.head;omega
  have hS:=cx.put c hS Xp;refine⟨_,⟨?_,H,bw.le_refl H,rfl⟩,aW hS⟩;congr 1;symm;rw[xxc];unfold bW.head;omega
 rw[zzb h0];refine bZ (λh1=>?_) (λh1=>?_)
 ·rw[zzd h1];cases hq:c.q with
  | nil=>
   refine Cg (aWi p cf kc H c hq) λw hS=>?_;refine Gm λb w hS=>?_;exact⟨_,⟨rfl,H,bw.le_refl H,rfl⟩,aW hS⟩
  | cons t q=>
   refine Cc (RE p cf kc H c t q hq (hm t (by rw[hq];exact .head _))) ?_;clear hS;rintro _ post ⟨x,H1,dj,hx,rfl,rfl⟩ w hS;refine Gm λb w hS=>?_;refine zr (vs:=fr x) hS Xu rfl rfl hx.Bz λw hS=>?_;obtain⟨dv,hS⟩:=cx.open hS Xr;obtain⟨ov,nv,hi,hS⟩:=du.open hS Xr;refine Gn λw hS=>?_;refine Cg (zH p.w.qp p.w.qb kc.cap c.s.out (c.s.L.map iB)) λw hS=>?_;rw[zzn];refine za (λh2=>?_) (λh2=>?_)
   ·have hS:=du.put c.s hS hi Xp;obtain⟨rv,hr,hS⟩:=cW.iff.1 (SL.b_ hS (t:=.ob (cW p.mp p.wi H1 c.m)::.ob (du p.w kc H1 c.s)::.pt p.np (sN p cf c.pos dv) 84::sY dv c.dy::.ob (df p.sp p.tp p.w.dp p.sl c.k)::.pt p.sn (jq p.sp p.mp p.wi p.dg cf.chunk) 208::.ob (fw p.dg c.dr)::.ob (Ring p.rb kc.cap (c.q.map jT))::.ob (iy p.ck [] c.now)::jh p.bp cf.every c.due c.last::.pt b (fr x) 101::.mem H1::F) Xi);refine Gp ?_;refine yG (vs:=[cG p.wi]) hS Xh rfl (λj v h=>?_) ?_
    ·match j,h with
     | 0,h=>exact h
     | j+1,h=>simp at h
    refine zA hS Xh rfl ?_;refine Cg (ZG p.wi c.m.cB x) λw hS=>?_;have hS:=cW.put c.m rv hr hS Xp;have hS:=cx.put c hS Xp;refine⟨_,⟨?_,H1,dj,rfl⟩,aW hS⟩;dsimp only;rw[hx.kind,hx.mark,zzm (show 0<c.jV kc by unfold bW.jV;omega),vv9]
   have hS:=du.put c.s hS hi Xp;have hS:=cx.put c hS Xp;refine⟨_,⟨?_,H1,dj,rfl⟩,aW hS⟩;rw[zz2 (by unfold bW.jV;omega)];rfl
 rw[zzb h1];refine bZ (λh2=>?_) (λh2=>?_)
 ·rw[zzd h2];obtain⟨dv,hS⟩:=cx.open hS Xr;refine Gp ?_;refine Cg (Zo p.sp p.mp p.wi p.sn p.dg cf.chunk H c.m lK) λw hS=>?_;have hS:=cx.put c hS Xp;exact⟨_,⟨rfl,H,bw.le_refl H,rfl⟩,aW hS⟩
 rw[zzb h2];refine bZ (λh3=>?_) (λh3=>?_)
 ·rw[zzd h3];obtain⟨dv,hS⟩:=cx.open hS Xr;refine Gn λw hS=>?_;refine Cg (zY p.ck [] c.now) λw hS=>?_;refine Cg (ZN p.w kc H c.s c.now) λw hS=>?_;have hS:=cx.put c hS Xp;exact⟨_,⟨rfl,H,bw.le_refl H,rfl⟩,aW hS⟩
 rw[zzb h3];refine bZ (λh4=>?_) (λh4=>?_)
 ·rw[zzd h4];obtain⟨dv,hS⟩:=cx.open hS Xr;obtain⟨ov,nv,hi,hS⟩:=du.open hS Xr;refine Gn λw hS=>?_;refine Cg (zY p.ck [] c.now) λw hS=>?_;refine Cg (yv p.mp p.wi H c.m) λw hS=>?_;refine Cg (zH p.w.qp p.w.qb kc.cap c.s.out (c.s.L.map iB)) λw hS=>?_;refine Cg (Zh p.bp cf.every c.due c.last c.now c.m.at_ _) λw hS=>?_;have hS:=du.put c.s hS hi Xp;have hS:=cx.put c hS Xp;refine⟨_,⟨?_,H,bw.le_refl H,rfl⟩,aW hS⟩;rw[zzn];congr 1;rw[yyi];unfold bW.jV;omega
 rw[zzb h4];exact⟨_,⟨rfl,H,bw.le_refl H,rfl⟩,aW hS⟩
end
def eW.Good.y'{p:eW}{N:Nat}(h:p.Good N)(hN:N<=900000000):p.Ok:=
 ⟨⟨h.reqs,h.t1,by have:=h.rows;omega,h.l4⟩,h.d,h.d.len,⟨N,h.src,hN⟩,h.n,h.row.1,by have:=h.wid;omega⟩
def An.okM{n:Nat}{ch:Int}{m:dD}(h:An n ch m)(n1:1<=n)(n8:n<=8):m.Ok:=by
 have ht:=h.mP;have hl:=h.cB.len;exact⟨h.may,⟨by omega,by omega⟩,by omega,⟨h.l4,h.oP⟩⟩
def cwf(cf:dF)(kc:dM)(c:bW)(comp:Int):(c.pick cf kc comp).2.aw=0:=by
 unfold bW.pick;split
 ·rfl
 split
 ·rfl
 split
 ·unfold bW.read;split<;>rfl
 split
 ·unfold bW.take;split<;>rfl
 split
 ·rfl
 split
 ·rfl
 unfold bW.tell;split<;>rfl
def cCb(p:eW):p.step.1.n=p.n:=by
 unfold eW.step eW.uQ eW.uR eW.A4;dsimp only;split
 ·rfl
 split
 ·split
  ·rfl
  unfold eW.Bv;split<;>rfl
 split
 ·rfl
 split<;>rfl
def kM.mono{W w:Ζ}{l:Β}{p:s7}{c:dM}{H H':bw}{s:eX}(hh:H.le H')(h:SL W (.ob (kM p c H s)::l) w):SL W (.ob (kM p c H' s)::l) w:=by
 unfold kM at *
 simp only[SL.ex,SL.fact,zzv,zzr]at *
 obtain⟨x,⟨hi,hr⟩,h⟩:=h;exact⟨x,⟨hi.mono hh,hr.mono hh⟩,h⟩
def kM.je{W w:Ζ}{l F:Β}{p:s7}{c:dM}{H H':bw}{s:eX}(hh:H.le H')(hS:SL W l w)(r:gd (.ob (kM p c H s)) l F):SL W (.ob (kM p c H' s)::F) w:=kM.mono hh (hS.perm r.perm)
section
variable (p:ic) (cf:dF) (kc:dM) (H:bw) (c:bW)
def Qm{n j:Nat}{AL:List cF}(h:eG cf kc n j AL c)(hc:CC cf kc n)(hj:j<=190)(comp:Int):SP 68 [cG p.np,Γ comp] [.ob (cx p cf kc H c),.mem H] (BY p cf kc H (c.pick cf kc comp)):=by
 refine Enzz λW F w hS=>?_;apply cLj;delta PK aI a_ bV cL Av ai;have hn:=hc.n1;have C_:=hc.n8;have h':=h;obtain⟨tr,xs,hd,RS,RK,hb,ha⟩:=h';have Ba:=vX j;have sE:=hb.mx.okM hn C_;have Bd:=ha.kV.room;unfold bW.pick;refine bZ (λh0=>?_) (λh0=>?_)
 ·rw[zzd (.inl h0)];exact⟨_,⟨rfl,H,bw.le_refl H,rfl⟩,aW hS⟩
 refine bZ (λh1=>?_) (λh1=>?_)
 ·rw[zzd (.inr (by omega))];exact⟨_,⟨rfl,H,bw.le_refl H,rfl⟩,aW hS⟩
 rw[zzb (by omega)];refine Cc (qh p cf kc H c comp hb.q (by have:=sE.reqs.1;omega) hb.sg (by omega) (by omega)) ?_;clear hS;rintro _ post ⟨rfl,H1,dj,rfl⟩ w hS;(try simp only[app]at hS);refine Gp ?_
 refine zt (λhe=>?_) (λhe=>?_)
 ·rw[zzd he];exact⟨_,⟨rfl,H1,dj,rfl⟩,aW hS⟩
 rw[zzb (by rw[he];decide)];refine bZ (λh2=>?_) (λh2=>?_)
 ·rw[zzd h2];subst h2;obtain⟨t,e1,e2,e3,_⟩:=h.read he;have hq:c.q.length<kc.cap:=by
   have ho:=wQ he;unfold bW.en at he;rw[zzb (by rw[ho];decide),zzd rfl,zzw]at he
   exact he.2
  rw[e3];refine Cc (Qn p cf kc H1 c t e1 e2 hq hb.pos hb.sg (by omega)) ?_;clear hS;rintro _ post ⟨rfl,H2,dU,rfl⟩ w hS;(try simp only[app]at hS);refine Gp ?_
  exact⟨_,⟨rfl,H2,bw.le_trans dj dU,rfl⟩,aW hS⟩
 rw[zzb h2];refine bZ (λh3=>?_) (λh3=>?_)
 ·rw[zzd h3];subst h3;obtain⟨t,q,m',x,e1,e2,e3,e4,e5,e6,e7,_⟩:=h.take hc he;rw[e7];refine Cc (Qo p cf kc H1 c t q m' x e1 e2 e3 e4 e5 sE (by have:=hb.mx.cB.id;omega)) ?_;clear hS;rintro _ post ⟨rfl,H2,dU,rfl⟩ w hS;(try simp only[app]at hS);refine Gp ?_
  exact⟨_,⟨rfl,H2,bw.le_trans dj dU,rfl⟩,aW hS⟩
 rw[zzb h3];refine bZ (λh4=>?_) (λh4=>?_)
 ·rw[zzd h4];obtain⟨dv,hS⟩:=cx.open hS Xr;have hS:=du.take hS Xr;refine Gp ?_;have dV:=hb.ops;have hS:SL W (.ob (bX p.w.dp (c.lA cf).k.d)::.ob (kM p.w kc H1 c.s)::.pt p.np (sN p cf c.pos dv) 84::sY dv c.dy::.ob (df p.sp p.tp p.w.dp p.sl (c.lA cf).k)::.ob (cW p.mp p.wi H1 (c.lA cf).m)::.pt p.sn (jq p.sp p.mp p.wi p.dg (c.lA cf).n) 208::.ob (fw p.dg (c.lA cf).d)::.ob (Ring p.rb kc.cap (c.q.map jT))::.ob (iy p.ck [] c.now)::jh p.bp cf.every c.due c.last::.mem H1::F) w:=hS;refine Cc (qU p.sp p.tp p.w.dp p.sl p.mp p.wi p.sn p.dg H1 (c.lA cf) ((hb.S6 hc).y' (by omega)) (by show c.s.k.d.ops<=90000;omega)) ?_;clear hS;rintro _ post ⟨H2,dU,rfl,rfl⟩ w hS;try simp only[app]at hS
  have Bm:=cCb (c.lA cf);have Dq:c.snap cf=(c.GB (c.lA cf).step.1,⟨(c.lA cf).step.2.2,0,(c.lA cf).step.2.1⟩):=rfl;rw[Dq];generalize (c.lA cf).step=y at *
  obtain⟨⟨yk,ym,yd,yn⟩,td,err⟩:=y;dsimp only at hS Bm ⊢;have Bm:yn=cf.chunk:=Bm;subst Bm;have hS:=kM.je dU hS Xr;have hS:=du.xa c.s yk.d hS Xp;refine Gp ?_;have hS:=cx.eS (p:=p) (cf:=cf) (kc:=kc) (H:=H2) (s:={c.s with k:={c.s.k with d:=yk.d}}) (k:=yk) (m:=ym) (dr:=yd) (q:=c.q) (pos:=c.pos) (due:=c.due) (last:=c.last) (dy:=c.dy) (now:=c.now) hS Xp;have hS:SL W (.ob (cx p cf kc H2 (c.GB ⟨yk,ym,yd,cf.chunk⟩))::.mem H2::F) w:=hS;exact⟨[.ob (cx p cf kc H2 (c.GB ⟨yk,ym,yd,cf.chunk⟩)),.mem H2],⟨rfl,H2,bw.le_trans dj dU,rfl⟩,aW hS⟩
 rw[zzb h4];refine bZ (λh5=>?_) (λh5=>?_)
 ·rw[zzd h5];refine Cc (qr p cf kc H1 c hb.wt (by omega) (hb.kok hj C_) hb.dl) ?_;clear hS;rintro _ post ⟨rfl,H2,dU,rfl⟩ w hS;(try simp only[app]at hS);refine Gp ?_
  exact⟨_,⟨rfl,H2,bw.le_trans dj dU,rfl⟩,aW hS⟩
 rw[zzb h5];have h6:comp=4:=by omega
 subst h6;obtain⟨_,CV⟩:=h.tell hc he;have tI:c.due<=c.now/\(c.m.at_<=c.last\/0<c.jV kc):=by
  have ho:=wQ he;unfold bW.en at he;rw[zzb (by rw[ho];decide),zzb (by decide),zzb (by decide),zzb (by decide),zzb (by decide),zzd rfl,zzw]at he
  exact he
 refine Cc (Qp p cf kc H1 c ⟨hc.e1,hc.e2⟩ tI (by omega) (λhl=>by rcases CV with ⟨hh,_⟩|⟨_,_,hh,_⟩;exact absurd hh hl;exact hh)) ?_;clear hS;rintro _ post ⟨rfl,H2,dU,rfl⟩ w hS;(try simp only[app]at hS);refine Gp ?_
 exact⟨_,⟨rfl,H2,bw.le_trans dj dU,rfl⟩,aW hS⟩
def aW8{n j:Nat}{AL:List cF}(h:eG cf kc n j AL c)(hc:CC cf kc n)(hj:j<=190)(x:oa)(s:gB)(hx:kL H x s)(hk:s.kind≠8):SP 69 [cG p.np,agg (jX x)] [.ob (cx p cf kc H c),.mem H] (Ln p cf kc H (c.other cf s)):=by
 refine Enzz λW F w hS=>?_;apply XZ;delta Hd aI bU a_ aR bV ai;refine zw hS λxb w hS=>?_;obtain⟨tr,xs,hd,RS,RK,hb,ha⟩:=h;have Ba:=vX j;have nQ:=hx.kind;have oD:=hx.n;have Js:=hx.ft;unfold jX at hS;rw[nQ,oD,Js]at hS
 unfold bW.other;refine bZ (λh3=>?_) (λh3=>?_)
 ·rw[zzd h3];refine Gp ?_;refine yG (vs:=iO s.ft) hS Xh rfl (λj v h=>?_) ?_
  ·match j,h with
   | 0,h=>exact h
   | 1,h=>exact h
   | j+2,h=>simp[iO]at h
  refine Cc (qi p cf kc H c s.ft hb.pl) ?_;clear hS;rintro _ post ⟨rfl,H1,dj,rfl⟩ w hS;try simp only[app]at hS
  exact⟨_,⟨rfl,H1,dj,rfl⟩,aW hS⟩
 rw[zzb h3];refine bZ (λh4=>?_) (λh4=>?_)
 ·rw[zzd h4];refine Gp ?_;refine Cc (Qq p cf kc H c s.n hb.now) ?_;clear hS;rintro _ post ⟨rfl,rfl⟩ w hS;try simp only[app]at hS
  exact⟨_,⟨rfl,H,bw.le_refl H,rfl⟩,aW hS⟩
 rw[zzb h4];refine bZ (λh5=>?_) (λh5=>?_)
 ·rw[zzd h5];refine Gp ?_;refine Cc (q9 p cf kc H c s.n hb.dl) ?_;clear hS;rintro _ post ⟨rfl,rfl⟩ w hS;try simp only[app]at hS
  exact⟨_,⟨rfl,H,bw.le_refl H,rfl⟩,aW hS⟩
 rw[zzb h5];refine bZ (λh6=>?_) (λh6=>?_)
 ·rw[zzd h6];obtain⟨dv,hS⟩:=cx.open hS Xr;obtain⟨ov,nv,hi,hS⟩:=du.open hS Xr;refine Gn λw hS=>?_;refine Cg (yJ p.w.kp p.w.gp p.w.dp p.w.lp p.w.pp H c.s.k) λw hS=>?_;have hS:=du.put c.s hS hi Xp;have hS:=du.take hS Xr;have hS:SL W (.ob (bX p.w.dp c.src.d)::.ob (kM p.w kc H c.s)::.pt p.np (sN p cf c.pos dv) 84::sY dv c.dy::.ob (df p.sp p.tp p.w.dp p.sl c.src)::_) w:=hS;have dV:=hb.ops;have vA:=hb.al;have Bf:c.src.g.bF.length<=AL.length+1:=by
   obtain⟨I,d0,f,lo,m,hL⟩:=ha.kv.live;exact hL.bF
  refine Cc (Q4 p.sp p.tp p.w.dp p.sl c.src H c.s.k.aw (hb.DW hc.n1 hc.n8) (by omega) (by show c.s.k.d.ops+_<=90000;omega)) ?_;clear hS;rintro _ post ⟨rfl,H1,dj,rfl⟩ w hS;try simp only[app]at hS
  have uM:c.trim=(c.jI (c.src.gZ c.s.k.aw).1,(c.src.gZ c.s.k.aw).2):=rfl;rw[uM];generalize c.src.gZ c.s.k.aw=y at *
  obtain⟨k',e⟩:=y;dsimp only at hS ⊢;have hS:=kM.je dj hS Xr;have hS:=cW.je dj hS Xr;have hS:=du.xa c.s k'.d hS Xp;have hS:=cx.eS (p:=p) (cf:=cf) (kc:=kc) (H:=H1) (s:={c.s with k:={c.s.k with d:=k'.d}}) (k:=k') (m:=c.m) (dr:=c.dr) (q:=c.q) (pos:=c.pos) (due:=c.due) (last:=c.last) (dy:=c.dy) (now:=c.now) hS Xp;have hS:SL W (.ob (cx p cf kc H1 (c.jI k'))::_) w:=hS;exact⟨[.ob (cx p cf kc H1 (c.jI k')),.mem H1],⟨rfl,H1,dj,rfl⟩,aW hS⟩
 rw[zzb h6];refine bZ (λh7=>?_) (λh7=>?_)
 ·rw[zzd h7];refine Gp ?_;refine Cc (aR7 p cf kc H c s.n) ?_;clear hS;rintro _ post ⟨rfl,rfl⟩ w hS;try simp only[app]at hS
  exact⟨_,⟨rfl,H,bw.le_refl H,rfl⟩,aW hS⟩
 rw[zzb h7];refine Gp ?_;refine za (λh8=>absurd h8 hk) (λh8=>?_);rw[zzb h8];exact⟨_,⟨rfl,H,bw.le_refl H,rfl⟩,aW hS⟩
def aw2(p:ic)(cf:dF)(kc:dM)(H:bw)(y:bW × oM)(v:Ε)(post:Β):Prop:=v=agg (wW y.2)/\∃H',H.le H'/\post=[.ob (cx p cf kc H' y.1),.mem H']
def aWa{n j:Nat}{AL:List cF}(h:CS cf kc n j AL c)(hc:CC cf kc n)(hj:j<=190)(x:oa)(s:gB)(hx:kL H x s)(hl:s.l.length<=140737488351232)(hk:s.kind≠8):SP 12 [cG p.np,agg (jX x)] [.ob (cx p cf kc H c),.mem H] (aw2 p cf kc H (c.gv cf kc s)):=by
 refine Enzz λW F w hS=>?_;apply XP;delta G4 aI bU a_ bV ai;have nQ:=hx.kind;have oD:=hx.n;have Js:=hx.ft;refine zw hS λxb w hS=>?_;refine Gb λzb w hS=>?_;unfold jX at hS;rw[nQ,oD,Js]at hS
 refine⟨λus w=>us=[]/\c.s.k.d.off=false/\SL W (.pt zb [Γ 0,Γ 0,Γ 0] 43::.pt xb [Γ s.kind,Γ s.n,x.sv,x.cv,Γ s.ft.kind,Γ s.ft.keep,x.kv] 36::.ob (cx p cf kc H c)::.mem H::F) w,?_,?_⟩
 ·obtain⟨dv,hS⟩:=cx.open hS Xr;have hS:=du.take hS Xr;refine Gp ?_;refine Cg (zM p.w.dp c.s.k.d) λw hS=>?_;have hS:=du.xa c.s c.s.k.d hS Xp;have hS:SL W (.ob (du p.w kc H c.s)::_) _:=hS;have hS:=cx.put c hS Xp;refine yT (λho=>?_) (λho=>?_)
  ·refine Gp ?_;refine za (λ_=>?_) (λh=>absurd hk h);refine Gn λw hS=>?_;unfold bW.gv;rw[zzd ⟨ho,hk⟩];exact⟨_,⟨rfl,H,bw.le_refl H,rfl⟩,aW hS⟩
  exact⟨rfl,ho,aW hS⟩
 clear hS;rintro w ⟨-,ho,hS⟩;have hA:eG cf kc n j AL c:=by
  rcases h with h|h
  ·exact h
  rw[h.1]at ho;cases ho
 have iZ:=hA;obtain⟨tr,xs,hd,RS,RK,hb,ha⟩:=iZ;have Ba:=vX j;have Fm:c.gv cf kc s=if s.kind=1 then c.lG s else if s.kind=2 then c.pick cf kc s.n else ((c.other cf s).1,⟨(c.other cf s).2,0,0⟩):=by
  unfold bW.gv;rw[zzb (λhh=>by rw[ho]at hh;cases hh.1)]
 rw[Fm];refine bZ (λh1=>?_) (λh1=>?_)
 ·rw[zzd h1];obtain⟨dv,hS⟩:=cx.open hS Xr;have hS:=du.take hS Xr;refine Gn λw hS=>?_;have hS:SL W (.ob (bX p.w.dp c.src.d)::.ob (kM p.w kc H c.s)::.pt p.np (sN p cf c.pos dv) 84::sY dv c.dy::.ob (df p.sp p.tp p.w.dp p.sl c.src)::_) w:=hS;have dV:=hb.ops;refine Cc (Y7 p.sp p.tp p.w.dp p.sl c.src H x.sv x.cv s.sg s.l hx.sv hx.cv hl (hb.DW hc.n1 hc.n8) (by omega) (by show c.s.k.d.ops<=90000;omega)) ?_;clear hS;rintro _ post ⟨rfl,rfl⟩ w hS;try simp only[app]at hS
  have uM:c.lG s=(c.jI (c.src.kx s.sg s.l).1,⟨(c.src.kx s.sg s.l).2.2,(c.src.kx s.sg s.l).2.1,0⟩):=rfl;rw[uM];generalize c.src.kx s.sg s.l=y at *
  obtain⟨k',aw,e⟩:=y;dsimp only at hS ⊢;have hS:=du.xa c.s k'.d hS Xp;have hS:=cx.eS (p:=p) (cf:=cf) (kc:=kc) (H:=H) (s:={c.s with k:={c.s.k with d:=k'.d}}) (k:=k') (m:=c.m) (dr:=c.dr) (q:=c.q) (pos:=c.pos) (due:=c.due) (last:=c.last) (dy:=c.dy) (now:=c.now) hS Xp;have hS:SL W (.ob (cx p cf kc H (c.jI k'))::_) w:=hS;refine Gn λw hS=>?_;exact⟨[.ob (cx p cf kc H (c.jI k')),.mem H],⟨rfl,H,bw.le_refl H,rfl⟩,aW hS⟩
 rw[zzb h1];refine bZ (λh2=>?_) (λh2=>?_)
 ·rw[zzd h2];refine Gp ?_;refine Cc (Qm p cf kc H c hA hc hj s.n) ?_;clear hS;rintro _ post ⟨rfl,H1,dj,rfl⟩ w hS;refine Gn λw hS=>?_;exact⟨_,⟨by unfold wW;rw[cwf],H1,dj,rfl⟩,aW hS⟩
 rw[zzb h2];have nh:kL H ⟨s.kind,s.n,x.sv,x.cv,s.ft,x.kv⟩ s:=⟨rfl,rfl,rfl,hx.sv,hx.cv,hx.kv⟩;refine Gp ?_;refine Cc (aW8 p cf kc H c hA hc hj ⟨s.kind,s.n,x.sv,x.cv,s.ft,x.kv⟩ s nh hk) ?_;clear hS;rintro _ post ⟨rfl,H1,dj,rfl⟩ w hS;refine Gn λw hS=>?_;exact⟨_,⟨rfl,H1,dj,rfl⟩,aW hS⟩
end
abbrev vY(cf:dF)(a0 a1 a2 a3 a4 a5 a6 a7 a8 a9 t_ y z:Ε):Ξ:=[a0,a1,a2,a3,a4,a5,a6,a7,a8,a9,t_,Γ cf.tables,Γ cf.late,Γ cf.size,Γ cf.queue,Γ cf.chunk,Γ cf.batch,Γ cf.base,Γ cf.cJ,Γ cf.sI,Γ cf.every,y,z]
def aWh{cf:dF}{a0 a1 a2 a3 a4 a5 a6 a7 a8 a9 t_ y z:Ε}:∀j v,(l8 cf)[j]?=some v->(vY cf a0 a1 a2 a3 a4 a5 a6 a7 a8 a9 t_ y z)[11+j]?=some v
 | 0,v,h=>h
 | 1,v,h=>h
 | 2,v,h=>h
 | 3,v,h=>h
 | 4,v,h=>h
 | 5,v,h=>h
 | 6,v,h=>h
 | 7,v,h=>h
 | 8,v,h=>h
 | 9,v,h=>h
 | j+10,v,h=>by simp[l8]at h
def z6:∀i,i<6->([Γ 0,Γ 0,Γ 0,Γ 0,Γ 0,Γ 0]:Ξ)[i]?=some (Γ 0)
 | 0,_=>rfl
 | 1,_=>rfl
 | 2,_=>rfl
 | 3,_=>rfl
 | 4,_=>rfl
 | 5,_=>rfl
section
variable (np dp ck sp tp sl kp gp lp pp:Nat) (cf:dF) (kc:dM) (H:bw) (k1:cN) (k2:cM) (now:Int)
def qn{n:Nat}(hc:CC cf kc n)(a0 a1 a2 a3 a4 a5 a6 a7 a8 a9 t_:Ε)(xG:0<=now/\now<=1125899906842624)(hl:0<=k2.aw/\k2.aw<=1099511627776)(C':gk k2.reqs)(lK:∀r∈k2.reqs,r.table<(n:Int)/\r.at_<=k2.aw):SP 98 [cG np,cG sp,cG kp] [.pt np (vY cf a0 a1 a2 a3 a4 a5 a6 a7 a8 a9 t_ (cG dp) (cG ck)) 84,.ob (df sp tp dp sl k1),.ob (db kp gp dp lp pp H k2),.ob (iy ck [] now),.mem H]
  (λv post=>v= Γ 0/\∃(p:ic) (H':bw),H.le H'/\p.np=np/\p.w.dp=dp/\p.ck=ck/\post=[.ob (cx p cf kc H' (bW.start cf k1 k2 now)),.mem H']):=by
 refine Enzz λW F w hS=>?_;apply cL4;delta P4 aI bU a_ aR bV ai cT bI ir;have fF:¬DF cf.tables cf.late cf.chunk k2.aw k2.reqs:=by
  have h1:=hc.tables;have h2:=hc.n1;have h3:=hc.n8;have h4:=hc.Vb;have h5:=hc.Va;have h6:=hc.c1;have h7:=hc.wF;rintro (h|h|h|h|h|h|h|h|h|⟨r,hr,h⟩)
  ·omega
  ·omega
  ·omega
  ·rw[h1,zzy]at h;omega
  ·omega
  ·omega
  ·omega
  ·omega
  ·exact h C'
  have:=lK r hr;omega
 refine Gp ?_;refine yG (o:=11) (vs:=l8 cf) hS Xh rfl aWh ?_;refine Gm λb w hS=>?_;refine Cg (yJ kp gp dp lp pp H k2) λw hS=>?_;refine Gm λb w hS=>?_;refine Gm λb w hS=>?_;rw[hc.queue];refine Cc (VK kc.cap hc.q1 hc.DO) ?_;clear hS;rintro _ post ⟨rb,rfl,rfl⟩ w hS;refine Gn λw hS=>?_;refine yA (j:=0) (by decide) ?_;refine Gn λw hS=>?_;rw[hc.queue];refine Cc (bI8 kc.cap hc.q1 hc.DO) ?_;clear hS;rintro _ post ⟨qp,qb,rfl,rfl⟩ w hS;refine Gn λw hS=>?_;refine yA (j:=1) (by decide) ?_;refine Gn λw hS=>?_;rw[hc.base,hc.cm,hc.U0];refine Cc (cDl kc.b kc.m kc.j) ?_;clear hS;rintro _ post hq w hS;rw[zzd hc.may]at hq
 obtain⟨rp,rfl,rfl⟩:=hq;refine Gn λw hS=>?_;refine yA (j:=2) (by decide) ?_;refine Gn λw hS=>?_;refine Cg (zY ck [] now) λw hS=>?_;refine Cg (yJ kp gp dp lp pp H k2) λw hS=>?_;refine Cc (aRq cf.every now k2.aw ⟨hc.e1,hc.e2⟩ xG hl) ?_;clear hS;rintro _ post ⟨bp,rfl,rfl⟩ w hS;refine Gn λw hS=>?_;refine yA (j:=3) (by decide) ?_;refine Gn λw hS=>?_;refine Cg (yJ kp gp dp lp pp H k2) λw hS=>?_;refine Cc (QD kp gp dp lp pp H k2 C'.1) ?_;clear hS;rintro rv post ⟨H1,dj,Ul,rfl⟩ w hS;(try simp only[app]at hS);refine Gp ?_
 refine Cc (b_d H1 cf.tables cf.late cf.chunk k2.aw rv k2.reqs Ul (by have:=C'.1;omega)) ?_;clear hS;rintro _ post hq w hS;rcases hq with ⟨hb,_⟩|⟨_,mp,wi,H2,dU,rfl,rfl⟩
 ·exact absurd hb fF
 refine Gn λw hS=>?_;refine yA (j:=4) (by decide) ?_;refine Gn λw hS=>?_;rw[hc.batch];refine Cc (cMl kp qp rp kc.cJ hc.b1 hc.Hz) ?_;clear hS;rintro _ post ⟨wp,rfl,rfl⟩ w hS;refine Gn λw hS=>?_;refine yA (j:=5) (by decide) ?_;refine Gn λw hS=>?_;refine⟨λus w'=>∃i:Nat,us=[Γ i]/\i<=6/\w'=w,λus _=>match us with|[.int _ i]=>(6-i).toNat|_=>0,⟨0,rfl,by decide,rfl⟩,?_⟩;rintro v96 w' ⟨i,cP,hi,rfl⟩;cases cP;refine bZ (λh=>?_) (λh=>?_)
 ·have TP:i<6:=by omega
  refine WJ Tryz.underlying250 (λw=>by kernel_rfl) (λw=>by kernel_rfl) TP (z6 i TP) ?_;refine Gp ?_;refine za (λh=>absurd rfl h) (λ_=>?_);refine Gp ?_;exact⟨⟨i+1,rfl,by omega,rfl⟩,by dsimp only;omega⟩
 refine Gp ?_;refine Cc (Q2 sp mp wi H2 ⟨cf.tables,cf.late,k2.aw,k2.reqs,mR cf.chunk⟩ cf.chunk) ?_;clear hS;rintro _ post hq w hS;rcases hq with ⟨hb,_⟩|⟨_,sn,dg,rfl,rfl⟩
 ·exact absurd ⟨hc.c1,hc.wF⟩ hb
 (try simp only[app]at hS);refine Gp ?_
 refine za (λ_=>?_) (λh=>absurd rfl h);refine Gn λw hS=>?_;refine Ye (o:=0) (vs:=[cG kp,cG sp,cG rb,Γ k2.aw,cG mp,cG sn,cG qp,cG rp,cG wp,cG bp,Θ]) hS Xu rfl (by show 11<=23;decide) (by simp[Value.oneCell']) λw hS=>?_;have hS:=db.je dU hS Xr;simp only[vY,List.take,List.drop,zzv,zzr,yye]at hS;have hS:SL W (.pt wp (oK kp qp rp kc.cJ 0 Θ Θ 0) 216::.ob (db kp gp dp lp pp H2 k2)::.ob (Gate qp qb kc.cap 0 [])::kq rp kc.b kc.m kc.j 0 0::.pt np (vY cf (cG kp) (cG sp) (cG rb) (Γ k2.aw) (cG mp) (cG sn) (cG qp) (cG rp) (cG wp) (cG bp) Θ (cG dp) (cG ck)) 84::.ob (df sp tp dp sl k1)::.ob (cW mp wi H2 ⟨cf.tables,cf.late,k2.aw,k2.reqs,mR cf.chunk⟩)::.pt sn (jq sp mp wi dg cf.chunk) 208::.ob (fw dg wP)::.ob (Ring rb kc.cap [])::.ob (iy ck [] now)::jh bp cf.every (jf cf.every now) k2.aw::.mem H2::F) w:=aW hS;have vF:ie H2 ⟨nR.aw,Θ,Θ⟩ nR:=⟨rfl,dq.nil _ _,dq.nil _ _⟩;have hS:=(du.iff (p:=⟨wp,kp,gp,dp,lp,pp,qp,qb,rp⟩) (c:=kc) (H:=H2) (s:=⟨k2,[],0,0,0,nR,0⟩)).2 ⟨Θ,Θ,vF,hS⟩;have hS:=dt.rJ (t:=2) (sz:=1) (a:=none) hS;have hS:SL W (.pt np (vY cf (cG kp) (cG sp) (cG rb) (Γ k2.aw) (cG mp) (cG sn) (cG qp) (cG rp) (cG wp) (cG bp) Θ (cG dp) (cG ck)) 84::.ob (dt Θ 2 1 0 [])::.ob (du ⟨wp,kp,gp,dp,lp,pp,qp,qb,rp⟩ kc H2 ⟨k2,[],0,0,0,nR,0⟩)::.ob (df sp tp dp sl k1)::.ob (cW mp wi H2 ⟨cf.tables,cf.late,k2.aw,k2.reqs,mR cf.chunk⟩)::.pt sn (jq sp mp wi dg cf.chunk) 208::.ob (fw dg wP)::.ob (Ring rb kc.cap [])::.ob (iy ck [] now)::jh bp cf.every (jf cf.every now) k2.aw::.mem H2::F) w:=aW hS;have hS:=(cx.iff (p:=⟨np,⟨wp,kp,gp,dp,lp,pp,qp,qb,rp⟩,sp,tp,sl,rb,mp,wi,sn,dg,bp,ck⟩) (cf:=cf) (kc:=kc) (H:=H2) (c:=bW.start cf k1 k2 now)).2 ⟨Θ,hS⟩;exact⟨[.ob (cx ⟨np,⟨wp,kp,gp,dp,lp,pp,qp,qb,rp⟩,sp,tp,sl,rb,mp,wi,sn,dg,bp,ck⟩ cf kc H2 (bW.start cf k1 k2 now)),.mem H2],⟨rfl,⟨np,⟨wp,kp,gp,dp,lp,pp,qp,qb,rp⟩,sp,tp,sl,rb,mp,wi,sn,dg,bp,ck⟩,H2,bw.le_trans dj dU,rfl,rfl,rfl,rfl⟩,aW hS⟩
def Ls(np dp ck:Nat)(cf:dF)(kc:dM)(H:bw)(c:bW)(v:Ε)(post:Β):Prop:=v= Γ 0/\∃(p:ic) (H':bw),H.le H'/\p.np=np/\p.w.dp=dp/\p.ck=ck/\post=[.ob (cx p cf kc H' c),.mem H']
def ZU{n:Nat}(hc:CC cf kc n)(d:DS){N:Nat}(e1:kH d cf.tables cf.size=(k1.d,.ok k1))(e2:kG k1.d cf.tables cf.size=(k2.d,.ok k2))(cH:d.Ok N)(bV4:k1.d.Ok N)(hN:N<=100000000)(dV:d.ops<=90000)(Ua:k1.d.ops<=90000)(nf:∀d' g,eN d 16 cf.size=(d',.ok g)->(cR g.bF).length<=50000)(xF:∀d' g,eN k1.d 8192 cf.size=(d',.ok g)->(cR g.bF).length<=200)
  (a0 a1 a2 a3 a4 a5 a6 a7 a8 a9 t_:Ε) (xG:0<=now/\now<=1125899906842624) (hl:0<=k2.aw/\k2.aw<=1099511627776) (C':gk k2.reqs) (lK:∀r∈k2.reqs,r.table<(n:Int)/\r.at_<=k2.aw):SP 42 [cG np] [.pt np (vY cf a0 a1 a2 a3 a4 a5 a6 a7 a8 a9 t_ (cG dp) (cG ck)) 84,.ob (bX dp d),.ob (iy ck [] now),.mem H] (Ls np dp ck cf kc H (bW.start cf k1 k2 now)):=by
 refine Enzz λW F w hS=>?_;apply cKv;delta Pk aI bU a_ bV ai;refine Gn λw hS=>?_;refine Cc (QZ H dp d cf.tables cf.size cH (by omega) dV nf) ?_;clear hS;rintro r post hq w hS;unfold GY at hq;rw[e1]at hq
 obtain⟨sp,tp,sl,H1,dj,rfl,rfl⟩:=hq;(try simp only[app]at hS);refine Gp ?_
 refine za (λh=>absurd rfl h) (λ_=>?_);refine Gn λw hS=>?_;refine Cc (QB H1 dp k1.d cf.tables cf.size bV4 hN Ua xF) ?_;clear hS;rintro r post hq w hS;unfold Lm at hq;rw[e2]at hq
 obtain⟨kp,gp,lp,pp,H2,dU,rfl,rfl⟩:=hq;(try simp only[app]at hS);refine Gp ?_
 refine za (λh=>absurd rfl h) (λ_=>?_);refine Cc (qn np dp ck sp tp sl kp gp lp pp cf kc H2 k1 k2 now hc a0 a1 a2 a3 a4 a5 a6 a7 a8 a9 t_ xG hl C' lK) ?_;clear hS;rintro _ post ⟨rfl,p,H3,fE,nP,pW,Bb,rfl⟩ w hS;try simp only[app]at hS
 exact⟨_,⟨rfl,p,H3,bw.le_trans dj (bw.le_trans dU fE),nP,pW,Bb,rfl⟩,aW hS⟩
end
section
variable (p:ic) (cf:dF) (kc:dM) (H:bw) (c:bW)
def qg{n j:Nat}{AL:List cF}(h:CS cf kc n j AL c)(hc:CC cf kc n)(hj:j<=190)(x:oa)(s:gB)(hx:kL H x s)(hk:s.kind=8):SP 69 [cG p.np,agg (jX x)] [.ob (cx p cf kc H c),.mem H] (Ls p.np p.w.dp p.ck cf kc H (c.ed cf s.keep)):=by
 refine Enzz λW F w hS=>?_;apply XZ;delta Hd aI bU a_ aR bV ai;refine zw hS λxb w hS=>?_;obtain⟨k1,k2,eT,hK⟩:=h.ed hc hj s.keep;obtain⟨xs0,tz⟩:=h.l5;obtain⟨tr,xs,hd,RS,RK,hb,ha⟩:=hK.st;have nQ:=hx.kind;unfold jX at hS;rw[nQ,hk]at hS
 refine Gp ?_;refine za (λh3=>absurd h3 (by decide)) (λh3=>?_);refine Gp ?_;refine za (λh3=>absurd h3 (by decide)) (λh3=>?_);refine Gp ?_;refine za (λh3=>absurd h3 (by decide)) (λh3=>?_);refine Gp ?_;refine za (λh3=>absurd h3 (by decide)) (λh3=>?_);refine Gp ?_;refine za (λh3=>absurd h3 (by decide)) (λh3=>?_);refine Gp ?_;refine za (λ_=>?_) (λh3=>absurd rfl h3);obtain⟨dv,hS⟩:=cx.open hS Xr;have hS:=du.take hS Xr;have uJ:=tz.dk.DQ;have Ba:=vX j;have T7:=JX j;have dV:=tz.ops;have Ua:=hK.ops;have nf:=hK.n1;refine Gn λw hS=>?_;refine Cg (qm H p.w.dp c.s.k.d (nJ j) tz.dk (by omega) (by omega) x.kv s.keep hx.kv) λw hS=>?_;have hS:SL W (.pt p.np (vY cf (iL p.w.kp) (cG p.sp) (cG p.rb) (Γ c.pos) (cG p.mp) (cG p.sn) (cG p.w.qp) (cG p.w.rp) (cG p.w.wp) (cG p.bp) dv (cG p.w.dp) (cG p.ck)) 84::.ob (bX p.w.dp (c.s.k.d.ed s.keep))::.ob (iy p.ck [] c.now)::.mem H::F) w:=aW hS;refine Cc (ZU p.np p.w.dp p.ck cf kc H k1 k2 c.now hc (c.s.k.d.ed s.keep) (N:=nJ (j+1)) hK.e1 hK.e2 ((tz.dk.ed s.keep).mono (Bx j)) hK.dk (by omega) (by show c.s.k.d.ops<=90000;omega) (by omega) (λd' g e=>yy2 (nf d' g e) (by decide)) hK.n2 _ _ _ _ _ _ _ _ _ _ _ tz.now ⟨ha.kV.l0,hb.mx.oP⟩ hb.mx.may ha.mq) ?_;clear hS;rintro _ post ⟨rfl,q,H3,fE,nP,pW,Bb,rfl⟩ w hS;try simp only[app]at hS
 rw[hK.is];exact⟨_,⟨rfl,q,H3,fE,nP,pW,Bb,rfl⟩,aW hS⟩
def aR9{n j:Nat}{AL:List cF}(h:CS cf kc n j AL c)(hc:CC cf kc n)(hj:j<=190)(x:oa)(s:gB)(hx:kL H x s)(hk:s.kind=8):SP 12 [cG p.np,agg (jX x)] [.ob (cx p cf kc H c),.mem H]
  (λv post=>v=agg (wW ⟨0,0,0⟩)/\∃(q:ic) (H':bw),H.le H'/\q.np=p.np/\q.w.dp=p.w.dp/\q.ck=p.ck/\post=[.ob (cx q cf kc H' (c.ed cf s.keep)),.mem H']):=by
 refine Enzz λW F w hS=>?_;apply XP;delta G4 aI bU a_ bV ai;have nQ:=hx.kind;refine zw hS λxb w hS=>?_;refine Gb λzb w hS=>?_;unfold jX at hS;rw[nQ,hk]at hS
 refine⟨λus w=>us=[]/\SL W (.pt zb [Γ 0,Γ 0,Γ 0] 43::.pt xb [Γ 8,Γ x.n,x.sv,x.cv,Γ x.ft.kind,Γ x.ft.keep,x.kv] 36::.ob (cx p cf kc H c)::.mem H::F) w,?_,?_⟩
 ·obtain⟨dv,hS⟩:=cx.open hS Xr;have hS:=du.take hS Xr;refine Gp ?_;refine Cg (zM p.w.dp c.s.k.d) λw hS=>?_;have hS:=du.xa c.s c.s.k.d hS Xp;have hS:SL W (.ob (du p.w kc H c.s)::_) _:=hS;have hS:=cx.put c hS Xp;refine yT (λho=>?_) (λho=>?_)
  ·refine Gp ?_;refine za (λh=>absurd rfl h) (λ_=>?_);exact⟨rfl,aW hS⟩
  exact⟨rfl,aW hS⟩
 clear hS;rintro w ⟨-,hS⟩;have nh:kL H ⟨8,x.n,x.sv,x.cv,x.ft,x.kv⟩ s:=⟨hk.symm,hx.n,hx.ft,hx.sv,hx.cv,hx.kv⟩;refine Gp ?_;refine za (λh3=>absurd h3 (by decide)) (λh3=>?_);refine Gp ?_;refine za (λh3=>absurd h3 (by decide)) (λh3=>?_);refine Gp ?_;refine Cc (qg p cf kc H c h hc hj ⟨8,x.n,x.sv,x.cv,x.ft,x.kv⟩ s nh hk) ?_;clear hS;rintro _ post ⟨rfl,q,H1,dj,nP,pW,Bb,rfl⟩ w hS;refine Gn λw hS=>?_;exact⟨_,⟨rfl,q,H1,dj,nP,pW,Bb,rfl⟩,aW hS⟩
end
def zU(n a b:Int):SP 93 [Γ n,Γ a,Γ b] [] (cE (.bool (decide (a<=n/\n<=b))) []):=by
 refine Enzz λW F w hS=>?_;apply cLz;delta PZ aI bY;refine bZ (λh=>?_) (λh=>?_)
 ·refine Gp ?_;rw[show decide (a<=n/\n<=b)=decide (n<=b) from yyi.2 ⟨λh=>h.2,λh'=>⟨by omega,h'⟩⟩];(exact cC hS)
 rw[zz2 (p:=a<=n/\n<=b) (by omega)];(exact cC hS)
def aWq{cf:dF}{kc:dM}{n:Nat}(hc:CC cf kc n):SP 39 [agg (l8 cf)] [] (cE (.bool true) []):=by
 refine Enzz λW F w hS=>?_;apply XW;delta Ha aI a_ bY ai;have h1:=hc.tables;have h2:=hc.n1;have h3:=hc.n8;have h4:=hc.Vb;have h5:=hc.queue;have h6:=hc.batch;have h7:=hc.q1;have h8:=hc.DO;have h9:=hc.b1;have vw:=hc.Hz;have hp:(2:Int) ^ n<=256:=by
  have:(2:Nat) ^ n<=2 ^ 8:=vv1 (by decide) h3;have h:=Int.ofNat_le.2 this
  push_cast at h
  exact h
 have rB:(1:Int)<=2 ^ n:=by
  have h:=Int.ofNat_le.2 (Nat.one_le_two_pow (n:=n))
  push_cast at h
  exact h
 refine zw hS λxb w hS=>?_;unfold l8 at hS;refine Gn λw hS=>?_;refine yg (by kernel_rfl) (zU cf.tables 1 8) rfl hS Xp ?_;rintro _ post ⟨rfl,rfl⟩ w hS;try simp only[app]at hS
 rw[zzm (p:=1<=cf.tables/\cf.tables<=8) (by omega)];refine Gp ?_;rw[hc.tables];refine QX (n:=n) (by omega) (by omega) ?_;refine Gp ?_;refine yg (by kernel_rfl) (zU cf.late 0 (1*2 ^ n-1)) rfl hS Xp ?_;rintro _ post ⟨rfl,rfl⟩ w hS;try simp only[app]at hS
 rw[zzm (p:=0<=cf.late/\cf.late<=(1*2 ^ n-1)) ⟨hc.Va,by omega⟩];refine Gp ?_;refine yg (by kernel_rfl) (zU cf.size 64 65536) rfl hS Xp ?_;rintro _ post ⟨rfl,rfl⟩ w hS;try simp only[app]at hS
 rw[zzm (p:=64<=cf.size/\cf.size<=65536) ⟨hc.s0,hc.s1⟩];refine Gp ?_;refine yg (by kernel_rfl) (zU cf.queue 1 64) rfl hS Xp ?_;rintro _ post ⟨rfl,rfl⟩ w hS;try simp only[app]at hS
 rw[zzm (p:=1<=cf.queue/\cf.queue<=64) (by omega)];refine Gp ?_;refine yg (by kernel_rfl) (zU cf.chunk 1 64) rfl hS Xp ?_;rintro _ post ⟨rfl,rfl⟩ w hS;try simp only[app]at hS
 rw[zzm (p:=1<=cf.chunk/\cf.chunk<=64) ⟨hc.c1,hc.wF⟩];refine Gp ?_;refine yg (by kernel_rfl) (zU cf.batch 1 64) rfl hS Xp ?_;rintro _ post ⟨rfl,rfl⟩ w hS;try simp only[app]at hS
 rw[zzm (p:=1<=cf.batch/\cf.batch<=64) (by omega)];refine Gp ?_;rw[hc.base,hc.cm,hc.U0];refine Cc (yZ kc.b kc.m kc.j) ?_;clear hS;rintro _ post ⟨rfl,rfl⟩ w hS;try simp only[app]at hS
 rw[zzm hc.may];refine Gp ?_;refine za (λh=>?_) (λh=>absurd hc.e1 h);refine Gp ?_;rw[zzm hc.e2];(exact cC hS)
def Yt{cf:dF}{kc:dM}{n:Nat}(H:bw)(hc:CC cf kc n):SP 8 [agg (l8 cf)] [.mem H] (λv post=>∃(p:ic) (H':bw),H.le H'/\v= .tuple #[cG p.np,Γ 0]/\post=[.ob (cx p cf kc H' (wN cf n)),.mem H']):=by
 refine Enzz λW F w hS=>?_;apply X1;delta Hf aI cL ai cT bI;obtain⟨e1,e2,h0⟩:=eG.first (kc:=kc) hc;obtain⟨tr,xs,hd,RS,RK,hb,ha⟩:=h0;refine zw hS λxb w hS=>?_;refine Gp ?_;refine Cg (aWq hc) λw hS=>?_;refine zt (λh=>by cases h) (λ_=>?_);refine Gn λw hS=>?_;refine Cc (b_n) ?_;clear hS;rintro _ post ⟨dp,rfl,rfl⟩ w hS;(try simp only[app]at hS);refine Gp ?_
 refine Cc (b_o 0) ?_;clear hS;rintro _ post ⟨ck,rfl,rfl⟩ w hS;try simp only[app]at hS
 rw[show se 0=0 from rfl]at hS
 refine Gp ?_;refine⟨vY cf (.pointer none) (.pointer none) (.pointer none) (Γ 0) (.pointer none) (.pointer none) (.pointer none) (.pointer none) (.pointer none) (.pointer none) Θ (cG dp) (cG ck),rfl,_,rfl,zC hS λnp w hS=>?_⟩;have ho:∀(base:Int),0<=base->base<=12288->∀d' g,eN gP base cf.size=(d',.ok g)->(cR g.bF).length=0:=λbase b0 b1 d' g e=>by
  rw[J8 b0 b1 hc.s0 hc.s1]at e
  cases e;rfl
 refine Cc (ZU np dp ck cf kc H (vT n cf.size) (sJ n cf.size) 0 hc gP (N:=nJ 0) e1 e2 (DT _) (DT _) (by decide) (by decide) (show (0:Nat)<=90000 by decide) (λd' g e=>by rw[ho 16 (by decide) (by decide) d' g e];decide) (λd' g e=>by rw[ho 8192 (by decide) (by decide) d' g e];decide) _ _ _ _ _ _ _ _ _ _ _ (by decide) ⟨ha.kV.l0,hb.mx.oP⟩ hb.mx.may ha.mq) ?_;clear hS;rintro _ post ⟨rfl,q,H3,fE,nP,pW,Bb,rfl⟩ w hS;(try simp only[app]at hS);refine Gp ?_
 refine za (λh=>absurd rfl h) (λ_=>?_);have hS:SL W (.ob (cx q cf kc H3 (wN cf n))::_) w:=hS;exact⟨_,⟨q,H3,fE,by rw[nP],rfl⟩,aW hS⟩
section
end
def cW.DK{W w:Ζ}{l F:Β}{mp wp:Nat}{H:bw}{m:dD}(hS:SL W l w)(r:gd (.ob (cW mp wp H m)) l F):∃rv,ji H rv m.reqs/\SL W (.pt mp (x9 m wp rv) 121::.ob (dH wp m.cB)::F) w:=cW.iff.1 (hS.perm r.perm)
def Gate.DK{W w:Ζ}{l F:Β}{g b cap out:Nat}{L:Ψ}(hS:SL W l w)(r:gd (.ob (Gate g b cap out L)) l F):(L.length+out<=cap/\cap<=64)/\SL W (.pt g [Δ b,Γ out] 125::.ob (Ring b cap L)::F) w:=Gate.open (hS.perm r.perm)
def Gate.put{W w:Ζ}{l F:Β}{g b cap out:Nat}{L:Ψ}(hA:L.length+out<=cap/\cap<=64)(hS:SL W l w)(k:gC [.pt g [Δ b,Γ out] 125,.ob (Ring b cap L)] l F):SL W (.ob (Gate g b cap out L)::F) w:=Gate.close hA (hS.pick k)
section
variable (p:ic) (cf:dF) (kc:dM) (H:bw) (c:bW)
set_option maxHeartbeats 4000000 in
def Qj{N:Nat}(hg:iu c.k.g N)(hN:N<=1000000000)(Bd:c.s.L.length+c.s.out<=kc.cap)(Dj:c.m.cB.rows.length<=1000):SP 10 [cG p.np] [.ob (cx p cf kc H c),.mem H] (Ai p cf kc H c (agg (wT (c.look kc)))):=by
 refine Enzz λW F w hS=>?_;apply cEb;delta Lt a_ aR bV ai;obtain⟨dv,hS⟩:=cx.open hS Xr;obtain⟨ov,nv,hi,hS⟩:=du.open hS Xr;obtain⟨rv,hr,hS⟩:=cW.DK hS Xr;obtain⟨hG,hS⟩:=Gate.DK hS Xr;refine Gm λb w hS=>?_;refine yG (vs:=[cG p.wi]) hS Xh rfl (λj v h=>?_) ?_
 ·match j,h with
  | 0,h=>exact h
  | j+1,h=>simp at h
 refine Cg (YH p.wi) λw hS=>?_;have hS:=cW.put c.m rv hr hS Xp;refine Cg (yJ p.w.kp p.w.gp p.w.dp p.w.lp p.w.pp H c.s.k) λw hS=>?_;refine Cg (zE p.sp p.tp p.w.dp p.sl c.k hg hN) λw hS=>?_;refine Cg (ZA p.sp p.tp p.w.dp p.sl c.k hg hN) λw hS=>?_;refine Cg (zY p.ck [] c.now) λw hS=>?_;refine Cg (yv p.mp p.wi H c.m) λw hS=>?_;refine Cg (yu p.rb kc.cap (c.q.map jT)) λw hS=>?_;refine Cg (yu p.w.qb kc.cap (c.s.L.map iB)) λw hS=>?_;have hS:=Gate.put hG hS Xp;refine Cg (bRa p.w.qp p.w.qb kc.cap c.s.out (c.s.L.map iB)) λw hS=>?_;refine Cg (zH p.w.qp p.w.qb kc.cap c.s.out (c.s.L.map iB)) λw hS=>?_;obtain⟨WH,xK,hS⟩:=cW.DK hS Xr;refine Cg (yY p.wi c.m.cB) λw hS=>?_;refine Cc (cMp p.wi c.m.cB (by omega)) ?_;clear hS;rintro u post rfl w hS;(try simp only[app]at hS);refine Gp ?_
 refine zu hS Xh ?_;have hS:=cW.put c.m WH xK hS Xp;refine Cg (qW p.w.rp kc.b kc.m kc.j c.s.fL c.s.eI) λw hS=>?_;refine Cg (ZM p.w.rp kc.b kc.m kc.j c.s.fL c.s.eI) λw hS=>?_;refine Cg (q8 p.bp cf.every c.due c.last) λw hS=>?_;obtain⟨rv3,hr3,hS⟩:=db.open hS Xr;refine Cg (zM p.w.dp c.s.k.d) λw hS=>?_;have hS:=db.eS (g:=c.s.k.g) (d:=c.s.k.d) (ts:=c.s.k.ts) (plan:=c.s.k.plan) (aw:=c.s.k.aw) (reqs:=c.s.k.reqs) hS hr3 Xp;have hS:SL W (.ob (db p.w.kp p.w.gp p.w.dp p.w.lp p.w.pp H c.s.k)::_) w:=hS;have hS:=du.put c.s hS hi Xp;have hS:=cx.put c hS Xp;exact⟨[.ob (cx p cf kc H c),.mem H],⟨rfl,H,bw.le_refl H,rfl⟩,aW hS⟩
end
def cx.je{W w:Ζ}{l F:Β}{p:ic}{cf:dF}{kc:dM}{H H':bw}{c:bW}(hh:H.le H')(hS:SL W l w)(r:gd (.ob (cx p cf kc H c)) l F):SL W (.ob (cx p cf kc H' c)::F) w:=cx.mono hh (hS.perm r.perm)
def awx(np:Nat)(cf:dF)(kc:dM)(H:bw)(y:bW × oM)(v:Ε)(post:Β):Prop:=v=agg (wW y.2)/\∃(q:ic) (H':bw),H.le H'/\q.np=np/\post=[.ob (cx q cf kc H' y.1),.mem H']
def Sk{cf:dF}{kc:dM}{c:bW}{s:gB}(hk:s.kind=8):c.gv cf kc s=(c.ed cf s.keep,⟨0,0,0⟩):=by
 have e:c.other cf s=(c.ed cf s.keep,0):=by
  unfold bW.other;rw[zzb (by omega),zzb (by omega),zzb (by omega),zzb (by omega),zzb (by omega),zzd hk]
 unfold bW.gv;rw[zzb (λh=>h.2 hk),zzb (by omega),zzb (by omega),e]
def zL(p:ic)(cf:dF)(kc:dM)(H:bw)(c:bW){n j:Nat}{AL:List cF}(h:CS cf kc n j AL c)(hc:CC cf kc n)(hj:j<=190)(x:oa)(s:gB)(hx:kL H x s)(hl:s.l.length<=140737488351232):SP 12 [cG p.np,agg (jX x)] [.ob (cx p cf kc H c),.mem H] (awx p.np cf kc H (c.gv cf kc s)):=by
 by_cases hk:s.kind=8
 ·refine (aR9 p cf kc H c h hc hj x s hx hk).mono λv post hq=>?_;obtain⟨e,q,H',hh,h1,_,_,hp⟩:=hq;rw[Sk hk];exact⟨e,q,H',hh,h1,hp⟩
 refine (aWa p cf kc H c h hc hj x s hx hl hk).mono λv post hq=>?_;obtain⟨e,H',hh,hp⟩:=hq;exact⟨e,p,H',hh,rfl,hp⟩
def Qk:SP 39 [agg (l8 ⟨0,0,0,0,0,0,0,0,0,0⟩)] [] (cE (.bool false) []):=by
 refine Enzz λW F w hS=>?_;apply XW;delta Ha aI a_ bY ai;refine zw hS λxb w hS=>?_;unfold l8 at hS;dsimp only at hS;refine Gn λw hS=>?_;refine yg (by kernel_rfl) (zU 0 1 8) rfl hS Xp ?_;rintro _ post ⟨rfl,rfl⟩ w hS;try simp only[app]at hS
 rw[zz2 (p:=(1:Int)<=0/\(0:Int)<=8) (by omega)];refine Gp ?_;(exact cC hS)
def Ql:SP 8 [agg (l8 ⟨0,0,0,0,0,0,0,0,0,0⟩)] [] (cE (.tuple #[.pointer none,Γ 1]) []):=by
 refine Enzz λW F w hS=>?_;apply X1;delta Hf aI cL ai cT bI;refine zw hS λxb w hS=>?_;unfold l8 at hS;dsimp only at hS;refine Gp ?_;refine Cg (Qk) λw hS=>?_;refine zq ?_;(exact cC hS)
def bX3{β:Type}{p:Prop}[Decidable p]{q:Bool}{f:Bool->β}{x:β}(h:x=f q):(if p then x else f false)=f (decide p && q):=by
 subst h;by_cases hp:p
 ·rw[zzd hp,zzm hp,vv9]
 rw[zzb hp,zz2 hp,uu4]
def bX2{β:Type}{p:Prop}[Decidable p]{f:Bool->β}:(if p then f true else f false)=f (decide p):=by
 by_cases hp:p
 ·rw[zzd hp,zzm hp]
 rw[zzb hp,zz2 hp]
def AN(a b:oM)(w:Ζ):(Op.equal 43 (agg (wW a)) (agg (wW b))).run Tryz.prog w= .ok (decide (a=b)) w:=by
 refine Gt Tryz.underlying43 (by kernel_rfl) ?_;obtain⟨a1,a2,a3⟩:=a;obtain⟨b1,b2,b3⟩:=b;simp[wW,Op.eqFields,part,wwm (h:=yy4),wwm (h:=yyc),wwm (h:=Tryz.underlying27),Result.andThen];by_cases h0:a1=b1<;>by_cases h1:a2=b2<;>by_cases h2:a3=b3<;>simp[*]
def bFp(a b:D_)(w:Ζ):(Op.equal 39 (agg (wT a)) (agg (wT b))).run Tryz.prog w= .ok (decide (a=b)) w:=by
 refine Gt Tryz.underlying39 (by kernel_rfl) ?_;obtain⟨a1,a2,a3,a4,a5,a6,a7,a8,a9,t_,a11,a12,a13,a14,a15,a16⟩:=a;obtain⟨b1,b2,b3,b4,b5,b6,b7,b8,b9,b10,b11,b12,b13,b14,b15,b16⟩:=b;simp only[D_.mk.injEq];simp[wT,Op.eqFields,part,wwm (h:=yy4),wwm (h:=yyc),run_equalIn_bool' (h:=vv4),Result.andThen]
 iterate 15 refine bX3 (f:=λx=>Result.ok x w) ?_
 exact bX2 (f:=λx=>Result.ok x w)
def QS{P:Program}{w:Ζ}{t:Ι}{xs ys:Ξ}{p:Prop}[Decidable p]{K:Ε->Prop}(h:(Op.equal t (agg xs) (agg ys)).run P w= .ok (decide p) w)(hK:K (.bool !(decide p))):Ze P t true (agg xs) (agg ys) w K:=⟨xs.toArray,ys.toArray,decide p,rfl,rfl,h,hK⟩
def bFr(a b:Row)(w:Ζ):(Op.equal 66 (agg (eh a)) (agg (eh b))).run Tryz.prog w= .ok (decide (a=b)) w:=by
 refine Gt Tryz.underlying66 (by kernel_rfl) ?_;obtain⟨k,v⟩:=a;obtain⟨k',v'⟩:=b;simp[eh,Op.eqFields,part,wwm (h:=yy4),wwm (h:=yyc),run_equalIn_bool' (h:=vv4),run_equalIn_string (h:=yy5),Result.andThen,toList_inj];by_cases h0:k=k'<;>by_cases h1:v=v'<;>simp[*]
def cnq(a b:Row):SP 90 [agg (eh a),agg (eh b)] [] (cE (.bool (decide (a=b))) []):=by
 refine Enzz λW F w hS=>?_;apply cLy;unfold PY;refine⟨_,rfl,zC hS ?_⟩;clear hS;intro b1 w hS;refine⟨_,rfl,zC hS ?_⟩;clear hS;intro b2 w hS;refine zA hS Xh rfl (zA hS Xh rfl (qO (bFr a b w) ?_));(exact cC hS)
def cwh(H:bw)(u v:Ε)(A B:List Row)(hu:dq H 2 u A.length (A.map eh).flatten)(hv:dq H 2 v B.length (B.map eh).flatten)(hn:A.length<=9223372036854775806):
  SP 36 [u,v] [.mem H] (cE (.bool (decide (A=B))) [.mem H]):=by
 refine Enzz λW F w hS=>?_;apply cKd;unfold O6;refine Cc (cA9 jk rfl (λv0 v1 v2 w R h=>cLw v0 v1 v2 w R h) cnq H u v A B hu hv hn) ?_;clear hS;rintro v post ⟨rfl,rfl⟩ w hS;try simp only[app]at hS
 (exact cC hS)
def y8(n:Int):SP 70 [Γ n] [] (cE (agg [Γ 2,Γ n,Θ,Θ,Γ 0,Γ 0,Θ]) []):=by
 refine Enzz λW F w hS=>?_;apply cLl;delta PM ai bI;refine Gm λb w hS=>?_;(exact cC hS)
def Ki(H:bw)(n:Int):kL H ⟨2,n,Θ,Θ,iQ,Θ⟩ (oH n):=⟨rfl,rfl,rfl,dq.nil _ _,dq.nil _ _,dq.nil _ _⟩
def b_m(H:bw):SP 8 [agg [Γ 1,Γ 0,Γ 256,Γ 4,Γ 2,Γ 4,Γ 1,Γ 8,Γ 0,Γ 5]] [.mem H] (λv post=>∃(p:ic) (H':bw),H.le H'/\v= .tuple #[cG p.np,Γ 0]/\post=[.ob (cx p ks kE H' wG),.mem H']):=Yt H ug
def RY:CS ks kE 1 0 [] wG:=.inl (eG.first (kc:=kE) ug).2.2
def RZ:∃AL,CS ks kE 1 1 AL wH:=by
 obtain⟨AL,h,_⟩:=RY.gv ug (by decide) BN;exact⟨AL,h⟩
def R0:∃AL,CS ks kE 1 2 AL wI:=by
 obtain⟨AL,h⟩:=RZ;obtain⟨AL,h,_⟩:=h.gv ug (by decide) (oH 0);exact⟨AL,h⟩
def a_f:∃AL,CS ks kE 1 3 AL wJ:=by
 obtain⟨AL,h⟩:=R0;obtain⟨AL,h,_⟩:=h.gv ug (by decide) (oH 1);exact⟨AL,h⟩
def dA1:wG.gv ks kE BN=(wH,⟨0,1,0⟩):=by rw[<- tA1];rfl
def dA2:wH.gv ks kE (oH 0)=(wI,⟨0,0,1⟩):=by rw[<- tA2];rfl
def dA3:wI.gv ks kE (oH 1)=(wJ,⟨0,0,2⟩):=by rw[<- tA3];rfl
def dA4:wJ.gv ks kE (oH 3)=(wK,⟨0,0,6⟩):=by rw[<- tA4];rfl
def rwA:rowsOf (rh wK.s.k.ts 0)=[⟨5,⟨#[97]⟩⟩]:=by decide +kernel
def smA:small wK.s.k.ts 0:=by
 have h:(wK.s.k.ts.all λC=>decide (C.length+0<=1000000))=true:=by decide +kernel
 exact λC hC=>zzp (zz3.1 h C hC)
attribute [local irreducible] wG wH wI wJ wK
set_option maxHeartbeats 4000000 in
def YT:SP 14 [] [] (cE (.bool true) []):=by
 refine Enzz λW F w hS=>?_;apply cE6;delta L1 aI bU a_ bV bY ai cT cQ bI ir;have hS:=SL.JT hS;generalize bw.emp=H at hS;refine yW rfl ?_;refine Cc (b_m H) ?_;clear hS;rintro _ post ⟨p,H1,dj,rfl,rfl⟩ w hS;(try simp only[app]at hS);refine Gp ?_
 refine Cg (Ql) λw hS=>?_;refine za (λh=>absurd rfl h) (λ_=>?_);refine Gp ?_;refine zp ?_;refine Gp ?_;refine za (λh=>absurd rfl h) (λ_=>?_);refine Gp ?_;refine zN hS (cells:=fR ⟨0,5,false,⟨#[97]⟩⟩) (by rfl) λcb w hS=>?_;obtain⟨H2,dU,hC,hS⟩:=SL.Kr (sz:=4) (H:=H1) hS Xp rfl;have hS:=cx.je dU hS Xr;refine Gp ?_;have hxA:kL H2 ⟨1,0,Θ,.slice (some ⟨cb,0,none⟩) 1 1,iQ,Θ⟩ BN:=⟨rfl,rfl,rfl,dq.nil _ _,hC,dq.nil _ _⟩;refine Cc (zL p ks kE H2 wG RY ug (by decide) ⟨1,0,Θ,.slice (some ⟨cb,0,none⟩) 1 1,iQ,Θ⟩ BN hxA (by decide)) ?_;clear hS;rintro _ post ⟨rfl,q1,H3,fE,tH,rfl⟩ w hS;try simp only[app]at hS
 rw[dA1]at hS ⊢
 dsimp only at hS ⊢;rw[<- tH];refine Gm λb w hS=>?_;refine Cg (y8 0) λw hS=>?_;obtain⟨AL0,xq⟩:=RZ;refine Cc (zL q1 ks kE H3 wH xq ug (by decide) ⟨2,0,Θ,Θ,iQ,Θ⟩ (oH 0) (Ki H3 0) (by decide)) ?_;clear hS;rintro _ post ⟨rfl,q2,H4,vx,ja,rfl⟩ w hS;try simp only[app]at hS
 rw[dA2]at hS ⊢
 dsimp only at hS ⊢;rw[<- ja];refine Gm λb w hS=>?_;refine Cg (y8 1) λw hS=>?_;obtain⟨AL1,gF⟩:=R0;refine Cc (zL q2 ks kE H4 wI gF ug (by decide) ⟨2,1,Θ,Θ,iQ,Θ⟩ (oH 1) (Ki H4 1) (by decide)) ?_;clear hS;rintro _ post ⟨rfl,q3,H5,CN,Df,rfl⟩ w hS;try simp only[app]at hS
 rw[dA3]at hS ⊢
 dsimp only at hS ⊢;rw[<- Df];refine Gm λb w hS=>?_;refine Cg (y8 3) λw hS=>?_;obtain⟨sX,jY⟩:=a_f;refine Cc (zL q3 ks kE H5 wJ jY ug (by decide) ⟨2,3,Θ,Θ,iQ,Θ⟩ (oH 3) (Ki H5 3) (by decide)) ?_;clear hS;rintro _ post ⟨rfl,q4,H6,h56,Dg,rfl⟩ w hS;try simp only[app]at hS
 rw[dA4]at hS ⊢
 dsimp only at hS ⊢;rw[<- Dg];refine Gm λb w hS=>?_;refine qO (AN ⟨0,1,0⟩ ⟨0,1,0⟩ w) ?_;refine za (λ_=>?_) (λh=>absurd rfl h);refine Gp ?_;refine qO (AN ⟨0,0,1⟩ ⟨0,0,1⟩ w) ?_;refine za (λ_=>?_) (λh=>absurd rfl h);refine Gp ?_;refine qO (AN ⟨0,0,2⟩ ⟨0,0,2⟩ w) ?_;refine za (λ_=>?_) (λh=>absurd rfl h);refine Gp ?_;refine qO (AN ⟨0,0,6⟩ ⟨0,0,6⟩ w) ?_;refine za (λ_=>?_) (λh=>absurd rfl h);obtain⟨dv,hS⟩:=cx.open hS Xr;obtain⟨ov,nv,hi,hS⟩:=du.open hS Xr;obtain⟨rv,hr,hS⟩:=db.open hS Xr;refine Gp ?_;refine Cc (Qz q4.w.gp wK.s.k.ts 0 smA) ?_;clear hS;rintro u post rfl w hS;try simp only[app]at hS
 rw[rwA]at hS
 have hS:SL W (.ob (gu q4.w.gp wK.s.k.ts)::.ob (bR u 66 2 [(⟨5,⟨#[97]⟩⟩:Row)].length ([(⟨5,⟨#[97]⟩⟩:Row)].map eh).flatten)::_) w:=hS;refine Gp ?_;refine zN hS (cells:=eh ⟨5,⟨#[97]⟩⟩) (by rfl) λrb w hS=>?_;obtain⟨H7,S',hA,hS⟩:=SL.Kr (sz:=2) (H:=H6) hS Xp rfl;obtain⟨H8,vy,hB,hS⟩:=zz (H:=H7) (v:=u) hS Xp;refine Cc (cwh H8 u (.slice (some ⟨rb,0,none⟩) 1 1) [⟨5,⟨#[97]⟩⟩] [⟨5,⟨#[97]⟩⟩] hB (hA.mono vy) (by decide)) ?_;clear hS;rintro _ post ⟨rfl,rfl⟩ w hS;try simp only[app]at hS
 rw[zzm (p:=([(⟨5,⟨#[97]⟩⟩:Row)]=[⟨5,⟨#[97]⟩⟩])) rfl];exact cC hS
def EH(s:Η)(n:Nat):Η:=s.extract 0 (min s.size n)
def qo(s:Η)(n:Nat):SP 151 [.string s,Γ n] [] (cE (.string (EH s n)) []):=by
 refine Enzz λW F w hS=>?_;apply cFi;unfold Mg;refine Gp ?_;rw[show min (s.size:Int) (n:Int)=((min s.size n:Nat):Int) by omega];refine⟨s,0,min s.size n,rfl,⟨.i64,rfl⟩,rfl,zz9 _,Nat.min_le_left _ _,?_⟩;(exact cC hS)
def jB(c:ep)(k:Nat):ep:=⟨md c.table k,if md c.key 31=30 then ((1+md c.key 1099511627776:Nat):Int) else ((1+md c.key 12:Nat):Int),c.gone,if c.gone then ⟨#[]⟩ else EH c.val 32⟩
def qj(c:ep)(k:Nat)(h1:0<k)(h2:k<=8):SP 99 [agg (fR c),Γ k] [] (cE (agg (fR (jB c k))) []):=by
 refine Enzz λW F w hS=>?_;apply cL5;delta P5 aI a_ aR cL Hq ai cQ;obtain⟨table,key,gone,val⟩:=c;refine⟨_,rfl,zC hS ?_⟩;clear hS;intro p w hS;refine zC hS ?_;clear hS;intro q w hS;simp only[fR]at hS;have cOp:=h_ key 12 (by decide);have hmb:=h_ key 1099511627776 (by decide);have I7:(1:Int)+(md key 12:Int)=((1+md key 12:Nat):Int):=by omega
 have hmf:(1:Int)+(md key 1099511627776:Int)=((1+md key 1099511627776:Nat):Int):=by omega
 refine⟨λus w=>∃x:Nat,us=[Δ x]/\SL W (.pt x [Γ (md table k:Nat),Γ ((1+md key 12:Nat):Int),.bool gone,.string ⟨#[]⟩] 56::.pt q [Γ 0,Γ 0,.bool false,.string ⟨#[]⟩] 56::.pt p [Γ table,Γ key,.bool gone,.string val] 56::F) w,?_,?_⟩
 ·refine yz hS ?_;clear hS;intro w hS;refine Gp ?_;refine⟨?_,?_⟩
  ·refine Cg (ya table k h1 (by omega)) λw hS=>?_;refine⟨?_,?_⟩
   ·refine Cg (zO key 12 (by decide) (by decide)) λw hS=>?_;refine Gm λb w hS=>?_;rw[I7]at hS
    exact⟨_,rfl,aW hS⟩
   refine Gm λb w hS=>?_;refine Cg (zO key 12 (by decide) (by decide)) λw hS=>?_;rw[I7]at hS
   exact⟨_,rfl,aW hS⟩
  refine Gm λb w hS=>?_;refine Cg (ya table k h1 (by omega)) λw hS=>?_;refine Cg (zO key 12 (by decide) (by decide)) λw hS=>?_;rw[I7]at hS
  exact⟨_,rfl,aW hS⟩
 clear hS;rintro v5 w ⟨x,cP,hS⟩;cases cP;refine⟨λus w=>us=[]/\SL W (.pt x [Γ (md table k:Nat),Γ (jB ⟨table,key,gone,val⟩ k).key,.bool gone,.string ⟨#[]⟩] 56::.pt q [Γ 0,Γ 0,.bool false,.string ⟨#[]⟩] 56::.pt p [Γ table,Γ key,.bool gone,.string val] 56::F) w,?_,?_⟩
 ·refine Gp ?_;refine Cg (zO key 31 (by decide) (by decide)) λw hS=>?_;refine za (λh=>?_) (λh=>?_)
  ·have hk:(jB ⟨table,key,gone,val⟩ k).key=((1+md key 1099511627776:Nat):Int):=by unfold jB;simp only;rw[zzd (by omega)]
   rw[hk];refine Gp ?_;refine Cg (zO key 1099511627776 (by decide) (by decide)) λw hS=>?_;rw[hmf]at hS
   exact aW hS
  have hk:(jB ⟨table,key,gone,val⟩ k).key=((1+md key 12:Nat):Int):=by unfold jB;simp only;rw[zzb (by omega)]
  rw[hk];exact⟨rfl,aW hS⟩
 clear hS;rintro w ⟨-,hS⟩;refine Gp ?_;cases gone with
 | true=>
  refine zp ?_;refine Gn λw hS=>?_;have e:fR (jB ⟨table,key,true,val⟩ k)=[Γ (md table k:Nat),Γ (jB ⟨table,key,true,val⟩ k).key,.bool true,.string ⟨#[]⟩]:=rfl;rw[e];(exact cC hS)
 | false=>
  refine zq ?_;refine Gp ?_;refine Cg (qo val 32) λw hS=>?_;have e:fR (jB ⟨table,key,false,val⟩ k)=[Γ (md table k:Nat),Γ (jB ⟨table,key,false,val⟩ k).key,.bool false,.string (EH val 32)]:=rfl;rw[e];(exact cC hS)
def bIg(c:ep)(z:Ξ)(hz:z.length=4):iz (cK z 1) [(0,4,agg (fR c))]=some (fR c):=by
 simp[iz,cK,Value.cells,fR,hz]
def Yn(H:bw)(v:Ε)(l:List ep)(k cJ:Nat)(hv:dq H 4 v l.length (l.map fR).flatten)(h1:0<k)(h2:k<=8)(hm:cJ<=1000)(hn:l.length<=140737488351232):
  SP 43 [v,Γ k,Γ cJ] [.mem H] (λu post=>post=[.ob (bR u 56 4 ((l.take cJ).map (jB · k)).length (((l.take cJ).map (jB · k)).map fR).flatten),.mem H]):=by
 refine Enzz λW F w hS=>?_;apply cKw;delta Pm aI ai cQ bI;refine⟨λus w=>∃(m:Nat) (u:Ε),us=[u,Γ m]/\m<=l.length/\m<=cJ/\SL W (.ob (bR u 56 4 m ((((l.take m).map (jB · k)).map fR).flatten))::.mem H::F) w,
  λus _=>match us with|[_,.int _ m]=>(l.length-m).toNat|_=>0,⟨0,_,rfl,by omega,by omega,bR.nil hS⟩,?_⟩
 clear hS;rintro v7 v8 w ⟨m,u,cP,mg,vM,hS⟩;cases cP;have gG:∀w,(m=l.length\/m=cJ)->SL W (.ob (bR v7 56 4 m ((((l.take m).map (jB · k)).map fR).flatten))::.mem H::F) w ->
   ∃post,(post=[.ob (bR v7 56 4 ((l.take cJ).map (jB · k)).length (((l.take cJ).map (jB · k)).map fR).flatten),.mem H])/\SL W (app post F) w:=λw he hS=>by
  have ht:l.take m=l.take cJ:=by
   rcases he with rfl|rfl
   ·rw[zz4,zz6 (by omega)]
   rfl
  have hl:m=((l.take cJ).map (jB · k)).length:=by rw[<- ht,zzn,zzg];omega
  rw[ht,hl]at hS
  exact⟨_,rfl,hS⟩
 refine zo hv ?_;refine Gp ?_;refine za (λh=>?_) (λh=>gG w (.inl (by omega)) hS);refine Gp ?_;refine za (λh3=>?_) (λh3=>gG w (.inr (by omega)) hS);have cz:m<l.length:=by omega
 refine zD hS Xh te hv (x:=l[m]) (by simp[cz]) cz ?_;refine Cc (qj l[m] k h1 h2) ?_;clear hS;rintro v26 post ⟨rfl,rfl⟩ w hS;try simp only[app]at hS
 refine zN hS (bIg (jB l[m] k) [Γ 0,Γ 0,.bool false,.string ⟨#[]⟩] rfl) ?_;clear hS;intro b w hS;refine zI (n:=m) (m:=1) hS Xr (kf (cs:=fR (jB l[m] k)) hS .hd rfl) rfl rfl (Sw _) (by omega) (by omega) ?_;clear hS;intro u' w hS;refine Gp ?_;have e:(l.take (m+1)).map (jB · k)=(l.take m).map (jB · k)++[jB l[m] k]:=by rw[zze cz,zzt];rfl
 refine⟨⟨m+1,u',rfl,(by omega),(by omega),(by rw[e,vt];exact aW hS)⟩,(by dsimp only;omega)⟩
def YU(H:bw)(v:Ε)(l:List ep)(k cJ:Nat)(hv:dq H 4 v l.length (l.map fR).flatten)(h1:0<k)(h2:k<=8)(hm:cJ<=1000)(hn:l.length<=140737488351232):
  SP 43 [v,Γ k,Γ cJ] [.mem H] (λu post=>∃H',H.le H'/\dq H' 4 u ((l.take cJ).map (jB · k)).length (((l.take cJ).map (jB · k)).map fR).flatten/\post=[.mem H']):=by
 intro W F w hS;refine zQ.mono (Yn H v l k cJ hv h1 h2 hm hn W F w hS) ?_;rintro u w ⟨post,rfl,hS⟩;have hS:SL W (_::.mem H::F) w:=hS;obtain⟨H2,dU,hR,hS⟩:=zz (H:=H) (v:=u) hS Xp;exact⟨_,⟨H2,dU,hR,rfl⟩,hS⟩
def cBi(s:Η)(k:Nat)(h1:0<k)(h2:k<=8):SP 100 [.string s,Γ k] [] (λv post=>∃r,v= .string r/\r.size<=40/\post=[]):=by
 refine Enzz λW F w hS=>?_;apply cEc;delta Lu aI ai;refine Gp ?_;refine za (λh=>⟨_,⟨_,rfl,by decide,rfl⟩,hS⟩) (λh=>?_);have fX:0<s.size:=by
  rcases yyu s.size with h0|h0
  ·refine absurd ?_ h;obtain⟨⟨l⟩⟩:=s;have:l=[]:=zzl h0;subst this;rfl
  exact h0
 refine WW (j:=0) yy5 fX ?_;generalize s[0]=b;have hb:b.toNat<256:=b.toNat_lt;generalize b.toNat=n at hb;refine yy (by omega) ?_;refine ZK (by decide) ?_;refine bZ (λh3=>?_) (λh3=>?_)
 ·refine Cg (qo s 40) λw hS=>?_;exact⟨_,⟨_,rfl,by unfold EH;rw[ByteArray.size_extract];omega,rfl⟩,hS⟩
 refine Kz (by decide) (by rw[xx2 (by omega)];omega) ?_;rw[show (n:Int).tdiv 4=((n / 4:Nat):Int) by rw[xx2 (by omega)];omega];refine QW h1 ?_;have hk:n / 4 % k<8:=Nat.lt_of_lt_of_le (vvg _ h1) h2;refine Gp ?_;refine zW ?_;generalize hx:IntKind.u8.wrap (48+((n / 4 % k:Nat):Int))=x;refine zN hS (cells:=[.int .u8 x]) (by simp[iz,cK,Value.cells]) ?_;clear hS;intro b1 w hS;refine YN hS .hd xxt yy5 wwt ?_;generalize hA:(⟨#[UInt8.ofNat x.toNat]⟩:Η)=A;have E7:A.size=1:=by rw[<- hA];rfl
 refine QR (by rw[E7];decide) ?_;generalize hB:(⟨#[115,110,97,112,115,104,111,116,32]⟩:Η)++A=B;have Ta:B.size<=10:=by rw[<- hB,uur,E7];decide
 refine ZK (by decide) ?_;refine Gp ?_;refine za (λh4=>?_) (λh4=>⟨_,⟨_,rfl,by omega,rfl⟩,aW hS⟩);refine QR (yy2 (uuv Ta _) (by decide)) ?_;generalize hC:B++(⟨#[32]⟩:Η)=C;have hCs:C.size<=11:=by rw[<- hC,uur];exact uuv Ta _
 refine Kz (by decide) (by rw[xx2 (by omega)];omega) ?_;rw[show (n:Int).tdiv 16=((n / 16:Nat):Int) by rw[xx2 (by omega)];omega];refine ZK (by decide) ?_;rw[show ((n / 16:Nat):Int).tmod 8=((n / 16 % 8:Nat):Int) by rw[xx0 (by omega)];omega];refine Gp ?_;refine zW ?_;generalize IntKind.u8.wrap (49+((n / 16 % 8:Nat):Int))=y;refine zN hS (cells:=[.int .u8 y]) (by simp[iz,cK,Value.cells]) ?_;clear hS;intro b2 w hS;refine YN hS .hd xxt yy5 wwt ?_;refine QR (yy2 (uuv hCs _) (by show 11+1<=1000000;decide)) ?_;exact⟨_,⟨_,rfl,by rw[uur];show C.size+1<=40;omega,rfl⟩,aW hS⟩
def cBj(H:bw)(v:Ε)(l:Ψ)(k cJ:Nat)(hv:dq H 1 v l.length (l.map Value.string))(h1:0<k)(h2:k<=8)(hm:cJ<=1000)(hn:l.length<=140737488351232):
  SP 44 [v,Γ k,Γ cJ] [.mem H] (λu post=>∃(H':bw) (rs:Ψ),H.le H'/\rs.length<=cJ/\(∀s∈rs,s.size<=40)/\dq H' 1 u rs.length (rs.map Value.string)/\post=[.mem H']):=by
 refine Enzz λW F w hS=>?_;apply cKx;delta Pn aI ai cQ bI;refine⟨λus w=>∃(m:Nat) (u:Ε) (rs:Ψ),us=[u,Γ m]/\m<=l.length/\rs.length=m/\m<=cJ/\(∀s∈rs,s.size<=40)/\SL W (.ob (bR u 9 1 m (rs.map Value.string))::.mem H::F) w,
  λus _=>match us with|[_,.int _ m]=>(l.length-m).toNat|_=>0,⟨0,_,[],rfl,by omega,rfl,by omega,by simp,bR.nil hS⟩,?_⟩
 clear hS;rintro v7 v8 w ⟨m,u,rs,cP,mg,Dm,vM,xf,hS⟩;cases cP;have gG:∀w,SL W (.ob (bR v7 9 1 m (rs.map Value.string))::.mem H::F) w ->
   ∃post,(∃(H':bw) (rs:Ψ),H.le H'/\rs.length<=cJ/\(∀s∈rs,s.size<=40)/\dq H' 1 v7 rs.length (rs.map Value.string)/\post=[.mem H'])/\SL W (app post F) w:=λw hS=>by
  obtain⟨H2,dU,hR,hS⟩:=zz (H:=H) (v:=v7) hS Xp;rw[<- Dm]at hR
  exact⟨_,⟨H2,rs,dU,by omega,xf,hR,rfl⟩,hS⟩
 refine zo hv ?_;refine Gp ?_;refine za (λh=>?_) (λh=>gG w hS);refine Gp ?_;refine za (λh3=>?_) (λh3=>gG w hS);clear gG;have cz:m<l.length:=by omega
 refine yP hS Xh hv cz (u:=.string l[m]) (by simp[cz]) ?_;refine Cc (cBi l[m] k h1 h2) ?_;clear hS;rintro v26 post ⟨r,rfl,bWf,rfl⟩ w hS;refine Gm λb w hS=>?_;refine zI (n:=m) (m:=1) hS Xr (kf (cs:=[.string r]) hS .hd rfl) rfl rfl (by simp[Value.oneCell']) (by omega) (by omega) ?_;clear hS;intro u' w hS;refine Gp ?_;refine⟨⟨m+1,u',rs++[r],rfl,(by omega),(by simp[Dm]),(by omega),(λs hs=>by
  rcases zz5.1 hs with hs|hs
  ·exact xf s hs
  rw[zz7.1 hs];exact bWf),(by rw[zzt,zzo,yy7];exact aW hS)⟩,(by dsimp only;omega)⟩
def YC(H:bw)(v:Ε)(l:Ω)(cJ:Nat)(hv:dq H 1 v l.length (l.map (Value.int .i64)))(hm:cJ<=1000)(hn:l.length<=140737488351232):
  SP 16 [v,Γ cJ] [.mem H] (λu post=>∃(H':bw) (rs:Ω),H.le H'/\rs.length<=cJ/\dq H' 1 u rs.length (rs.map (Value.int .i64))/\post=[.mem H']):=by
 refine Enzz λW F w hS=>?_;apply cFr;delta Mp aI ai bI;refine⟨λus w=>∃(m:Nat) (u:Ε) (rs:Ω),us=[u,Γ m]/\m<=l.length/\rs.length=m/\m<=cJ/\SL W (.ob (bR u 3 1 m (rs.map (Value.int .i64)))::.mem H::F) w,
  λus _=>match us with|[_,.int _ m]=>(l.length-m).toNat|_=>0,⟨0,_,[],rfl,by omega,rfl,by omega,bR.nil hS⟩,?_⟩
 clear hS;rintro v7 v8 w ⟨m,u,rs,cP,mg,Dm,vM,hS⟩;cases cP;have gG:∀w,SL W (.ob (bR v7 3 1 m (rs.map (Value.int .i64)))::.mem H::F) w ->
   ∃post,(∃(H':bw) (rs:Ω),H.le H'/\rs.length<=cJ/\dq H' 1 v7 rs.length (rs.map (Value.int .i64))/\post=[.mem H'])/\SL W (app post F) w:=λw hS=>by
  obtain⟨H2,dU,hR,hS⟩:=zz (H:=H) (v:=v7) hS Xp;rw[<- Dm]at hR
  exact⟨_,⟨H2,rs,dU,by omega,hR,rfl⟩,hS⟩
 refine zo hv ?_;refine Gp ?_;refine za (λh=>?_) (λh=>gG w hS);refine Gp ?_;refine za (λh3=>?_) (λh3=>gG w hS);clear gG;have cz:m<l.length:=by omega
 refine yP hS Xh hv cz (u:=Γ l[m]) (by simp[cz]) ?_;refine Cg (ya l[m] 200 (by decide) (by decide)) λw hS=>?_;refine Gm λb w hS=>?_;refine zI (n:=m) (m:=1) hS Xr (kf (cs:=[Γ (md l[m] 200:Int)]) hS .hd rfl) rfl rfl (by simp[Value.oneCell']) (by omega) (by omega) ?_;clear hS;intro u' w hS;refine Gp ?_;refine⟨⟨m+1,u',rs++[(md l[m] 200:Int)],rfl,(by omega),(by simp[Dm]),(by omega),(by rw[zzt,zzo,yy7];exact aW hS)⟩,(by dsimp only;omega)⟩
structure Lp(s:gB):Prop where
 kind:1<=s.kind/\s.kind<=8
 n:0<=s.n/\s.n<=40
 pick:s.kind=2->s.n<5
 l:s.l.length<=4
 sg:s.sg.length<=1
 keep:s.keep.length<=20
def Z5(H:bw)(x:oa)(s:gB)(k:Nat)(hx:kL H x s)(h1:0<k)(h2:k<=8)(l1:s.sg.length<=140737488351232)(l2:s.l.length<=140737488351232)(l3:s.keep.length<=140737488351232):
  SP 9 [agg (jX x),Γ k] [.mem H] (λv post=>∃(H':bw) (y:oa) (t:gB),H.le H'/\v=agg (jX y)/\kL H' y t/\Lp t/\post=[.mem H']):=by
 refine Enzz λW F w hS=>?_;apply vc9;delta PX aI a_ aR vg ai bI;obtain⟨e1,e2,e3,Bh,sA,C7⟩:=hx;refine zw hS λxb w hS=>?_;unfold jX at hS;rw[e1,e2,e3]at hS
 have hk:=h_ s.kind 24 (by decide);have nl:∀(H:bw) (sz:Nat),dq H sz Θ 0 []:=dq.nil;refine Gm λb w hS=>?_;refine Cg (ya s.kind 24 (by decide) (by decide)) λw hS=>?_;refine za (λh5=>?_) (λh5=>?_)
 ·refine Gn λw hS=>?_;refine Cc (YU H x.cv s.l k 4 sA h1 h2 (by decide) l2) ?_;clear hS;rintro u post ⟨H1,dj,hR,rfl⟩ w hS;(try simp only[app]at hS);refine Gp ?_
  refine Cc (cBj H1 x.sv s.sg k 1 (Bh.mono dj) h1 h2 (by decide) l1) ?_;clear hS;rintro u2 post ⟨H2,rs,dU,uJ,_,pQ,rfl⟩ w hS;try simp only[app]at hS
  obtain⟨a1,n1,c1,rfl⟩:=hR.FZ;obtain⟨a2,n2,c2,rfl⟩:=pQ.FZ;refine Gn λw hS=>?_;refine⟨_,⟨H2,⟨1,0,.slice a2 n2 c2,.slice a1 n1 c1,iQ,Θ⟩,⟨1,0,rs,(s.l.take 4).map (jB · k),iQ,[]⟩,bw.le_trans dj dU,rfl,⟨rfl,rfl,rfl,pQ,hR.mono dU,nl _ _⟩,⟨⟨show (1:Int)<=1 by decide,show (1:Int)<=8 by decide⟩,⟨show (0:Int)<=0 by decide,show (0:Int)<=40 by decide⟩,λh=>absurd h (show ¬(1:Int)=2 by decide),?_,uJ,zz9 _⟩,rfl⟩,aW hS⟩;show ((s.l.take 4).map (jB · k)).length<=4;rw[zzn,zzg];omega
 refine Gp ?_;have mk:∀(kd nn:Int) (ft:fT),1<=kd->kd<=8->0<=nn->nn<=40->(kd=2->nn<5)->kL H ⟨kd,nn,Θ,Θ,ft,Θ⟩ ⟨kd,nn,[],[],ft,[]⟩/\Lp ⟨kd,nn,[],[],ft,[]⟩:=λkd nn ft a1 a2 a3 a4 a5=>⟨⟨rfl,rfl,rfl,nl _ _,nl _ _,nl _ _⟩,⟨⟨a1,a2⟩,⟨a3,a4⟩,a5,zz9 _,zz9 _,zz9 _⟩⟩;refine za (λh6=>?_) (λh6=>?_)
 ·refine Gp ?_;refine Cg (zO s.n 5 (by decide) (by decide)) λw hS=>?_;have hb:=h_ s.n 5 (by decide);obtain⟨m1,m2⟩:=mk 2 (md s.n 5:Int) iQ (by decide) (by decide) (by omega) (by omega) (λ_=>by omega);exact⟨_,⟨H,⟨2,(md s.n 5:Int),Θ,Θ,iQ,Θ⟩,_,bw.le_refl H,rfl,m1,m2,rfl⟩,aW hS⟩
 refine bZ (λh7=>?_) (λh7=>?_)
 ·refine Gp ?_;refine yG (vs:=iO s.ft) hS Xh rfl (λj v h=>?_) ?_
  ·match j,h with
   | 0,h=>exact h
   | 1,h=>exact h
   | j+2,h=>simp[iO]at h
  refine Cg (qE s.ft) λw hS=>?_;unfold iO;refine Gn λw hS=>?_;obtain⟨m1,m2⟩:=mk 3 0 (CJ s.ft) (by decide) (by decide) (by decide) (by decide) (λh=>absurd h (by decide));exact⟨_,⟨H,⟨3,0,Θ,Θ,CJ s.ft,Θ⟩,_,bw.le_refl H,rfl,m1,m2,rfl⟩,aW hS⟩
 refine bZ (λh8=>?_) (λh8=>?_)
 ·refine Gp ?_;have hb:=h_ s.n 5 (by decide);refine Cg (zO s.n 5 (by decide) (by decide)) λw hS=>?_;obtain⟨m1,m2⟩:=mk 4 (1+(md s.n 5:Int)) iQ (by decide) (by decide) (by omega) (by omega) (λh=>absurd h (by decide));exact⟨_,⟨H,⟨4,1+(md s.n 5:Int),Θ,Θ,iQ,Θ⟩,_,bw.le_refl H,rfl,m1,m2,rfl⟩,aW hS⟩
 refine bZ (λh9=>?_) (λh9=>?_)
 ·refine Gp ?_;refine Cg (zO s.n 40 (by decide) (by decide)) λw hS=>?_;have hb:=h_ s.n 40 (by decide);obtain⟨m1,m2⟩:=mk 5 (md s.n 40:Int) iQ (by decide) (by decide) (by omega) (by omega) (λh=>absurd h (by decide));exact⟨_,⟨H,⟨5,(md s.n 40:Int),Θ,Θ,iQ,Θ⟩,_,bw.le_refl H,rfl,m1,m2,rfl⟩,aW hS⟩
 refine bZ (λvw=>?_) (λvw=>?_)
 ·refine Gn λw hS=>?_;obtain⟨m1,m2⟩:=mk 6 0 iQ (by decide) (by decide) (by decide) (by decide) (λh=>absurd h (by decide));exact⟨_,⟨H,⟨6,0,Θ,Θ,iQ,Θ⟩,_,bw.le_refl H,rfl,m1,m2,rfl⟩,aW hS⟩
 refine bZ (λAS=>?_) (λAS=>?_)
 ·refine Gp ?_;have hb:=h_ s.n 4 (by decide);refine Cg (zO s.n 4 (by decide) (by decide)) λw hS=>?_;obtain⟨m1,m2⟩:=mk 7 (1+(md s.n 4:Int)) iQ (by decide) (by decide) (by omega) (by omega) (λh=>absurd h (by decide));exact⟨_,⟨H,⟨7,1+(md s.n 4:Int),Θ,Θ,iQ,Θ⟩,_,bw.le_refl H,rfl,m1,m2,rfl⟩,aW hS⟩
 refine Gp ?_;refine Cc (YC H x.kv s.keep 20 C7 (by decide) l3) ?_;clear hS;rintro u post ⟨H1,rs,dj,uJ,hR,rfl⟩ w hS;try simp only[app]at hS
 obtain⟨a1,n1,c1,rfl⟩:=hR.FZ;refine Gn λw hS=>?_;exact⟨_,⟨H1,⟨8,0,Θ,Θ,iQ,.slice a1 n1 c1⟩,⟨8,0,[],[],iQ,rs⟩,dj,rfl,⟨rfl,rfl,rfl,nl _ _,nl _ _,hR⟩,⟨⟨show (1:Int)<=8 by decide,show (8:Int)<=8 by decide⟩,⟨show (0:Int)<=0 by decide,show (0:Int)<=40 by decide⟩,λh=>absurd h (show ¬(8:Int)=2 by decide),zz9 _,zz9 _,uJ⟩,rfl⟩,aW hS⟩
