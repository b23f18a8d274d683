/- Part of the proof. -/
import Derived.Test.YtmkllimamejcgaaGreatJ12
import Derived.Shelf.SlSortCmp.NoneTotal
import Derived.Ground.SlsfProg
import Derived.Test.YtmkllimamejcgaaGreatProg
import Derived.Test.YtmkllimamejcgaaGreatChecked
import Derived.Test.YtmkllimamejcgaaGreatQVcI
import Derived.Test.YtmkllimamejcgaaGreatQVcG
import Derived.Test.YtmkllimamejcgaaGreatQVcF
namespace Go.Proofs.YtmkllimamejcgaaGreat
set_option linter.all false
set_option maxRecDepth 100000
open Go.RowKit Go.Sort Go.Shelf
def vv1:=@Tryz.underlying4
def ww1:=@Int.tdiv_eq_ediv_of_nonneg
def uuq:=@ByteArray.size_append
def uuu:=@Nat.add_le_add_right
def f_4:Go.Shelf.Ren:=⟨λ| 6=>243|15=>192|14=>303|28=>266|29=>267|20=>346|21=>347|22=>348|23=>349|24=>350|25=>351|26=>352|27=>353|46=>376|47=>317|48=>318|49=>377|50=>378|57=>393|n=>n,λ| 22=>170|24=>361|25=>364|3=>3|39=>107|0=>0|53=>380|55=>163|4=>4|46=>373|45=>372|50=>352|5=>5|9=>9|66=>428|70=>432|76=>483|77=>484|n=>n,λ| n=>n⟩
def aw2:Go.Proofs.SlLaysF0.n6 Tryz.prog f_4 where
 mixed:=by kernel_rfl
 f6 := ⟨ "slices.SortFunc[[]qanat/wheel.timer,qanat/wheel.timer]", by decide, Tryz.func243.trans (yyu some (by kernel_rfl))⟩
 f14 := ⟨ "slices.pdqsortCmpFunc[qanat/wheel.timer]", by decide, Tryz.func303.trans (yyu some (by kernel_rfl))⟩
 f15:=Tryz.func192.trans (yyu some (by kernel_rfl))
 f20 := ⟨ "slices.insertionSortCmpFunc[qanat/wheel.timer]", by decide, Tryz.func346.trans (yyu some (by kernel_rfl))⟩
 f21 := ⟨ "slices.heapSortCmpFunc[qanat/wheel.timer]", by decide, Tryz.func347.trans (yyu some (by kernel_rfl))⟩
 f22 := ⟨ "slices.breakPatternsCmpFunc[qanat/wheel.timer]", by decide, Tryz.func348.trans (yyu some (by kernel_rfl))⟩
 f23 := ⟨ "slices.choosePivotCmpFunc[qanat/wheel.timer]", by decide, Tryz.func349.trans (yyu some (by kernel_rfl))⟩
 f24 := ⟨ "slices.reverseRangeCmpFunc[qanat/wheel.timer]", by decide, Tryz.func350.trans (yyu some (by kernel_rfl))⟩
 f25 := ⟨ "slices.partialInsertionSortCmpFunc[qanat/wheel.timer]", by decide, Tryz.func351.trans (yyu some (by kernel_rfl))⟩
 f26 := ⟨ "slices.partitionEqualCmpFunc[qanat/wheel.timer]", by decide, Tryz.func352.trans (yyu some (by kernel_rfl))⟩
 f27 := ⟨ "slices.partitionCmpFunc[qanat/wheel.timer]", by decide, Tryz.func353.trans (yyu some (by kernel_rfl))⟩
 f28:=Tryz.func266.trans (yyu some (by kernel_rfl))
 f29:=Tryz.func267.trans (yyu some (by kernel_rfl))
 f46 := ⟨ "slices.siftDownCmpFunc[qanat/wheel.timer]", by decide, Tryz.func376.trans (yyu some (by kernel_rfl))⟩
 f47:=Tryz.func317.trans (yyu some (by kernel_rfl))
 f48:=Tryz.func318.trans (yyu some (by kernel_rfl))
 f49 := ⟨ "slices.medianAdjacentCmpFunc[qanat/wheel.timer]", by decide, Tryz.func377.trans (yyu some (by kernel_rfl))⟩
 f50 := ⟨ "slices.medianCmpFunc[qanat/wheel.timer]", by decide, Tryz.func378.trans (yyu some (by kernel_rfl))⟩
 f57 := ⟨ "slices.order2CmpFunc[qanat/wheel.timer]", by decide, Tryz.func393.trans (yyu some (by kernel_rfl))⟩
 t0:=Tryz.underlying0
 a0:=Tryz.isAgg0
 z0:=Tryz.sizeOf0
 v0:=Tryz.zeroValue0
 t3:=yye
 a3:=Tryz.isAgg3
 z3:=Tryz.sizeOf3
 v3:=Tryz.zeroValue3
 t4:=vv1
 a4:=Tryz.isAgg4
 z4:=Tryz.sizeOf4
 v4:=Tryz.zeroValue4
 t5:=wwj
 a5:=Tryz.isAgg5
 z5:=Tryz.sizeOf5
 v5:=Tryz.zeroValue5
 t9:=yy1
 a9:=Tryz.isAgg9
 z9:=Tryz.sizeOf9
 v9:=Tryz.zeroValue9
 t22:=Tryz.underlying170
 a22:=Tryz.isAgg170
 z22:=Tryz.sizeOf170
 v22:=Tryz.zeroValue170
 t25:=Tryz.underlying364
 a25:=Tryz.isAgg364
 z25:=Tryz.sizeOf364
 v25:=Tryz.zeroValue364
 t39:=Tryz.underlying107
 a39:=Tryz.isAgg107
 z39:=Tryz.sizeOf107
 v39:=Tryz.zeroValue107
 t45:=Tryz.underlying372
 a45:=Tryz.isAgg372
 z45:=Tryz.sizeOf372
 v45:=Tryz.zeroValue372
 t46:=Tryz.underlying373
 a46:=Tryz.isAgg373
 z46:=Tryz.sizeOf373
 v46:=Tryz.zeroValue373
 t50:=Tryz.underlying352
 a50:=Tryz.isAgg352
 z50:=Tryz.sizeOf352
 v50:=Tryz.zeroValue352
 t53:=Tryz.underlying380
 a53:=Tryz.isAgg380
 z53:=Tryz.sizeOf380
 v53:=Tryz.zeroValue380
 t55:=Tryz.underlying163
 a55:=Tryz.isAgg163
 z55:=Tryz.sizeOf163
 v55:=Tryz.zeroValue163
 t66:=Tryz.underlying428
 a66:=Tryz.isAgg428
 z66:=Tryz.sizeOf428
 v66:=Tryz.zeroValue428
 t70:=Tryz.underlying432
 a70:=Tryz.isAgg432
 z70:=Tryz.sizeOf432
 v70:=Tryz.zeroValue432
 t76:=Tryz.underlying483
 a76:=Tryz.isAgg483
 z76:=Tryz.sizeOf483
 v76:=Tryz.zeroValue483
 t77:=Tryz.underlying484
 a77:=Tryz.isAgg484
 z77:=Tryz.sizeOf484
 v77:=Tryz.zeroValue484
def Grown(W w:Α):Prop:=∃q os,w=grow (W.drewN q) os
def Grown.refl(W:Α):Grown W W:=⟨0,#[],by simp[World.drewN]⟩
def Grown.alloc{W w:Α}(h:Grown W w)(o:Obj):Grown W (w.alloc o):=by
 obtain⟨q,os,rfl⟩:=h;exact⟨q,os ++ #[o],by rw[alloc_eq_grow,grow_grow]⟩
def Grown.drew{W w:Α}(h:Grown W w):Grown W w.drew:=by
 obtain⟨q,os,rfl⟩:=h;exact⟨q+1,os,rfl⟩
section
variable {W0 W w:Α} {l l':Ψ} {P:Program}
def UN{cs:Γ}{t:Ε}{K:Ω->Α->Prop}(hS:SL W l w)(hG:Grown W0 w)(h:∀b w',SL W (.pt b cs t::l) w'->Grown W0 w'->K (.pointer (some ⟨b,0,none⟩)) w'):zh cs t w K:=h _ _ hS.new (hG.alloc _)
def cWd{K:Α->Prop}(hS:SL W l w)(hG:Grown W0 w)(h:∀w',SL W l w'->Grown W0 w'->K w'):zj w K:=h _ hS.drew hG.drew
def cWc{z cells:Γ}{ps:List (Nat × Nat × Ω)}{e:Ε}{n:Nat}{K:Ω->Α->Prop}(hS:SL W l w)(hG:Grown W0 w)(hc:mq z ps=some cells)
  (h:∀b w',SL W (.pt b cells e::l) w'->Grown W0 w'->K (.slice (some ⟨b,0,none⟩) n n) w'):zm z ps e n w K:=⟨cells,hc,h _ _ hS.new (hG.alloc _)⟩
def SL.grow{os:Array Obj}(hS:SL W l w):SL W l (Go.Sort.grow w os):=
 ⟨hS.os,hS.tape,hS.output,let ⟨k,s,m⟩:=hS.out;⟨k,s,λb o e=>by
  have:=m b o e;have iw:=(xxh.1 this).1;show (w.heap++os)[b]?=some o;rw[Array.getElem?_append_left iw];exact this⟩⟩
def SL.none(w:Α):SL w [] w:=⟨rfl,rfl,rfl,bw.emp,rfl,λb o e=>by cases e⟩
def fF5(F:Array Ω)(cells rest:Γ)(h:cells.length=F.size):putCells id 0 F (cells++rest).toArray=(F.toList++rest).toArray:=by
 apply Array.ext_getElem?;intro k;simp only[putCells,Array.getElem?_mapIdx,List.getElem?_toArray];by_cases hk:k<F.size
 ·rw[zzr (by omega),zzr (by simpa using hk)];have e1:cells[k]?=some (cells[k]'(by omega)):=zzd (by omega);have kU:0<=k/\k<0+F.size:=by omega
  rw[e1];simp[hk,wwt]
 rw[yya (by omega),yya (by simpa using hk)];have kU:¬(0<=k/\k<0+F.size):=by omega
 simp only[kU,vvn,Array.length_toList,h];cases rest[k-F.size]?<;>rfl
def SL.putRow{b n:Nat}{t:Ε}{cells rest:Γ}{F:Array Ω}(hS:SL W (.pt b (cells++rest) t::l) w)(h:cells.length=F.size):SL W (.pt b (F.toList++rest) t::l) (Go.Sort.putRow id (Go.Sort.ahead w n) b 0 F):=by
 obtain⟨f,hf,e⟩:=hS.tM .hd;refine hS.vI (b:=b) (o':=.cells (F.toList++rest).toArray t f) .hd (λk hk=>by obtain⟨f,_,rfl⟩:=hk;exact⟨_,rfl⟩) ⟨f,by simpa [<- h] using hf,rfl⟩ ?_ ?_ rfl rfl rfl
 ·show (w.heap.modify b _)[b]?=_;rw[ww2];simp[e,onCells,fF5 F cells rest h]
 intro x hx;show (w.heap.modify b _)[x]?=_;rw[ww2,zzb (λe=>hx e.symm)]
def UJ{α:Type}[Inhabited α]{enc:α->Γ}{k:Nat}(hk:∀x,(enc x).length=k)(xs:List α):(flatK enc k xs.toArray).toList=(xs.map enc).flatten:=by
 have hl:=tR hk xs;refine uuk λt=>?_;by_cases ht:t<xs.length*k
 ·have k0:0<k:=by
   rcases yy8 k with h|h
   ·subst h;omega
   exact h
  have h1:t / k<xs.length:=(uun k0).2 ht;have h2:t % k<(enc xs[t / k]).length:=by rw[hk];exact vvh _ k0
  have h3:=uJ hk xs (t / k) (t % k) xs[t / k] ((enc xs[t / k])[t % k]) (by simp[h1]) (by simp[h2]);rw[show t / k*k+t % k=t by rw[Nat.mul_comm];exact vv8 t k]at h3
  rw[h3];have h4:(flatK enc k xs.toArray)[t]! = (enc xs.toArray[t / k]!)[t % k]!:=get_flatK enc k xs.toArray t (by simpa using ht);have h5:xs.toArray[t / k]! = xs[t / k]:=by simp[h1,wwt]
  rw[h5]at h4
  rw[Array.getElem?_toList,ww3 (by simpa using ht)];rw[wwt _ _ (by simpa using ht)]at h4
  rw[h4];congr 1;exact List.getElem!_eq_getElem?_getD.trans (by simp[h2])
 rw[yyr (by simp;omega),yyr (by omega)]
end
def wS(a b:Int):Int:=if a<b then -1 else if b<a then 1 else 0
def vS(x y:Tm):Int:=if wS x.when y.when≠0 then wS x.when y.when else wS x.id y.id
def Xc(x y:Tm):vS x y<0↔uj x y:=by
 unfold vS wS uj;repeat' split
 all_goals omega
def eWr(x y:Tm):ltOf vS x y=true↔uj x y:=by unfold ltOf;rw[uud];exact Xc x y
def D5(x y:Tm):ltOf vS x y=false↔¬uj x y:=by unfold ltOf;rw[yy7,Xc]
def aFg:SWO (ltOf vS) where
 irrefl x:=by rw[D5];unfold uj;omega
 trans x y z h1 h2:=by rw[eWr]at *;unfold uj at *;omega
 ntrans x y z h1 h2:=by rw[D5]at *;unfold uj at *;omega
def gwv(x y:Tm)(h1:ltOf vS x y=false)(h2:ltOf vS y x=false):x=y:=by
 rw[D5]at *
 obtain⟨a,b⟩:=x;obtain⟨c,d⟩:=y;unfold uj at *
 simp only at *
 simp only[Tm.mk.injEq];omega
def Aw(xs:List Tm):List Tm:=xs.mergeSort λx y=>!(ltOf vS) y x
def aw3(xs:List Tm):(Aw xs).Perm xs:=List.mergeSort_perm _ _
def f_5(xs:List Tm):(Aw xs).Pairwise λx y=>¬uj y x:=by
 have h:=List.pairwise_mergeSort (le:=λx y=>!(ltOf vS) y x) (λa b c h1 h2=>by
  simp only[ttc]at *;exact aFg.ntrans c b a h2 h1) (λa b=>by
  by_cases h:uj b a
  ·have:¬uj a b:=by unfold uj at *;omega
   simp[(D5 a b).2 this]
  simp[(D5 b a).2 h]) xs
 refine h.imp λ{x y} Wq=>?_;rw[ttc]at Wq
 exact (D5 y x).1 Wq
def WN{K:Ω->Α->Prop}{w:Α}{a:Int}(h:K (.bool false) w):aF 305 [.int .i64 a] w K:=by
 apply h_e;unfold Rx;refine Eh ?_;simpa using h
def WM{K:Ω->Α->Prop}{w:Α}{a:Int}(h:K (.bool false) w):aF 304 [.int .i64 a] w K:=by
 apply aF7;unfold JE;refine Eh ?_;simpa using h
def bFo{K:Ω->Α->Prop}{w:Α}{a b:Int}(h:K (.int .i64 (wS a b)) w):aF 247 [.int .i64 a,.int .i64 b] w K:=by
 apply gW5;delta PO aI ai;unfold wS at h;refine WN (WN (zp (zp (Gx (za (λh1=>?_) (λh1=>ML (za (λh2=>?_) (λh2=>?_))))))))
 ·rwa [zzc h1]at h
 ·rwa [zzb h1,zzc h2]at h
 rwa [zzb h1,zzb h2]at h
def bFm{K:Ω->Α->Prop}{w:Α}{a b:Int}(h:K (.int .i64 (wS a b)) w):aF 246 [.int .i64 a,.int .i64 b] w K:=by
 apply aF5;delta JB aI ai;unfold wS at h;refine WM (WM (zp (zp (Gx (za (λh1=>?_) (λh1=>ML (za (λh2=>?_) (λh2=>?_))))))))
 ·rwa [zzc h1]at h
 ·rwa [zzb h1,zzc h2]at h
 rwa [zzb h1,zzb h2]at h
def fFf{K:Ω->Α->Prop}{W w:Α}{l:Ψ}{b:Nat}{c d:Int}{t:Ε}(hS:SL W (.pt b [.int .i64 c,.int .i64 d] t::l) w)(h:K (.int .i64 (if c≠0 then c else d)) w):aF 245 [.slice (some ⟨b,0,none⟩) 2 2] w K:=by
 apply gW4;delta PN aI ai;refine yc ?_;refine⟨λus w'=>∃k:Nat,us=[.int .i64 k]/\k<=2/\w'=w/\(1<=k->c=0)/\(2<=k->d=0),λus _=>match us with|[.int _ k]=>(2-k).toNat|_=>0,⟨0,rfl,by omega,rfl,by omega,by omega⟩,?_⟩;rintro v8 w' ⟨k,hv,hk,rfl,h1,h2⟩;cases hv;refine Gx ?_;refine za (λiw=>?_) (λiw=>?_)
 ·have kU:k=0\/k=1:=by omega
  rcases kU with rfl|rfl
  ·refine zF (by decide) (zV hS .hd (v:=.int .i64 c) rfl (Eh (za (λhc=>?_) (λhc=>?_))))
   ·rwa [zzc hc]at h
   refine QJ (by decide) ⟨⟨1,rfl,by omega,rfl,λ_=>by omega,λh=>by omega⟩,by dsimp only;omega⟩
  have hc:=h1 (by omega);refine zF (by decide) (zV hS .hd (v:=.int .i64 d) rfl (Eh (za (λhd=>?_) (λhd=>?_))))
  ·rwa [zzb (by omega)]at h
  refine QJ (by decide) ⟨⟨2,rfl,by omega,rfl,λ_=>hc,λ_=>by omega⟩,by dsimp only;omega⟩
 have hc:=h1 (by omega);have hd:=h2 (by omega);rw[zzb (by omega),hd]at h
 exact h
def gw2(x y:Tm)(W:Α):aF 244 [agg (lx x),agg (lx y)] W λv w=>v= .int .i64 (vS x y)/\Grown W w:=by
 apply gW3;delta PM a_ aR ai;have hS:=SL.none W;have hG:=Grown.refl W;refine⟨_,rfl,UN hS hG ?_⟩;clear hS hG;intro b1 w hS hG;refine⟨_,rfl,UN hS hG ?_⟩;clear hS hG;intro b2 w hS hG;refine cWd hS hG ?_;clear hS hG;intro w hS hG;refine Gp ?_;refine bFm ?_;refine Gp ?_;refine bFo ?_;refine cWc hS hG (cells:=[.int .i64 (wS x.when y.when),.int .i64 (wS x.id y.id)]) (by simp[mq,Value.cells,fR]) ?_;clear hS hG;intro b3 w hS hG;exact fFf hS ⟨rfl,hG⟩
def f_6(v:Ω)(xs:List Tm)(hl:xs.length<=1000000):SP 243 [v,.func (.func 244) #[] #[]] [.ob (bR v 361 2 xs.length (xs.map lx).flatten)]
  (e_ (.tuple #[]) [.ob (bR v 361 2 (Aw xs).length ((Aw xs).map lx).flatten)]):=by
 intro W F w hS;try simp only[app]at hS
 rcases bR.open hS with ⟨⟨a,rfl⟩,Lf,Cb,hS⟩|⟨b,cap,rest,rfl,tW,hlen,nY,hS⟩
 ·obtain rfl:xs=[]:=zzo Lf;refine Calls.mono (AnyF.slices_SortFunc_none aw2 a 0 _ w) ?_;rintro e w' ⟨rfl,rfl⟩;have e:Aw []=[]:=by simp[Aw]
  rw[e];exact⟨_,rfl,_,⟨rfl,rfl⟩,hS⟩
 have sq:=UJ wX xs;have kV:(flatK lx 2 xs.toArray).size=(xs.map lx).flatten.length:=by rw[<- sq];simp
 have hH:HoldsK lx 2 w b 0 xs.toArray:=λj hj=>by
  have K5:j<(xs.map lx).flatten.length:=by rw[<- kV];exact hj
  have e1:(flatK lx 2 xs.toArray)[j]! = (xs.map lx).flatten[j]:=by
   rw[wwt (flatK lx 2 xs.toArray) j hj];have:(flatK lx 2 xs.toArray).toList[j]?=(xs.map lx).flatten[j]?:=by rw[sq]
   rw[Array.getElem?_toList,ww3 hj,zzd K5]at this
   exact xx2 this
  have hc:((xs.map lx).flatten++rest)[0+j]?=some (xs.map lx).flatten[j]:=by rw[yyd,zzr K5,zzd K5]
  rw[e1];exact⟨hS.cell .hd hc,hS.frozen .hd hc⟩
 have hb:b<w.heap.size:=by
  obtain⟨f,_,e⟩:=hS.tM .hd;exact (xxh.1 e).1
 have hK:=AnyQ.slices_SortFunc_total aw2 2 (λw=>by kernel_rfl) (λw=>by kernel_rfl) lx wX E_ vS aFg 244 #[] b 0 cap xs.toArray w
  (ttk Tryz.func244 (by kernel_rfl) rfl) (λm os dk _ x y=>by
   refine Calls.mono (gw2 x y (sortWorldK lx 2 w b 0 m dk os)) ?_;rintro e w' ⟨v,rfl,rfl,q,os',hw⟩;exact⟨rfl,q,os',hw⟩) hH hb (by simp;omega) gwv
 refine Calls.mono hK ?_;rintro e w' ⟨rfl,n,os,rfl⟩;refine⟨_,rfl,_,⟨rfl,rfl⟩,?_⟩;have FO:=aw3 xs;have K1:=UJ wX (Aw xs);have dWy:(xs.map lx).flatten.length=(flatK lx 2 (Aw xs).toArray).size:=by
  rw[tR wX,size_flatK,List.size_toArray,FO.length_eq]
 have h2:=SL.grow (os:=os) (SL.putRow (n:=n) hS dWy);rw[K1]at h2
 rw[FO.length_eq];exact bR.mk tW (by rw[tR wX,FO.length_eq]) nY h2
set_option maxRecDepth 100000
open Go.RowKit
instance:DecidableRel uj:=λa b=>inferInstanceAs (Decidable (a.when<b.when\/(a.when=b.when/\a.id<b.id)))
abbrev ids(L:List Tm):Γ:=L.map λt=>Value.int .i64 t.id
def eFa{L:List Tm}(hn:(L.map (·.id)).Nodup){a b:Tm}(ha:a∈L)(hb:b∈L)(h:a.id=b.id):a=b:=by
 induction L with
 | nil=>cases ha
 | cons x L ih=>
  rw[zzn,wws]at hn
  rcases zz7.1 ha with rfl|x'<;>rcases zz7.1 hb with rfl|sf
  ·rfl
  ·exact absurd (zzy.2 ⟨b,sf,h.symm⟩) hn.1
  ·exact absurd (zzy.2 ⟨a,x',h⟩) hn.1
  exact ih hn.2 x' sf
def Q5(wp:Nat)(L:List Tm)(now x:Int)(hn:L.length<=1000000)(hd:(L.map (·.id)).Nodup):SP 180 [.pointer (some ⟨wp,0,none⟩),.int .i64 x] [.ob (mJ wp L now)]
  (λv post=>∃D:List Tm,D.Perm (oQ (max now (vT x)) L)/\(D.Pairwise λx y=>¬uj y x)/\post=[.ob (mJ wp (L.filter λt=>!decide (t.when<=max now (vT x))) (max now (vT x))),.ob (bR v 3 1 D.length (ids D))]):=by
 refine Enzz λW F w hS=>?_;apply gRf;delta ON aI a_ ia aR b_ ai bI;obtain⟨xs,hx,hS⟩:=mJ.iff.1 hS;refine Gn λw hS=>?_;refine zV hS Xh (GJ hx.len) ?_;refine Cg (Yw x) λw hS=>?_;refine zV hS Xh (GJ hx.len) ?_;refine Gp ?_;generalize max now (vT x)=n2 at *
 refine Zz hS Xu (GJ hx.len) rfl ?_;clear hS;intro w hS;rw[ice hx.len]at hS
 have sq:(xs.flatMap (·.2)).length<=1000000:=by rw[hx.perm.length_eq];exact hn
 refine Cc (bWc wp xs n2 hx.len sq) ?_;clear hS;rintro dv post rfl w hS;try simp only[app]at hS
 have tZ:(oQ n2 (xs.flatMap (·.2))).length<=1000000:=yyw (yyp _ _) sq;have Vt:(oQ n2 (xs.flatMap (·.2))).Perm (oQ n2 L):=hx.perm.filter _;refine Cg (f_6 dv _ tZ) λw hS=>?_;have uU:=aw3 (oQ n2 (xs.flatMap (·.2)));have DU:=f_5 (oQ n2 (xs.flatMap (·.2)));have KE:=uU.trans Vt;have HA:=uU.length_eq;generalize Aw (oQ n2 (xs.flatMap (·.2)))=D at *
 rw[<- HA]at tZ
 clear uU Vt;refine zt hS (t:=361) (sz:=2) (n:=D.length) (cells:=(D.map lx).flatten) Xh ?_;have hS:=mJ.iff.2 ⟨xs,hx,SL.cR hS (t:=.pt wp (nS xs n2) 173::.ob (zg rE xs)::.ob (bR dv 361 2 D.length ((D.map lx).flatten))::F) Xi⟩;clear hx;have e0:L.filter (λt=>decide (t∉D.take 0))=L:=by simp
 refine⟨λus w=>∃(k:Nat) (o:Ω),us=[o,.int .i64 k]/\k<=D.length/\SL W (.ob (bR o 3 1 k (ids (D.take k)))::.ob (mJ wp (L.filter λt=>decide (t∉D.take k)) n2)::.ob (bR dv 361 2 D.length ((D.map lx).flatten))::F) w,
  λus _=>match us with|[_,.int _ k]=>(D.length-k).toNat|_=>0,⟨0,_,rfl,by omega,by rw[e0];exact bR.nil hS⟩,?_⟩
 clear hS e0;rintro v6 v25 w ⟨k,o,gW,hk,hS⟩;cases gW;refine cF (λh=>?_) (λh=>?_)
 ·have pQ:k<D.length:=by omega
  refine zU hS (t:=361) Xh wX (x:=D[k]) (by simp[pQ]) pQ ?_;refine zD hS ?_;clear hS;intro b w hS;refine zr (vs:=lx D[k]) hS .hd rfl rfl (E_ _) ?_;clear hS;intro w hS;refine Gp ?_;have K1:(L.filter λt=>decide (t∉D.take k)).length<=1000000:=yyw (yyp _ _) hn;refine Cg (bRr wp _ n2 D[k].id K1) λw hS=>?_;refine Gm λb w hS=>?_;have pB:uX (L.filter λt=>decide (t∉D.take k)) D[k].id=L.filter λt=>decide (t∉D.take (k+1)):=by
   unfold uX;rw[List.filter_filter];refine uum λt ht=>?_;have hDm:D[k]∈L:=(xx3.1 (KE.subset (zzg pQ))).1;have Cn:t∈D.take (k+1)↔t∈D.take k\/t=D[k]:=by rw[zze pQ,zz0,zz3]
   have HX:t.id=D[k].id↔t=D[k]:=⟨λe=>eFa hd ht hDm e,λe=>by rw[e]⟩;rw[uuv];simp only[zz9,zzx,ne_eq];rw[Cn,HX,not_or];first|exact And.comm|exact Iff.rfl
  rw[pB]at hS
  refine zI (n:=k) (m:=1) hS Xr (oG (cs:=[.int .i64 D[k].id]) hS .hd rfl) rfl rfl (by simp[Value.oneCell']) (by omega) (by omega) ?_;clear hS;intro o2 w hS;refine Gp ?_;have ht:ids (D.take k)++[.int .i64 D[k].id]=ids (D.take (k+1)):=by
   unfold ids;rw[zze pQ,zzt];rfl
  rw[ht]at hS
  exact⟨⟨k+1,o2,by simp,by omega,aW hS⟩,by dsimp only;omega⟩
 have Ad:k=D.length:=by omega
 subst Ad;rw[zz1]at hS
 have e:L.filter (λt=>decide (t∉D))=L.filter λt=>!decide (t.when<=n2):=by
  refine uum λt ht=>?_;have:t∈D↔t.when<=n2:=by
   rw[KE.mem_iff];unfold oQ;rw[xx3];simp[ht]
  by_cases hw:t.when<=n2
  ·simp[this,hw]
  have h3:t∉D:=λhm=>hw (this.1 hm);simp only[h3,not_false_eq_true,tth,hw,ww6,Bool.not_false]
 rw[e]at hS
 exact⟨_,⟨D,KE,DU,rfl⟩,aW hS⟩
def o9(p:wQ)(c:jD)(H:bw)(s:km):zB:=nT λh:Ω × Ω × Ω=>zG (ma H ⟨s.held.aw,h.1,h.2.1⟩ s.held/\nh H h.2.2 s.k.reqs)
 [.pt p.wp (um p.kp p.qp p.rp c.fW s.held.aw h.1 h.2.1 s.n) 216,.pt p.kp (uW p.gp p.dp p.lp p.pp s.k.aw h.2.2) 90,.ob (lF p.gp s.k.ts),.ob (ir p.lp p.dp s.k.g),.ob (mo p.pp s.k.plan),.ob (Gate p.qp p.qb c.cap s.out (s.L.map mP)),o8 p.rp c.b c.m c.j s.ll s.kB]
section
variable {W w:Α} {l F:Ψ} {p:wQ} {c:jD} {H:bw} {s:km}
def iE.take(hS:SL W l w)(r:lg (.ob (iE p c H s)) l F):SL W (.ob (cw p.dp s.k.d)::.ob (o9 p c H s)::F) w:=by
 obtain⟨ov,nv,hi,hS⟩:=iE.open hS r;obtain⟨rv,hr,hS⟩:=iu.open hS Xr;have h2:SL W (.ob (o9 p c H s)::.ob (cw p.dp s.k.d)::F) w:=by
  unfold o9;simp only[SL.ex,SL.fact,zzu,zzp];exact⟨(ov,nv,rv),⟨hi,hr⟩,aW hS⟩
 exact h2.perm (.swap _ _ _)
def o9.open(hS:SL W l w)(r:lg (.ob (o9 p c H s)) l F):∃ov nv rv,ma H ⟨s.held.aw,ov,nv⟩ s.held/\nh H rv s.k.reqs/\SL W (.pt p.wp (um p.kp p.qp p.rp c.fW s.held.aw ov nv s.n) 216::.pt p.kp (uW p.gp p.dp p.lp p.pp s.k.aw rv) 90::.ob (lF p.gp s.k.ts)::.ob (ir p.lp p.dp s.k.g)::.ob (mo p.pp s.k.plan)::.ob (Gate p.qp p.qb c.cap s.out (s.L.map mP))::o8 p.rp c.b c.m c.j s.ll s.kB::F) w:=by
 have h:=hS.perm r.perm;unfold o9 at h;simp only[SL.ex,SL.fact,zzu,zzp]at h;obtain⟨⟨ov,nv,rv⟩,⟨hi,hr⟩,h⟩:=h;exact⟨ov,nv,rv,hi,hr,h⟩
def iE.B2(s:km)(d:DS)(hS:SL W l w)(k:lJ [.ob (cw p.dp d),.ob (o9 p c H s)] l F):SL W (.ob (iE p c H {s with k:={s.k with d:=d}})::F) w:=by
 have hS:SL W (.ob (cw p.dp d)::.ob (o9 p c H s)::F) w:=hS.pick k;obtain⟨ov,nv,rv,hi,hr,hS⟩:=o9.open hS Xr;have hS:=iu.jT (g:=s.k.g) (d:=d) (ts:=s.k.ts) (plan:=s.k.plan) (aw:=s.k.aw) (reqs:=s.k.reqs) hS hr Xp;exact iE.jT (k:={s.k with d:=d}) (L:=s.L) (held:=s.held) (n:=s.n) hS hi Xp
end
structure nz where
 np:Nat
 w:wQ
 sp:Nat
 tp:Nat
 sl:Nat
 rb:Nat
 mp:Nat
 wi:Nat
 sn:Nat
 dg:Nat
 bp:Nat
 ck:Nat
abbrev Aq(p:nz)(cf:jI)(pos:Int)(dv:Ω):Γ:=[mV p.w.kp,fw p.sp,fw p.rb,.int .i64 pos,fw p.mp,fw p.sn,fw p.w.qp,fw p.w.rp,fw p.w.wp,fw p.bp,dv,.int .i64 cf.tables,.int .i64 cf.late,.int .i64 cf.size,.int .i64 cf.queue,.int .i64 cf.chunk,.int .i64 cf.batch,.int .i64 cf.base,.int .i64 cf.fW,.int .i64 cf.wy,.int .i64 cf.every,fw p.w.dp,fw p.ck]
def pk(t:fF):Β:=ji (lB t)
def BR(n:Int):Γ:=[.int .i64 n]
abbrev AD(v:Ω)(l:Ξ):Η:=.ob (iB v 2 1 l.length (l.map BR).flatten)
abbrev Nn(p:nz)(cf:jI)(kc:jD)(H:bw)(c:dF)(dv:Ω):Ψ:=[.pt p.np (Aq p cf c.pos dv) 84,AD dv c.iG,.ob (iE p.w kc H c.s),.ob (iz p.sp p.tp p.w.dp p.sl c.k),.ob (ie p.mp p.wi H c.m),.pt p.sn (nR p.sp p.mp p.wi p.dg cf.chunk) 208,.ob (kC p.dg c.dr),.ob (Ring p.rb kc.cap (c.q.map pk)),.ob (mJ p.ck [] c.now),om p.bp cf.every c.due c.last]
def fI(p:nz)(cf:jI)(kc:jD)(H:bw)(c:dF):zB:=nT λdv:Ω=>zG True (Nn p cf kc H c dv)
section
variable {W w:Α} {l F:Ψ} {p:nz} {cf:jI} {kc:jD} {H:bw} {c:dF}
def fI.iff:SL W (.ob (fI p cf kc H c)::l) w↔∃dv,SL W (.pt p.np (Aq p cf c.pos dv) 84::AD dv c.iG::.ob (iE p.w kc H c.s)::.ob (iz p.sp p.tp p.w.dp p.sl c.k)::.ob (ie p.mp p.wi H c.m)::.pt p.sn (nR p.sp p.mp p.wi p.dg cf.chunk) 208::.ob (kC p.dg c.dr)::.ob (Ring p.rb kc.cap (c.q.map pk))::.ob (mJ p.ck [] c.now)::om p.bp cf.every c.due c.last::l) w:=by
 unfold fI;simp only[SL.ex,SL.fact,zzu,zzp,uus]
def fI.open(hS:SL W l w)(r:lg (.ob (fI p cf kc H c)) l F):∃dv,SL W (.pt p.np (Aq p cf c.pos dv) 84::AD dv c.iG::.ob (iE p.w kc H c.s)::.ob (iz p.sp p.tp p.w.dp p.sl c.k)::.ob (ie p.mp p.wi H c.m)::.pt p.sn (nR p.sp p.mp p.wi p.dg cf.chunk) 208::.ob (kC p.dg c.dr)::.ob (Ring p.rb kc.cap (c.q.map pk))::.ob (mJ p.ck [] c.now)::om p.bp cf.every c.due c.last::F) w:=fI.iff.1 (hS.perm r.perm)
def fI.put(c:dF){dv:Ω}(hS:SL W l w)(k:lJ (Nn p cf kc H c dv) l F):SL W (.ob (fI p cf kc H c)::F) w:=fI.iff.2 ⟨dv,hS.pick k⟩
def fI.jT{s:km}{k:g_}{m:iK}{dr:iI}{q:List fF}{pos due last:Int}{iG:Ξ}{now:Int}{dv:Ω}(hS:SL W l w)(r:lJ [.pt p.np (Aq p cf pos dv) 84,AD dv iG,.ob (iE p.w kc H s),.ob (iz p.sp p.tp p.w.dp p.sl k),.ob (ie p.mp p.wi H m),.pt p.sn (nR p.sp p.mp p.wi p.dg cf.chunk) 208,.ob (kC p.dg dr),.ob (Ring p.rb kc.cap (q.map pk)),.ob (mJ p.ck [] now),om p.bp cf.every due last] l F):SL W (.ob (fI p cf kc H ⟨s,k,m,dr,q,pos,due,last,iG,now⟩)::F) w:=fI.iff.2 ⟨dv,hS.pick r⟩
def fI.mono{H':bw}(hh:H.le H')(h:SL W (.ob (fI p cf kc H c)::l) w):SL W (.ob (fI p cf kc H' c)::l) w:=by
 obtain⟨dv,hS⟩:=fI.iff.1 h;have hS:=iE.nZ hh hS Xr;have hS:=ie.nZ hh hS Xr;exact fI.put c hS Xp
end
section
variable (p:nz) (cf:jI) (kc:jD) (H:bw) (c:dF)
def Qj(n:Int)(hn:0<=c.now/\c.now<=1125899906842624):SP 118 [fw p.np,.int .i64 n] [.ob (fI p cf kc H c)] (e_ (.int .i64 (c.tick n).2) [.ob (fI p cf kc H (c.tick n).1)]):=by
 refine Enzz λW F w hS=>?_;apply gFx;delta NT aI bW aR b_ ai;unfold dF.tick;refine cF (λh=>?_) (λh1=>?_)
 ·rw[zzc (.inl h)];(exact dW hS)
 refine cF (λh=>?_) (λh2=>?_)
 ·rw[zzc (.inr (by omega))];(exact dW hS)
 rw[zzb (by omega)];obtain⟨dv,hS⟩:=fI.open hS Xr;refine Gp ?_;refine Cg (z8 p.ck [] c.now) λw hS=>?_;refine za (λh=>?_) (λh3=>?_)
 ·rw[zzc (by omega)];have hS:=fI.put c hS Xp;(exact dW hS)
 rw[zzb (by omega)];refine Gn λw hS=>?_;refine Cg (z8 p.ck [] c.now) λw hS=>?_;refine Cc (Q5 p.ck [] c.now (c.now+n) (by simp) (by simp)) ?_;clear hS;rintro v post ⟨D,_,_,rfl⟩ w hS;try simp only[app]at hS
 have e:max c.now (vT (c.now+n))=c.now+n:=by unfold vT;omega
 rw[e,List.filter_nil]at hS
 have hS:=fI.jT (s:=c.s) (k:=c.k) (m:=c.m) (dr:=c.dr) (q:=c.q) (pos:=c.pos) (due:=c.due) (last:=c.last) (iG:=c.iG) hS Xp;(exact dW hS)
def bw2(x:Int):SP 121 [fw p.np,.int .i64 x] [.ob (fI p cf kc H c)] (e_ (.int .i64 (c.Da x).2) [.ob (fI p cf kc H (c.Da x).1)]):=by
 refine Enzz λW F w hS=>?_;apply gF0;delta NW aI bW ai;unfold dF.Da;refine cF (λh=>?_) (λh1=>?_)
 ·rw[zzc (.inl h)];(exact dW hS)
 refine cF (λh=>?_) (λh2=>?_)
 ·rw[zzc (.inr (by omega))];(exact dW hS)
 rw[zzb (by omega)];obtain⟨dv,hS⟩:=fI.open hS Xr;have hS:=iE.take hS Xr;refine Gp ?_;refine Cg (bwe p.w.dp c.s.k.d x) λw hS=>?_;have hS:=iE.B2 c.s (c.s.k.d.vg x) hS Xp;have hS:=fI.jT (p:=p) (cf:=cf) (s:={c.s with k:={c.s.k with d:=c.s.k.d.vg x}}) (k:=c.k) (m:=c.m) (dr:=c.dr) (q:=c.q) (pos:=c.pos) (due:=c.due) (last:=c.last) (iG:=c.iG) (now:=c.now) hS Xp;(exact dW hS)
def qY(x:Int)(hd:c.iG.length<=1024):SP 119 [fw p.np,.int .i64 x] [.ob (fI p cf kc H c)] (e_ (.int .i64 (c.drawn x).2) [.ob (fI p cf kc H (c.drawn x).1)]):=by
 refine Enzz λW F w hS=>?_;apply gFy;delta NU aI a_ b_ ai;unfold dF.drawn;refine cF (λh=>?_) (λh1=>?_)
 ·rw[zzc (.inl h)];(exact dW hS)
 refine cF (λh=>?_) (λh2=>?_)
 ·rw[zzc (.inr (by omega))];(exact dW hS)
 rw[zzb (by omega)];obtain⟨dv,hS⟩:=fI.open hS Xr;refine Gp ?_;refine zN hS (v:=dv) Xh ?_;refine cF (λh=>?_) (λh3=>?_)
 ·rw[zzc (by omega)];have hS:=fI.put c hS Xp;(exact dW hS)
 rw[zzb (by omega)];refine Gm λb w hS=>?_;refine qG (t:=2) (n:=c.iG.length) (xs:=c.iG) (y:=x) (enc:=BR) hS Xr Xh (λ_=>rfl) (by simp[BR,Value.oneCell']) rfl rfl (by omega) (by omega) ?_;clear hS;intro nv w hS;have h1:=iB.one hS .hd;refine Gn λw hS=>?_;have hS:SL W (.pt p.np (Aq p cf c.pos nv) 84::.ob (iB nv 2 1 (c.iG.length+1) ((c.iG++[x]).map BR).flatten)::.ob (iE p.w kc H c.s)::.ob (iz p.sp p.tp p.w.dp p.sl c.k)::.ob (ie p.mp p.wi H c.m)::.pt p.sn (nR p.sp p.mp p.wi p.dg cf.chunk) 208::.ob (kC p.dg c.dr)::.ob (Ring p.rb kc.cap (c.q.map pk))::.ob (mJ p.ck [] c.now)::om p.bp cf.every c.due c.last::F) w:=aW hS;rw[show c.iG.length+1=(c.iG++[x]).length by simp]at hS
 have hS:=fI.jT (p:=p) (cf:=cf) (s:=c.s) (k:=c.k) (m:=c.m) (dr:=c.dr) (q:=c.q) (pos:=c.pos) (due:=c.due) (last:=c.last) (iG:=c.iG++[x]) (now:=c.now) hS Xp;(exact dW hS)
end
section
variable (p:nz) (cf:jI) (kc:jD) (H:bw) (c:dF)
def Ys(v:mA)(t:eF)(hv:ma H v t)(hm:jE t=true)(hr:c.s.L.length+c.s.out<kc.cap):SP 168 [fw p.np,agg (jP v)] [.ob (fI p cf kc H c),.mem H] (e_ (.int .i64 0) [.ob (fI p cf kc H (c.put t)),.mem H]):=by
 refine Enzz λW F w hS=>?_;apply gI3;delta OB aI a_ b_ ai;refine zw hS λxb w hS=>?_;refine Gp ?_;refine Cc (YH H v t hv) ?_;clear hS;rintro r post hq w hS;unfold EA at hq;rw[TC hm]at hq
 obtain⟨bv,rfl,rfl⟩:=hq;try simp only[app]at hS
 obtain⟨dv,hS⟩:=fI.open hS Xr;obtain⟨ov,nv,hi,hS⟩:=iE.open hS Xr;refine Gp ?_;refine za (λ_=>?_) (λh=>absurd rfl h);refine Gn λw hS=>?_;obtain⟨a,ca,hb,_⟩:=bR.at hS (v:=bv) (t:=5) (sz:=1) (n:=(lu t).length) (cells:=(lu t).map ic) Xh;have mr:=sC hS (v:=bv) (t:=5) (sz:=1) Xh;refine Zc ⟨_,_,_,hb⟩ mr xxm yy1 wwj ?_;refine Cg (cW2 p.w.qp p.w.qb kc.cap c.s.out (c.s.L.map mP) (mP t) (by rw[zzs];exact hr)) λw hS=>?_;rw[show c.s.L.map mP++[mP t]=(c.s.L++[t]).map mP by simp]at hS
 have hS:=iE.jT (p:=p.w) (c:=kc) (H:=H) (k:=c.s.k) (L:=c.s.L++[t]) (out:=c.s.out) (ll:=c.s.ll) (kB:=c.s.kB) (held:=c.s.held) (n:=c.s.n) hS hi Xp;have hS:=fI.jT (p:=p) (cf:=cf) (k:=c.k) (m:=c.m) (dr:=c.dr) (q:=c.q) (pos:=c.pos) (due:=c.due) (last:=c.last) (iG:=c.iG) (now:=c.now) hS Xp;have hS:SL W (.ob (fI p cf kc H (c.put t))::_) w:=hS;(exact dW hS)
def bFd(hq:c.q=[]):SP 62 [fw p.np] [.ob (fI p cf kc H c)] (e_ (.tuple #[agg (kJ GK),.bool false]) [.ob (fI p cf kc H c)]):=by
 refine Enzz λW F w hS=>?_;apply aIa;delta JI a_ b_ gi ai bI;refine Gb λzb w hS=>?_;obtain⟨dv,hS⟩:=fI.open hS Xr;rw[hq,yy4]at hS
 refine Gp ?_;refine Cg (X_ p.rb kc.cap) λw hS=>?_;refine zu (λ_=>?_) (λh=>by cases h);refine Gn λw hS=>?_;rw[show ([]:Θ)=c.q.map pk by rw[hq];rfl]at hS
 have hS:=fI.put c hS Xp;(exact dW hS)
def TH(t:fF)(q:List fF)(hq:c.q=t::q)(hm:jC t=true):SP 62 [fw p.np] [.ob (fI p cf kc H c),.mem H] (λv post=>∃x H',H.le H'/\rH H' x t/\v= .tuple #[agg (kJ x),.bool true]/\post=[.ob (fI p cf kc H' c),.mem H']):=by
 refine Enzz λW F w hS=>?_;apply aIa;delta JI a_ b_ gi ai bI;refine Gb λzb w hS=>?_;obtain⟨dv,hS⟩:=fI.open hS Xr;rw[hq,zzn]at hS
 refine Gp ?_;refine Cg (Y' p.rb kc.cap (pk t) (q.map pk)) λw hS=>?_;refine zu (λh=>by cases h) (λ_=>?_);rw[show pk t::q.map pk=c.q.map pk by rw[hq];rfl]at hS
 have hS:=fI.put c hS Xp;refine Ye (bs:=lB t) hS yy1 xxm wwj λbv w hS=>?_;refine Cc (Z5 (.ob (bR bv 5 1 (lB t).length ((lB t).map ic))) H bv (lB t) iV.own) ?_;clear hS;rintro r post hd w hS;unfold Br at hd;rw[TD hm]at hd
 obtain⟨x,H',hh,rfl,hx,rfl⟩:=hd;try simp only[app]at hS
 have h1:∀v∈kJ x,v.oneCell'=true:=Dn (aw:=x.aw) (kind:=x.kind) (mark:=x.mark) hx.cv.one hx.sv.one;refine Gm λb w hS=>?_;refine zr (vs:=kJ x) hS Xu rfl rfl h1 λw hS=>?_;refine zC hS Xh rfl ?_;refine Gp ?_;refine zr (vs:=kJ x) hS Xu rfl rfl h1 λw hS=>?_;refine zC hS Xh rfl ?_;have hS:=fI.mono hh (SL.cR hS (t:=.ob (fI p cf kc H c)::.mem H'::F) Xi);exact⟨_,⟨x,H',hh,hx,rfl,rfl⟩,aW hS⟩
end
def rH.IG{H:bw}{x:s9}{t:fF}(hx:rH H x t):∀v∈kJ x,v.oneCell'=true:=Dn (aw:=x.aw) (kind:=x.kind) (mark:=x.mark) hx.cv.one hx.sv.one
def Ez(p:nz)(cf:jI)(kc:jD)(H:bw)(y:dF × uv)(v:Ω)(post:Ψ):Prop:=v= .tuple #[.int .i64 y.2.l6,.int .i64 y.2.err]/\∃H',H.le H'/\post=[.ob (fI p cf kc H' y.1),.mem H']
section
variable (p:nz) (cf:jI) (kc:jD) (H:bw) (c:dF)
def q8(t:fF)(hr:c.k.mF (c.pos+1)= .ok t)(hm:jC t=true)(hq:c.q.length<kc.cap)(hp:0<=c.pos/\c.pos<=1099511627776){N:Nat}(hg:mH c.k.g N)(hN:N<=1000000000):SP 112 [fw p.np] [.ob (fI p cf kc H c),.mem H] (Ez p cf kc H ({c with q:=c.q++[t],pos:=c.pos+1},⟨0,0,1⟩)):=by
 refine Enzz λW F w hS=>?_;apply gFr;delta NN aI a_ aR b_ ai bI;refine⟨λus w=>∃(b:Nat) (x:s9) (H':bw),us=[fw b,.int .i64 0]/\H.le H'/\rH H' x t/\SL W (.pt b (kJ x) 101::.ob (fI p cf kc H' c)::.mem H'::F) w,?_,?_⟩
 ·obtain⟨dv,hS⟩:=fI.open hS Xr;refine Gn λw hS=>?_;refine⟨?_,?_⟩
  ·refine Cc (Zd p.sp p.tp p.w.dp p.sl c.k hg hN H (c.pos+1) (by omega)) ?_;clear hS;rintro r post hq w hS;unfold Bx at hq;rw[hr]at hq
   obtain⟨x,H',hh,rfl,hx,rfl⟩:=hq;refine Gm λb w hS=>?_;refine zr (vs:=kJ x) hS Xu rfl rfl (hx.IG) λw hS=>?_;have hS:=fI.mono hh (fI.put c hS Xp);exact⟨_,x,H',rfl,hh,hx,aW hS⟩
  refine Gm λb w hS=>?_;refine Cc (Zd p.sp p.tp p.w.dp p.sl c.k hg hN H (c.pos+1) (by omega)) ?_;clear hS;rintro r post hq w hS;unfold Bx at hq;rw[hr]at hq
  obtain⟨x,H',hh,rfl,hx,rfl⟩:=hq;(try simp only[app]at hS);refine Gp ?_
  refine zr (vs:=kJ x) hS Xu rfl rfl (hx.IG) λw hS=>?_;have hS:=fI.mono hh (fI.put c hS Xp);exact⟨_,x,H',rfl,hh,hx,aW hS⟩
 clear hS;rintro v1 v2 w ⟨b,x,H',gW,hh,hx,hS⟩;cases gW;refine Gp ?_;refine za (λh=>absurd rfl h) (λ_=>?_);refine zC hS Xh rfl ?_;refine Cc (Z6 H' x t hx) ?_;clear hS;rintro r post oB w hS;unfold EB at oB;rw[TF hm]at oB
 obtain⟨bv,rfl,rfl⟩:=oB;try simp only[app]at hS
 obtain⟨dv,hS⟩:=fI.open hS Xr;refine Gp ?_;refine za (λh=>absurd rfl h) (λ_=>?_);refine Gn λw hS=>?_;obtain⟨a,ca,hb,_⟩:=bR.at hS (v:=bv) (t:=5) (sz:=1) (n:=(sP t).length) (cells:=(sP t).map ic) Xh;have mr:=sC hS (v:=bv) (t:=5) (sz:=1) Xh;refine Zc ⟨_,_,_,hb⟩ mr xxm yy1 wwj ?_;refine Cc (YI p.rb kc.cap (c.q.map pk) (ji (sP t))) ?_;clear hS;rintro v post ⟨rfl,rfl⟩ w hS;try simp only[app]at hS
 rw[zzc (by rw[zzs];exact hq),show c.q.map pk++[ji (sP t)]=(c.q++[t]).map pk by simp[pk,lB]]at hS
 refine Gn λw hS=>?_;have hS:=fI.jT (p:=p) (cf:=cf) (kc:=kc) (H:=H') (s:=c.s) (k:=c.k) (m:=c.m) (dr:=c.dr) (q:=c.q++[t]) (pos:=c.pos+1) (due:=c.due) (last:=c.last) (iG:=c.iG) (now:=c.now) hS Xp;exact⟨_,⟨rfl,H',hh,rfl⟩,aW hS⟩
def q9(t:fF)(q:List fF)(m':iK)(x:eF)(hq:c.q=t::q)(hm:jC t=true)(rN:0<c.pw kc)(Af:c.m.take t=(m',(x,0)))(Ag:jE x=true)(wu:c.m.Ok)(hid : -9223372036854775808<=c.m.dI.id/\c.m.dI.id<=9223372036854775807):SP 113 [fw p.np] [.ob (fI p cf kc H c),.mem H] (Ez p cf kc H (({c with q:=q,m:=m'}:dF).Eo x,⟨0,0,2⟩)):=by
 refine Enzz λW F w hS=>?_;apply gFs;delta NO aI a_ aR b_ ai bI;refine Cc (TH p cf kc H c t q hq hm) ?_;clear hS;rintro r post ⟨tx,H1,iA,hx,rfl,rfl⟩ w hS;refine Gm λb w hS=>?_;refine zr (vs:=kJ tx) hS Xu rfl rfl hx.IG λw hS=>?_;obtain⟨dv,hS⟩:=fI.open hS Xr;rw[hq,zzn]at hS
 refine Gp ?_;refine Cg (Z_ p.rb kc.cap (pk t) (q.map pk)) λw hS=>?_;refine⟨λus w=>∃(b:Nat) (y:mA) (H':bw),us=[fw b,.int .i64 0]/\H.le H'/\ma H' y x/\SL W (.pt b (jP y) 214::.ob (fI p cf kc H' {c with q:=q,m:=m'})::.mem H'::F) w,?_,?_⟩
 ·refine Gn λw hS=>?_;refine⟨?_,?_⟩
  ·refine Cc (Z2 p.mp p.wi H1 c.m wu tx t hx hid) ?_;clear hS;rintro r post ⟨y,H2,iW,rfl,hy,rfl⟩ w hS;rw[Af]at hy hS ⊢
   refine Gm λb w hS=>?_;refine zr (vs:=jP y) hS Xu rfl rfl (rK hy) λw hS=>?_;have hS:=iE.nZ iW hS Xr;have hS:=fI.jT (p:=p) (cf:=cf) (kc:=kc) (H:=H2) (s:=c.s) (k:=c.k) (m:=m') (dr:=c.dr) (q:=q) (pos:=c.pos) (due:=c.due) (last:=c.last) (iG:=c.iG) (now:=c.now) hS Xp;exact⟨_,y,H2,rfl,bw.le_trans iA iW,hy,aW hS⟩
  refine Gm λb w hS=>?_;refine Cc (Z2 p.mp p.wi H1 c.m wu tx t hx hid) ?_;clear hS;rintro r post ⟨y,H2,iW,rfl,hy,rfl⟩ w hS;rw[Af]at hy hS ⊢
  (try simp only[app]at hS);refine Gp ?_
  refine zr (vs:=jP y) hS Xu rfl rfl (rK hy) λw hS=>?_;have hS:=iE.nZ iW hS Xr;have hS:=fI.jT (p:=p) (cf:=cf) (kc:=kc) (H:=H2) (s:=c.s) (k:=c.k) (m:=m') (dr:=c.dr) (q:=q) (pos:=c.pos) (due:=c.due) (last:=c.last) (iG:=c.iG) (now:=c.now) hS Xp;exact⟨_,y,H2,rfl,bw.le_trans iA iW,hy,aW hS⟩
 clear hS;rintro v1 v2 w ⟨b,y,H',gW,hh,hy,hS⟩;cases gW;have A4:=(tC.1 Ag).1;refine Gp ?_;refine za (λ_=>?_) (λh=>absurd rfl h);refine Gp ?_;refine zo hy.ops ?_;refine Gp ?_;refine zo hy.mO ?_;refine Gp ?_;unfold dF.Eo;refine za (λh=>?_) (λh=>?_)
 ·rw[zzc (by omega)];refine zC hS Xh rfl ?_;have dF0:c.s.L.length+c.s.out<kc.cap:=by unfold dF.pw at rN;omega
  refine Cc (Ys p cf kc H' {c with q:=q,m:=m'} y x hy Ag dF0) ?_;clear hS;rintro _ post ⟨rfl,rfl⟩ w hS;try simp only[app]at hS
  have hS:SL W (.ob (fI p cf kc H' ⟨{c.s with L:=c.s.L++[x]},c.k,m',c.dr,q,c.pos,c.due,c.last,c.iG,c.now⟩)::_) _:=hS;obtain⟨dv,hS⟩:=fI.open hS Xr;dsimp only at hS;refine Gn λw hS=>?_;refine Cg (Yk p.bp cf.every c.due c.last y.aw) λw hS=>?_;refine za (λh=>absurd rfl h) (λ_=>?_);rw[hy.aw]at hS
  have hS:=fI.jT (p:=p) (cf:=cf) (kc:=kc) (H:=H') (s:={c.s with L:=c.s.L++[x]}) (k:=c.k) (m:=m') (dr:=c.dr) (q:=q) (pos:=c.pos) (due:=c.due) (last:=max c.last x.aw) (iG:=c.iG) (now:=c.now) hS Xp;exact⟨[.ob (fI p cf kc H' ⟨{c.s with L:=c.s.L++[x]},c.k,m',c.dr,q,c.pos,c.due,max c.last x.aw,c.iG,c.now⟩),.mem H'],⟨rfl,H',hh,rfl⟩,aW hS⟩
 rw[zzb (by omega)];refine Gp ?_;refine za (λh=>absurd rfl h) (λ_=>?_);exact⟨_,⟨rfl,H',hh,rfl⟩,aW hS⟩
def qi{gw f N m:Nat}(hI:uw kc gw c.s f)(hf:f<=1000000)(hk:EH c.s.k N m)(hd:c.iG.length<=1024):SP 115 [fw p.np] [.ob (fI p cf kc H c),.mem H] (Ez p cf kc H (c.write kc)):=by
 refine Enzz λW F w hS=>?_;apply gFu;delta NQ aI bW a_ aR b_ ai;refine⟨λus w=>us=[.int .i64 c.draw]/\SL W (.ob (fI p cf kc H c)::.mem H::F) w,?_,?_⟩
 ·obtain⟨dv,hS⟩:=fI.open hS Xr;refine Gp ?_;refine zN hS (v:=dv) Xh ?_;refine cF (λh=>?_) (λh=>?_)
  ·have hx:c.iG[0]?=some c.draw:=by
    unfold dF.draw;cases hc:c.iG with
    | nil=>rw[hc]at h;simp at h
    | cons a l=>rfl
   refine Gp ?_;refine yZ (j:=0) (k:=.i64) hS (v:=dv) Xh (by omega) λab ao hb=>⟨_,.int .i64 c.draw,rfl,hb 0 _ (by decide) (uJ (enc:=BR) (n:=1) (λ_=>rfl) c.iG 0 0 c.draw (.int .i64 c.draw) hx rfl),?_⟩;have hS:=fI.put c hS Xp;exact⟨rfl,aW hS⟩
  have hS:=fI.put c hS Xp;refine⟨?_,aW hS⟩;have:c.iG=[]:=xx9.1 (by omega);unfold dF.draw;rw[this];rfl
 clear hS;rintro v1 w ⟨gW,hS⟩;cases gW;obtain⟨dv,hS⟩:=fI.open hS Xr;refine Gn λw hS=>?_;refine Cg (z8 p.ck [] c.now) λw hS=>?_;refine Cc (icp p.w kc H c.s c.now c.draw hI hf hk) ?_;clear hS;rintro _ post ⟨rfl,H',hh,rfl⟩ w hS;try simp only[app]at hS
 unfold dF.write;generalize c.s.step kc c.now c.draw=y at *
 obtain⟨s',l6,err⟩:=y;dsimp only at hS ⊢;have hS:=ie.nZ hh hS Xr;refine cF (λh=>?_) (λh=>?_)
 ·subst h;refine Gp ?_;refine zN hS (v:=dv) Xh ?_;refine cF (λh=>?_) (λh=>?_)
  ·refine Gp ?_;refine Yc (k:=1) (v:=dv) (Has.front hS Xr) (by omega) λu hS=>?_;rw[show (c.iG.map BR).flatten.drop (1*1)=(c.iG.tail.map BR).flatten by cases c.iG with|nil=>rfl|cons a l=>rfl,show c.iG.length-1=c.iG.tail.length by rw[List.length_tail]]at hS
   have h1:=iB.one hS .hd;refine Gn λw hS=>?_;have hS:=fI.jT (p:=p) (cf:=cf) (kc:=kc) (H:=H') (s:=s') (k:=c.k) (m:=c.m) (dr:=c.dr) (q:=c.q) (pos:=c.pos) (due:=c.due) (last:=c.last) (iG:=c.iG.tail) (now:=c.now) hS Xp;exact⟨[.ob (fI p cf kc H' ⟨s',c.k,c.m,c.dr,c.q,c.pos,c.due,c.last,c.iG.tail,c.now⟩),.mem H'],⟨rfl,H',hh,rfl⟩,aW hS⟩
  have e:c.iG.tail=c.iG:=by rw[xx9.1 (show c.iG.length=0 by omega)];rfl
  rw[zzc rfl,e];have hS:=fI.jT (p:=p) (cf:=cf) (kc:=kc) (H:=H') (s:=s') (k:=c.k) (m:=c.m) (dr:=c.dr) (q:=c.q) (pos:=c.pos) (due:=c.due) (last:=c.last) (iG:=c.iG) (now:=c.now) hS Xp;exact⟨_,⟨rfl,H',hh,rfl⟩,aW hS⟩
 rw[zzb h];have hS:=fI.jT (p:=p) (cf:=cf) (kc:=kc) (H:=H') (s:=s') (k:=c.k) (m:=c.m) (dr:=c.dr) (q:=c.q) (pos:=c.pos) (due:=c.due) (last:=c.last) (iG:=c.iG) (now:=c.now) hS Xp;exact⟨_,⟨rfl,H',hh,rfl⟩,aW hS⟩
def Qi(he:1<=cf.every/\cf.every<=1073741824)(xt:c.due<=c.now/\(c.m.at_<=c.last\/0<c.pw kc))(DR:c.s.L.length+c.s.out<=kc.cap)(hm:¬c.m.at_<=c.last->jE ⟨c.m.at_,[],[]⟩=true):SP 116 [fw p.np] [.ob (fI p cf kc H c),.mem H] (Ez p cf kc H (c.tell cf)):=by
 refine Enzz λW F w hS=>?_;apply gFv;delta NR aI aR b_ ai bI;have hr:c.due<=c.now/\(c.m.at_<=c.last\/0<((kc.cap-(c.s.L.map mP).length-c.s.out:Nat):Int)):=by
  rw[zzs];unfold dF.pw at xt;omega
 obtain⟨y,x,l6,xy,hy,FZ,KP⟩:∃(y:mA) (x:eF) (l6 xy:Int),ma H y x/\(∀{v:Ω} {post:Ψ},(if c.m.at_<=c.last then v= .tuple #[agg (jP An),.int .i64 9]/\post=[om p.bp cf.every (nD cf.every c.now) c.last] else v= .tuple #[agg (jP ⟨c.m.at_,.slice none 0 0,.slice none 0 0⟩),.int .i64 8]/\post=[om p.bp cf.every (nD cf.every c.now) c.m.at_])->v= .tuple #[agg (jP y),.int .i64 l6]/\post=[om p.bp cf.every (nD cf.every c.now) xy])/\((c.m.at_<=c.last/\l6=9/\xy=c.last)\/(¬c.m.at_<=c.last/\l6=8/\xy=c.m.at_/\x=⟨c.m.at_,[],[]⟩)):=by
  by_cases h:c.m.at_<=c.last
  ·exact⟨An,sY,9,c.last,⟨rfl,iD.nil _ _,iD.nil _ _⟩,λh2=>by rw[zzc h]at h2;exact h2,.inl ⟨h,rfl,rfl⟩⟩
  exact⟨⟨c.m.at_,.slice none 0 0,.slice none 0 0⟩,⟨c.m.at_,[],[]⟩,8,c.m.at_,⟨rfl,iD.nil _ _,iD.nil _ _⟩,λh2=>by rw[zzb h]at h2;exact h2,.inr ⟨h,rfl,rfl,rfl⟩⟩
 refine⟨λus w=>∃b:Nat,us=[fw b,.int .i64 l6]/\SL W (.pt b (jP y) 214::.ob (fI p cf kc H {c with due:=nD cf.every c.now,last:=xy})::.mem H::F) w,?_,?_⟩
 ·obtain⟨dv,hS⟩:=fI.open hS Xr;obtain⟨ov,nv,hi,hS⟩:=iE.open hS Xr;refine Gn λw hS=>?_;refine⟨?_,?_⟩
  ·refine Cg (z8 p.ck [] c.now) λw hS=>?_;refine⟨?_,?_⟩
   ·refine Cg (yR p.mp p.wi H c.m) λw hS=>?_;refine⟨?_,?_⟩
    ·refine Cg (zH p.w.qp p.w.qb kc.cap c.s.out (c.s.L.map mP)) λw hS=>?_;refine⟨?_,?_⟩
     ·refine Cc (yh p.bp cf.every c.due c.last c.now c.m.at_ _ he hr) ?_;clear hS;rintro _ post k_ w hS;obtain⟨rfl,rfl⟩:=FZ k_;refine Gm λb w hS=>?_;refine zr (vs:=jP y) hS Xu rfl rfl (rK hy) λw hS=>?_;have hS:=iE.put c.s hS hi Xp;have hS:=fI.jT (p:=p) (cf:=cf) (kc:=kc) (H:=H) (s:=c.s) (k:=c.k) (m:=c.m) (dr:=c.dr) (q:=c.q) (pos:=c.pos) (due:=nD cf.every c.now) (last:=xy) (iG:=c.iG) (now:=c.now) hS Xp;exact⟨_,rfl,aW hS⟩
     refine Gm λb w hS=>?_;refine Cc (yh p.bp cf.every c.due c.last c.now c.m.at_ _ he hr) ?_;clear hS;rintro _ post k_ w hS;obtain⟨rfl,rfl⟩:=FZ k_;(try simp only[app]at hS);refine Gp ?_
     refine zr (vs:=jP y) hS Xu rfl rfl (rK hy) λw hS=>?_;have hS:=iE.put c.s hS hi Xp;have hS:=fI.jT (p:=p) (cf:=cf) (kc:=kc) (H:=H) (s:=c.s) (k:=c.k) (m:=c.m) (dr:=c.dr) (q:=c.q) (pos:=c.pos) (due:=nD cf.every c.now) (last:=xy) (iG:=c.iG) (now:=c.now) hS Xp;exact⟨_,rfl,aW hS⟩
    refine Gm λb w hS=>?_;refine Cg (zH p.w.qp p.w.qb kc.cap c.s.out (c.s.L.map mP)) λw hS=>?_;refine Cc (yh p.bp cf.every c.due c.last c.now c.m.at_ _ he hr) ?_;clear hS;rintro _ post k_ w hS;obtain⟨rfl,rfl⟩:=FZ k_;(try simp only[app]at hS);refine Gp ?_
    refine zr (vs:=jP y) hS Xu rfl rfl (rK hy) λw hS=>?_;have hS:=iE.put c.s hS hi Xp;have hS:=fI.jT (p:=p) (cf:=cf) (kc:=kc) (H:=H) (s:=c.s) (k:=c.k) (m:=c.m) (dr:=c.dr) (q:=c.q) (pos:=c.pos) (due:=nD cf.every c.now) (last:=xy) (iG:=c.iG) (now:=c.now) hS Xp;exact⟨_,rfl,aW hS⟩
   refine Gm λb w hS=>?_;refine Cg (yR p.mp p.wi H c.m) λw hS=>?_;refine Cg (zH p.w.qp p.w.qb kc.cap c.s.out (c.s.L.map mP)) λw hS=>?_;refine Cc (yh p.bp cf.every c.due c.last c.now c.m.at_ _ he hr) ?_;clear hS;rintro _ post k_ w hS;obtain⟨rfl,rfl⟩:=FZ k_;(try simp only[app]at hS);refine Gp ?_
   refine zr (vs:=jP y) hS Xu rfl rfl (rK hy) λw hS=>?_;have hS:=iE.put c.s hS hi Xp;have hS:=fI.jT (p:=p) (cf:=cf) (kc:=kc) (H:=H) (s:=c.s) (k:=c.k) (m:=c.m) (dr:=c.dr) (q:=c.q) (pos:=c.pos) (due:=nD cf.every c.now) (last:=xy) (iG:=c.iG) (now:=c.now) hS Xp;exact⟨_,rfl,aW hS⟩
  refine Gm λb w hS=>?_;refine Cg (z8 p.ck [] c.now) λw hS=>?_;refine Cg (yR p.mp p.wi H c.m) λw hS=>?_;refine Cg (zH p.w.qp p.w.qb kc.cap c.s.out (c.s.L.map mP)) λw hS=>?_;refine Cc (yh p.bp cf.every c.due c.last c.now c.m.at_ _ he hr) ?_;clear hS;rintro _ post k_ w hS;obtain⟨rfl,rfl⟩:=FZ k_;(try simp only[app]at hS);refine Gp ?_
  refine zr (vs:=jP y) hS Xu rfl rfl (rK hy) λw hS=>?_;have hS:=iE.put c.s hS hi Xp;have hS:=fI.jT (p:=p) (cf:=cf) (kc:=kc) (H:=H) (s:=c.s) (k:=c.k) (m:=c.m) (dr:=c.dr) (q:=c.q) (pos:=c.pos) (due:=nD cf.every c.now) (last:=xy) (iG:=c.iG) (now:=c.now) hS Xp;exact⟨_,rfl,aW hS⟩
 clear hS;rintro v1 v2 w ⟨b,gW,hS⟩;cases gW;unfold dF.tell;refine Gp ?_;rcases KP with ⟨h1,rfl,rfl⟩|⟨h1,rfl,rfl,rfl⟩
 ·refine za (λ_=>?_) (λh=>absurd (by decide) h);rw[zzc h1];exact⟨_,⟨rfl,H,bw.le_refl H,rfl⟩,aW hS⟩
 refine za (λh=>absurd rfl h) (λ_=>?_);rw[zzb h1];refine zC hS Xh rfl ?_;have dWp:c.s.L.length+c.s.out<kc.cap:=by unfold dF.pw at xt;omega
 refine Cg (Ys p cf kc H {c with due:=nD cf.every c.now,last:=c.m.at_} y ⟨c.m.at_,[],[]⟩ hy (hm h1) dWp) λw hS=>?_;refine za (λh=>absurd rfl h) (λ_=>?_);exact⟨[.ob (fI p cf kc H (dF.put {c with due:=nD cf.every c.now,last:=c.m.at_} ⟨c.m.at_,[],[]⟩)),.mem H],⟨rfl,H,bw.le_refl H,rfl⟩,aW hS⟩
end
def Nw(p:nz)(cf:jI)(kc:jD)(H:bw)(y:dF × Int)(v:Ω)(post:Ψ):Prop:=v= .int .i64 y.2/\∃H',H.le H'/\post=[.ob (fI p cf kc H' y.1),.mem H']
section
variable (p:nz) (cf:jI) (kc:jD) (H:bw) (c:dF)
def qc(f:kY)(jz:c.s.k.plan.length<=1024):SP 117 [fw p.np,agg (mK f)] [.ob (fI p cf kc H c),.mem H] (Nw p cf kc H (c.fault f)):=by
 refine Enzz λW F w hS=>?_;apply gFw;delta NS aI aR b_ gi ai;refine zw hS λxb w hS=>?_;refine Gp ?_;refine Cg (Yu f) λw hS=>?_;unfold dF.fault;refine zu (λh=>?_) (λh=>?_)
 ·rw[zzc h];exact⟨_,⟨rfl,H,bw.le_refl H,rfl⟩,aW hS⟩
 rw[zzb (by rw[h];decide)];obtain⟨dv,hS⟩:=fI.open hS Xr;obtain⟨ov,nv,hi,hS⟩:=iE.open hS Xr;refine Gn λw hS=>?_;refine⟨?_,?_⟩
 ·refine Cg (Z1 p.w.kp p.w.gp p.w.dp p.w.lp p.w.pp H c.s.k) λw hS=>?_;refine Gm λb w hS=>?_;have hS:=bR.full (t:=33) (n:=1) (sz:=2) rfl hS;obtain⟨H1,iA,hv,hS⟩:=zz (H:=H) (v:=.slice (some ⟨b,0,none⟩) 1 1) hS Xp;have hv:iD H1 2 (.slice (some ⟨b,0,none⟩) 1 1) [f].length ([f].map mK).flatten:=hv;have hS:=iu.nZ iA hS Xr;have hS:=ie.nZ iA hS Xr;have xj:=hi.mono iA;obtain⟨rv,hr,hS⟩:=iu.open hS Xr;refine Cc (ZX H1 p.w.pp c.s.k.plan [f] (.slice (some ⟨b,0,none⟩) 1 1) hv (by simp) jz) ?_;clear hS;rintro _ post ⟨rfl,rfl⟩ w hS;try simp only[app]at hS
  rw[Gq];rw[Gq]at hS
  by_cases hl:1024<=c.s.k.plan.length
  ·rw[zzb (λh=>by omega)];rw[zzb (λh=>by omega)]at hS
   rw[zzc hl];refine Gp ?_;refine za (λ_=>?_) (λh=>absurd (by omega) h);have hS:=iu.jT (g:=c.s.k.g) (d:=c.s.k.d) (ts:=c.s.k.ts) (plan:=c.s.k.plan) (aw:=c.s.k.aw) (reqs:=c.s.k.reqs) hS hr Xp;have hS:=iE.jT (p:=p.w) (c:=kc) (k:=c.s.k) (L:=c.s.L) (held:=c.s.held) (n:=c.s.n) hS xj Xp;have hS:=fI.jT (p:=p) (cf:=cf) (kc:=kc) (H:=H1) (s:=c.s) (k:=c.k) (m:=c.m) (dr:=c.dr) (q:=c.q) (pos:=c.pos) (due:=c.due) (last:=c.last) (iG:=c.iG) (now:=c.now) hS Xp;exact⟨[.ob (fI p cf kc H1 c),.mem H1],⟨rfl,H1,iA,rfl⟩,aW hS⟩
  rw[zzc ⟨h,by omega⟩];rw[zzc ⟨h,by omega⟩]at hS
  rw[zzb hl,zza,zz6];refine Gp ?_;refine za (λh=>absurd h (by omega)) (λ_=>?_);have hS:=iu.jT (g:=c.s.k.g) (d:=c.s.k.d) (ts:=c.s.k.ts) (plan:=c.s.k.plan++[f]) (aw:=c.s.k.aw) (reqs:=c.s.k.reqs) hS hr Xp;have hS:=iE.jT (p:=p.w) (c:=kc) (k:={c.s.k with plan:=c.s.k.plan++[f]}) (L:=c.s.L) (held:=c.s.held) (n:=c.s.n) hS xj Xp;have hS:=fI.jT (p:=p) (cf:=cf) (kc:=kc) (H:=H1) (s:={c.s with k:={c.s.k with plan:=c.s.k.plan++[f]}}) (k:=c.k) (m:=c.m) (dr:=c.dr) (q:=c.q) (pos:=c.pos) (due:=c.due) (last:=c.last) (iG:=c.iG) (now:=c.now) hS Xp;exact⟨[.ob (fI p cf kc H1 {c with s:={c.s with k:={c.s.k with plan:=c.s.k.plan++[f]}}}),.mem H1],⟨rfl,H1,iA,rfl⟩,aW hS⟩
 refine Gm λb w hS=>?_;have hS:=bR.full (t:=33) (n:=1) (sz:=2) rfl hS;obtain⟨H1,iA,hv,hS⟩:=zz (H:=H) (v:=.slice (some ⟨b,0,none⟩) 1 1) hS Xp;have hv:iD H1 2 (.slice (some ⟨b,0,none⟩) 1 1) [f].length ([f].map mK).flatten:=hv;have hS:=iu.nZ iA hS Xr;have hS:=ie.nZ iA hS Xr;have xj:=hi.mono iA;refine Cg (Z1 p.w.kp p.w.gp p.w.dp p.w.lp p.w.pp H1 c.s.k) λw hS=>?_;obtain⟨rv,hr,hS⟩:=iu.open hS Xr;refine Cc (ZX H1 p.w.pp c.s.k.plan [f] (.slice (some ⟨b,0,none⟩) 1 1) hv (by simp) jz) ?_;clear hS;rintro _ post ⟨rfl,rfl⟩ w hS;try simp only[app]at hS
 rw[Gq];rw[Gq]at hS
 by_cases hl:1024<=c.s.k.plan.length
 ·rw[zzb (λh=>by omega)];rw[zzb (λh=>by omega)]at hS
  rw[zzc hl];refine Gp ?_;refine za (λ_=>?_) (λh=>absurd (by omega) h);have hS:=iu.jT (g:=c.s.k.g) (d:=c.s.k.d) (ts:=c.s.k.ts) (plan:=c.s.k.plan) (aw:=c.s.k.aw) (reqs:=c.s.k.reqs) hS hr Xp;have hS:=iE.jT (p:=p.w) (c:=kc) (k:=c.s.k) (L:=c.s.L) (held:=c.s.held) (n:=c.s.n) hS xj Xp;have hS:=fI.jT (p:=p) (cf:=cf) (kc:=kc) (H:=H1) (s:=c.s) (k:=c.k) (m:=c.m) (dr:=c.dr) (q:=c.q) (pos:=c.pos) (due:=c.due) (last:=c.last) (iG:=c.iG) (now:=c.now) hS Xp;exact⟨[.ob (fI p cf kc H1 c),.mem H1],⟨rfl,H1,iA,rfl⟩,aW hS⟩
 rw[zzc ⟨h,by omega⟩];rw[zzc ⟨h,by omega⟩]at hS
 rw[zzb hl,zza,zz6];refine Gp ?_;refine za (λh=>absurd h (by omega)) (λ_=>?_);have hS:=iu.jT (g:=c.s.k.g) (d:=c.s.k.d) (ts:=c.s.k.ts) (plan:=c.s.k.plan++[f]) (aw:=c.s.k.aw) (reqs:=c.s.k.reqs) hS hr Xp;have hS:=iE.jT (p:=p.w) (c:=kc) (k:={c.s.k with plan:=c.s.k.plan++[f]}) (L:=c.s.L) (held:=c.s.held) (n:=c.s.n) hS xj Xp;have hS:=fI.jT (p:=p) (cf:=cf) (kc:=kc) (H:=H1) (s:={c.s with k:={c.s.k with plan:=c.s.k.plan++[f]}}) (k:=c.k) (m:=c.m) (dr:=c.dr) (q:=c.q) (pos:=c.pos) (due:=c.due) (last:=c.last) (iG:=c.iG) (now:=c.now) hS Xp;exact⟨[.ob (fI p cf kc H1 {c with s:={c.s with k:={c.s.k with plan:=c.s.k.plan++[f]}}}),.mem H1],⟨rfl,H1,iA,rfl⟩,aW hS⟩
def GL(p:nz)(cf:jI)(kc:jD)(H:bw)(c:dF)(u:Ω)(v:Ω)(post:Ψ):Prop:=v=u/\∃H',H.le H'/\post=[.ob (fI p cf kc H' c),.mem H']
def qa(comp:Int)(hm:∀t∈c.q,jC t=true)(rn:c.m.reqs.length<=1000){N:Nat}(hg:mH c.k.g N)(hN:N<=1000000000)(DR:c.s.L.length+c.s.out<=kc.cap):SP 11 [fw p.np,.int .i64 comp] [.ob (fI p cf kc H c),.mem H] (GL p cf kc H c (.bool (c.en kc comp))):=by
 refine Enzz λW F w hS=>?_;apply gFo;delta NK aI bW a_ aR b_ cW ai bI;obtain⟨dv,hS⟩:=fI.open hS Xr;have hS:=iE.take hS Xr;refine Gp ?_;refine Cg (zK p.w.dp c.s.k.d) λw hS=>?_;have hS:=iE.B2 c.s c.s.k.d hS Xp;have hS:SL W (.ob (iE p.w kc H c.s)::_) _:=hS;have hS:=fI.put c hS Xp;unfold dF.en;refine yF (λho=>?_) (λho=>?_)
 ·rw[zzc ho];exact⟨_,⟨rfl,H,bw.le_refl H,rfl⟩,aW hS⟩
 rw[zzb (by rw[ho];decide)];refine cF (λh0=>?_) (λh0=>?_)
 ·rw[zzc h0];obtain⟨dv,hS⟩:=fI.open hS Xr;refine Gn λw hS=>?_;refine Cg (zM p.sp p.tp p.w.dp p.sl c.k hg hN) λw hS=>?_;refine za (λh1=>?_) (λh1=>?_)
  ·refine Gp ?_;refine Cg (yQ p.rb kc.cap (c.q.map pk)) λw hS=>?_;refine Cg (Y8 p.rb kc.cap (c.q.map pk)) λw hS=>?_;have hS:=fI.put c hS Xp;refine⟨_,⟨?_,H,bw.le_refl H,rfl⟩,aW hS⟩;rw[zzs];congr 1;rw[yyg];unfold dF.head;omega
  have hS:=fI.put c hS Xp;refine⟨_,⟨?_,H,bw.le_refl H,rfl⟩,aW hS⟩;congr 1;symm;rw[yy7];unfold dF.head;omega
 rw[zzb h0];refine cF (λh1=>?_) (λh1=>?_)
 ·rw[zzc h1];cases hq:c.q with
  | nil=>
   refine Cg (bFd p cf kc H c hq) λw hS=>?_;refine Gm λb w hS=>?_;exact⟨_,⟨rfl,H,bw.le_refl H,rfl⟩,aW hS⟩
  | cons t q=>
   refine Cc (TH p cf kc H c t q hq (hm t (by rw[hq];exact .head _))) ?_;clear hS;rintro _ post ⟨x,H1,iA,hx,rfl,rfl⟩ w hS;refine Gm λb w hS=>?_;refine zr (vs:=kJ x) hS Xu rfl rfl hx.IG λw hS=>?_;obtain⟨dv,hS⟩:=fI.open hS Xr;obtain⟨ov,nv,hi,hS⟩:=iE.open hS Xr;refine Gn λw hS=>?_;refine Cg (zH p.w.qp p.w.qb kc.cap c.s.out (c.s.L.map mP)) λw hS=>?_;rw[zzs];refine za (λh2=>?_) (λh2=>?_)
   ·have hS:=iE.put c.s hS hi Xp;obtain⟨rv,hr,hS⟩:=ie.iff.1 (SL.cR hS (t:=.ob (ie p.mp p.wi H1 c.m)::.ob (iE p.w kc H1 c.s)::.pt p.np (Aq p cf c.pos dv) 84::AD dv c.iG::.ob (iz p.sp p.tp p.w.dp p.sl c.k)::.pt p.sn (nR p.sp p.mp p.wi p.dg cf.chunk) 208::.ob (kC p.dg c.dr)::.ob (Ring p.rb kc.cap (c.q.map pk))::.ob (mJ p.ck [] c.now)::om p.bp cf.every c.due c.last::.pt b (kJ x) 101::.mem H1::F) Xi);refine Gp ?_;refine yD (vs:=[fw p.wi]) hS Xh rfl (λj v h=>?_) ?_
    ·match j,h with
     | 0,h=>exact h
     | j+1,h=>simp at h
    refine zC hS Xh rfl ?_;refine Cg (ZG p.wi c.m.dI x) λw hS=>?_;have hS:=ie.put c.m rv hr hS Xp;have hS:=fI.put c hS Xp;refine⟨_,⟨?_,H1,iA,rfl⟩,aW hS⟩;dsimp only;rw[hx.kind,hx.mark,zzm (show 0<c.pw kc by unfold dF.pw;omega),vv6]
   have hS:=iE.put c.s hS hi Xp;have hS:=fI.put c hS Xp;refine⟨_,⟨?_,H1,iA,rfl⟩,aW hS⟩;rw[zzz (by unfold dF.pw;omega)];rfl
 rw[zzb h1];refine cF (λh2=>?_) (λh2=>?_)
 ·rw[zzc h2];obtain⟨dv,hS⟩:=fI.open hS Xr;refine Gp ?_;refine Cg (Zn p.sp p.mp p.wi p.sn p.dg cf.chunk H c.m rn) λw hS=>?_;have hS:=fI.put c hS Xp;exact⟨_,⟨rfl,H,bw.le_refl H,rfl⟩,aW hS⟩
 rw[zzb h2];refine cF (λh3=>?_) (λh3=>?_)
 ·rw[zzc h3];obtain⟨dv,hS⟩:=fI.open hS Xr;refine Gn λw hS=>?_;refine Cg (z8 p.ck [] c.now) λw hS=>?_;refine Cg (ZN p.w kc H c.s c.now) λw hS=>?_;have hS:=fI.put c hS Xp;exact⟨_,⟨rfl,H,bw.le_refl H,rfl⟩,aW hS⟩
 rw[zzb h3];refine cF (λh4=>?_) (λh4=>?_)
 ·rw[zzc h4];obtain⟨dv,hS⟩:=fI.open hS Xr;obtain⟨ov,nv,hi,hS⟩:=iE.open hS Xr;refine Gn λw hS=>?_;refine Cg (z8 p.ck [] c.now) λw hS=>?_;refine Cg (yR p.mp p.wi H c.m) λw hS=>?_;refine Cg (zH p.w.qp p.w.qb kc.cap c.s.out (c.s.L.map mP)) λw hS=>?_;refine Cg (Zh p.bp cf.every c.due c.last c.now c.m.at_ _) λw hS=>?_;have hS:=iE.put c.s hS hi Xp;have hS:=fI.put c hS Xp;refine⟨_,⟨?_,H,bw.le_refl H,rfl⟩,aW hS⟩;rw[zzs];congr 1;rw[yyg];unfold dF.pw;omega
 rw[zzb h4];exact⟨_,⟨rfl,H,bw.le_refl H,rfl⟩,aW hS⟩
end
def ky.Good.CV{p:ky}{N:Nat}(h:p.Good N)(hN:N<=900000000):p.Ok:=
 ⟨⟨h.reqs,h.t1,by have:=h.rows;omega,h.rI⟩,h.d,h.d.len,⟨N,h.src,hN⟩,h.n,h.row.1,by have:=h.wid;omega⟩
def C6.okM{n:Nat}{ch:Int}{m:iK}(h:C6 n ch m)(n1:1<=n)(n8:n<=8):m.Ok:=by
 have ht:=h.sD;have hl:=h.dI.len;exact⟨h.may,⟨by omega,by omega⟩,by omega,⟨h.rI,h.uz⟩⟩
def fFn(cf:jI)(kc:jD)(c:dF)(comp:Int):(c.pick cf kc comp).2.aw=0:=by
 unfold dF.pick;split
 ·rfl
 split
 ·rfl
 split
 ·unfold dF.read;split<;>rfl
 split
 ·unfold dF.take;split<;>rfl
 split
 ·rfl
 split
 ·rfl
 unfold dF.tell;split<;>rfl
def gij(p:ky):p.step.1.n=p.n:=by
 unfold ky.step ky.F' ky.Bc ky.FB;dsimp only;split
 ·rfl
 split
 ·split
  ·rfl
  unfold ky.F_;split<;>rfl
 split
 ·rfl
 split<;>rfl
def o9.mono{W w:Α}{l:Ψ}{p:wQ}{c:jD}{H H':bw}{s:km}(hh:H.le H')(h:SL W (.ob (o9 p c H s)::l) w):SL W (.ob (o9 p c H' s)::l) w:=by
 unfold o9 at *
 simp only[SL.ex,SL.fact,zzu,zzp]at *
 obtain⟨x,⟨hi,hr⟩,h⟩:=h;exact⟨x,⟨hi.mono hh,hr.mono hh⟩,h⟩
def o9.nZ{W w:Α}{l F:Ψ}{p:wQ}{c:jD}{H H':bw}{s:km}(hh:H.le H')(hS:SL W l w)(r:lg (.ob (o9 p c H s)) l F):SL W (.ob (o9 p c H' s)::F) w:=o9.mono hh (hS.perm r.perm)
section
variable (p:nz) (cf:jI) (kc:jD) (H:bw) (c:dF)
def q7{n j:Nat}{AL:List fF}(h:jU cf kc n j AL c)(hc:CC cf kc n)(hj:j<=190)(comp:Int):SP 68 [fw p.np,.int .i64 comp] [.ob (fI p cf kc H c),.mem H] (Ez p cf kc H (c.pick cf kc comp)):=by
 refine Enzz λW F w hS=>?_;apply ibm;delta SO aI a_ b_ gi ai;have hn:=hc.n1;have FJ:=hc.n8;have h':=h;obtain⟨tr,xs,hd,RS,RK,hb,ha⟩:=h';have DO:=CR j;have wu:=hb.mx.okM hn FJ;have DR:=ha.pj.room;unfold dF.pick;refine cF (λh0=>?_) (λh0=>?_)
 ·rw[zzc (.inl h0)];exact⟨_,⟨rfl,H,bw.le_refl H,rfl⟩,aW hS⟩
 refine cF (λh1=>?_) (λh1=>?_)
 ·rw[zzc (.inr (by omega))];exact⟨_,⟨rfl,H,bw.le_refl H,rfl⟩,aW hS⟩
 rw[zzb (by omega)];refine Cc (qa p cf kc H c comp hb.q (by have:=wu.reqs.1;omega) hb.sg (by omega) (by omega)) ?_;clear hS;rintro _ post ⟨rfl,H1,iA,rfl⟩ w hS;(try simp only[app]at hS);refine Gp ?_
 refine zu (λhe=>?_) (λhe=>?_)
 ·rw[zzc he];exact⟨_,⟨rfl,H1,iA,rfl⟩,aW hS⟩
 rw[zzb (by rw[he];decide)];refine cF (λh2=>?_) (λh2=>?_)
 ·rw[zzc h2];subst h2;obtain⟨t,e1,e2,e3,_⟩:=h.read he;have hq:c.q.length<kc.cap:=by
   have ho:=BP he;unfold dF.en at he;rw[zzb (by rw[ho];decide),zzc rfl,zzx]at he
   exact he.2
  rw[e3];refine Cc (q8 p cf kc H1 c t e1 e2 hq hb.pos hb.sg (by omega)) ?_;clear hS;rintro _ post ⟨rfl,H2,iW,rfl⟩ w hS;(try simp only[app]at hS);refine Gp ?_
  exact⟨_,⟨rfl,H2,bw.le_trans iA iW,rfl⟩,aW hS⟩
 rw[zzb h2];refine cF (λh3=>?_) (λh3=>?_)
 ·rw[zzc h3];subst h3;obtain⟨t,q,m',x,e1,e2,e3,e4,e5,e6,e7,_⟩:=h.take hc he;rw[e7];refine Cc (q9 p cf kc H1 c t q m' x e1 e2 e3 e4 e5 wu (by have:=hb.mx.dI.id;omega)) ?_;clear hS;rintro _ post ⟨rfl,H2,iW,rfl⟩ w hS;(try simp only[app]at hS);refine Gp ?_
  exact⟨_,⟨rfl,H2,bw.le_trans iA iW,rfl⟩,aW hS⟩
 rw[zzb h3];refine cF (λh4=>?_) (λh4=>?_)
 ·rw[zzc h4];obtain⟨dv,hS⟩:=fI.open hS Xr;have hS:=iE.take hS Xr;refine Gp ?_;have iY:=hb.ops;have hS:SL W (.ob (cw p.w.dp (c.p2 cf).k.d)::.ob (o9 p.w kc H1 c.s)::.pt p.np (Aq p cf c.pos dv) 84::AD dv c.iG::.ob (iz p.sp p.tp p.w.dp p.sl (c.p2 cf).k)::.ob (ie p.mp p.wi H1 (c.p2 cf).m)::.pt p.sn (nR p.sp p.mp p.wi p.dg (c.p2 cf).n) 208::.ob (kC p.dg (c.p2 cf).d)::.ob (Ring p.rb kc.cap (c.q.map pk))::.ob (mJ p.ck [] c.now)::om p.bp cf.every c.due c.last::.mem H1::F) w:=hS;refine Cc (qN p.sp p.tp p.w.dp p.sl p.mp p.wi p.sn p.dg H1 (c.p2 cf) ((hb.UX hc).CV (by omega)) (by show c.s.k.d.ops<=90000;omega)) ?_;clear hS;rintro _ post ⟨H2,iW,rfl,rfl⟩ w hS;try simp only[app]at hS
  have D0:=gij (c.p2 cf);have FY:c.snap cf=(c.I9 (c.p2 cf).step.1,⟨(c.p2 cf).step.2.2,0,(c.p2 cf).step.2.1⟩):=rfl;rw[FY];generalize (c.p2 cf).step=y at *
  obtain⟨⟨yk,ym,yd,yn⟩,l6,err⟩:=y;dsimp only at hS D0 ⊢;have D0:yn=cf.chunk:=D0;subst D0;have hS:=o9.nZ iW hS Xr;have hS:=iE.B2 c.s yk.d hS Xp;refine Gp ?_;have hS:=fI.jT (p:=p) (cf:=cf) (kc:=kc) (H:=H2) (s:={c.s with k:={c.s.k with d:=yk.d}}) (k:=yk) (m:=ym) (dr:=yd) (q:=c.q) (pos:=c.pos) (due:=c.due) (last:=c.last) (iG:=c.iG) (now:=c.now) hS Xp;have hS:SL W (.ob (fI p cf kc H2 (c.I9 ⟨yk,ym,yd,cf.chunk⟩))::.mem H2::F) w:=hS;exact⟨[.ob (fI p cf kc H2 (c.I9 ⟨yk,ym,yd,cf.chunk⟩)),.mem H2],⟨rfl,H2,bw.le_trans iA iW,rfl⟩,aW hS⟩
 rw[zzb h4];refine cF (λh5=>?_) (λh5=>?_)
 ·rw[zzc h5];refine Cc (qi p cf kc H1 c hb.wt (by omega) (hb.kok hj FJ) hb.dl) ?_;clear hS;rintro _ post ⟨rfl,H2,iW,rfl⟩ w hS;(try simp only[app]at hS);refine Gp ?_
  exact⟨_,⟨rfl,H2,bw.le_trans iA iW,rfl⟩,aW hS⟩
 rw[zzb h5];have h6:comp=4:=by omega
 subst h6;obtain⟨_,KP⟩:=h.tell hc he;have xt:c.due<=c.now/\(c.m.at_<=c.last\/0<c.pw kc):=by
  have ho:=BP he;unfold dF.en at he;rw[zzb (by rw[ho];decide),zzb (by decide),zzb (by decide),zzb (by decide),zzb (by decide),zzc rfl,zzx]at he
  exact he
 refine Cc (Qi p cf kc H1 c ⟨hc.e1,hc.e2⟩ xt (by omega) (λhl=>by rcases KP with ⟨hh,_⟩|⟨_,_,hh,_⟩;exact absurd hh hl;exact hh)) ?_;clear hS;rintro _ post ⟨rfl,H2,iW,rfl⟩ w hS;(try simp only[app]at hS);refine Gp ?_
 exact⟨_,⟨rfl,H2,bw.le_trans iA iW,rfl⟩,aW hS⟩
def bF3{n j:Nat}{AL:List fF}(h:jU cf kc n j AL c)(hc:CC cf kc n)(hj:j<=190)(x:sN)(s:lZ)(hx:pq H x s)(hk:s.kind≠8):SP 69 [fw p.np,agg (oy x)] [.ob (fI p cf kc H c),.mem H] (Nw p cf kc H (c.other cf s)):=by
 refine Enzz λW F w hS=>?_;apply aIb;delta JJ aI bW a_ aR b_ ai;refine zw hS λxb w hS=>?_;obtain⟨tr,xs,hd,RS,RK,hb,ha⟩:=h;have DO:=CR j;have sX:=hx.kind;have tA:=hx.n;have LC:=hx.ft;unfold oy at hS;rw[sX,tA,LC]at hS
 unfold dF.other;refine cF (λh3=>?_) (λh3=>?_)
 ·rw[zzc h3];refine Gp ?_;refine yD (vs:=mK s.ft) hS Xh rfl (λj v h=>?_) ?_
  ·match j,h with
   | 0,h=>exact h
   | 1,h=>exact h
   | j+2,h=>simp[mK]at h
  refine Cc (qc p cf kc H c s.ft hb.pl) ?_;clear hS;rintro _ post ⟨rfl,H1,iA,rfl⟩ w hS;try simp only[app]at hS
  exact⟨_,⟨rfl,H1,iA,rfl⟩,aW hS⟩
 rw[zzb h3];refine cF (λh4=>?_) (λh4=>?_)
 ·rw[zzc h4];refine Gp ?_;refine Cc (Qj p cf kc H c s.n hb.now) ?_;clear hS;rintro _ post ⟨rfl,rfl⟩ w hS;try simp only[app]at hS
  exact⟨_,⟨rfl,H,bw.le_refl H,rfl⟩,aW hS⟩
 rw[zzb h4];refine cF (λh5=>?_) (λh5=>?_)
 ·rw[zzc h5];refine Gp ?_;refine Cc (qY p cf kc H c s.n hb.dl) ?_;clear hS;rintro _ post ⟨rfl,rfl⟩ w hS;try simp only[app]at hS
  exact⟨_,⟨rfl,H,bw.le_refl H,rfl⟩,aW hS⟩
 rw[zzb h5];refine cF (λh6=>?_) (λh6=>?_)
 ·rw[zzc h6];obtain⟨dv,hS⟩:=fI.open hS Xr;obtain⟨ov,nv,hi,hS⟩:=iE.open hS Xr;refine Gn λw hS=>?_;refine Cg (yH p.w.kp p.w.gp p.w.dp p.w.lp p.w.pp H c.s.k) λw hS=>?_;have hS:=iE.put c.s hS hi Xp;have hS:=iE.take hS Xr;have hS:SL W (.ob (cw p.w.dp c.src.d)::.ob (o9 p.w kc H c.s)::.pt p.np (Aq p cf c.pos dv) 84::AD dv c.iG::.ob (iz p.sp p.tp p.w.dp p.sl c.src)::_) w:=hS;have iY:=hb.ops;have B':=hb.al;have Lu:c.src.g.bF.length<=AL.length+1:=by
   obtain⟨I,d0,f,lo,m,hL⟩:=ha.kv.live;exact hL.bF
  refine Cc (QW p.sp p.tp p.w.dp p.sl c.src H c.s.k.aw (hb.Gz hc.n1 hc.n8) (by omega) (by show c.s.k.d.ops+_<=90000;omega)) ?_;clear hS;rintro _ post ⟨rfl,H1,iA,rfl⟩ w hS;try simp only[app]at hS
  have Ak:c.trim=(c.oe (c.src.mG c.s.k.aw).1,(c.src.mG c.s.k.aw).2):=rfl;rw[Ak];generalize c.src.mG c.s.k.aw=y at *
  obtain⟨k',e⟩:=y;dsimp only at hS ⊢;have hS:=o9.nZ iA hS Xr;have hS:=ie.nZ iA hS Xr;have hS:=iE.B2 c.s k'.d hS Xp;have hS:=fI.jT (p:=p) (cf:=cf) (kc:=kc) (H:=H1) (s:={c.s with k:={c.s.k with d:=k'.d}}) (k:=k') (m:=c.m) (dr:=c.dr) (q:=c.q) (pos:=c.pos) (due:=c.due) (last:=c.last) (iG:=c.iG) (now:=c.now) hS Xp;have hS:SL W (.ob (fI p cf kc H1 (c.oe k'))::_) w:=hS;exact⟨[.ob (fI p cf kc H1 (c.oe k')),.mem H1],⟨rfl,H1,iA,rfl⟩,aW hS⟩
 rw[zzb h6];refine cF (λh7=>?_) (λh7=>?_)
 ·rw[zzc h7];refine Gp ?_;refine Cc (bw2 p cf kc H c s.n) ?_;clear hS;rintro _ post ⟨rfl,rfl⟩ w hS;try simp only[app]at hS
  exact⟨_,⟨rfl,H,bw.le_refl H,rfl⟩,aW hS⟩
 rw[zzb h7];refine Gp ?_;refine za (λh8=>absurd h8 hk) (λh8=>?_);rw[zzb h8];exact⟨_,⟨rfl,H,bw.le_refl H,rfl⟩,aW hS⟩
def aWl(p:nz)(cf:jI)(kc:jD)(H:bw)(y:dF × uv)(v:Ω)(post:Ψ):Prop:=v=agg (AO y.2)/\∃H',H.le H'/\post=[.ob (fI p cf kc H' y.1),.mem H']
def bw5{n j:Nat}{AL:List fF}(h:CS cf kc n j AL c)(hc:CC cf kc n)(hj:j<=190)(x:sN)(s:lZ)(hx:pq H x s)(hl:s.l.length<=140737488351232)(hk:s.kind≠8):SP 12 [fw p.np,agg (oy x)] [.ob (fI p cf kc H c),.mem H] (aWl p cf kc H (c.lT cf kc s)):=by
 refine Enzz λW F w hS=>?_;apply aF2;delta Jy aI bW a_ b_ ai;have sX:=hx.kind;have tA:=hx.n;have LC:=hx.ft;refine zw hS λxb w hS=>?_;refine Gb λzb w hS=>?_;unfold oy at hS;rw[sX,tA,LC]at hS
 refine⟨λus w=>us=[]/\c.s.k.d.off=false/\SL W (.pt zb [.int .i64 0,.int .i64 0,.int .i64 0] 43::.pt xb [.int .i64 s.kind,.int .i64 s.n,x.sv,x.cv,.int .i64 s.ft.kind,.int .i64 s.ft.keep,x.kv] 36::.ob (fI p cf kc H c)::.mem H::F) w,?_,?_⟩
 ·obtain⟨dv,hS⟩:=fI.open hS Xr;have hS:=iE.take hS Xr;refine Gp ?_;refine Cg (zK p.w.dp c.s.k.d) λw hS=>?_;have hS:=iE.B2 c.s c.s.k.d hS Xp;have hS:SL W (.ob (iE p.w kc H c.s)::_) _:=hS;have hS:=fI.put c hS Xp;refine yF (λho=>?_) (λho=>?_)
  ·refine Gp ?_;refine za (λ_=>?_) (λh=>absurd hk h);refine Gn λw hS=>?_;unfold dF.lT;rw[zzc ⟨ho,hk⟩];exact⟨_,⟨rfl,H,bw.le_refl H,rfl⟩,aW hS⟩
  exact⟨rfl,ho,aW hS⟩
 clear hS;rintro w ⟨-,ho,hS⟩;have hA:jU cf kc n j AL c:=by
  rcases h with h|h
  ·exact h
  rw[h.1]at ho;cases ho
 have mZ:=hA;obtain⟨tr,xs,hd,RS,RK,hb,ha⟩:=mZ;have DO:=CR j;have HL:c.lT cf kc s=if s.kind=1 then c.vj s else if s.kind=2 then c.pick cf kc s.n else ((c.other cf s).1,⟨(c.other cf s).2,0,0⟩):=by
  unfold dF.lT;rw[zzb (λhh=>by rw[ho]at hh;cases hh.1)]
 rw[HL];refine cF (λh1=>?_) (λh1=>?_)
 ·rw[zzc h1];obtain⟨dv,hS⟩:=fI.open hS Xr;have hS:=iE.take hS Xr;refine Gn λw hS=>?_;have hS:SL W (.ob (cw p.w.dp c.src.d)::.ob (o9 p.w kc H c.s)::.pt p.np (Aq p cf c.pos dv) 84::AD dv c.iG::.ob (iz p.sp p.tp p.w.dp p.sl c.src)::_) w:=hS;have iY:=hb.ops;refine Cc (Y3 p.sp p.tp p.w.dp p.sl c.src H x.sv x.cv s.sg s.l hx.sv hx.cv hl (hb.Gz hc.n1 hc.n8) (by omega) (by show c.s.k.d.ops<=90000;omega)) ?_;clear hS;rintro _ post ⟨rfl,rfl⟩ w hS;try simp only[app]at hS
  have Ak:c.vj s=(c.oe (c.src.tg s.sg s.l).1,⟨(c.src.tg s.sg s.l).2.2,(c.src.tg s.sg s.l).2.1,0⟩):=rfl;rw[Ak];generalize c.src.tg s.sg s.l=y at *
  obtain⟨k',aw,e⟩:=y;dsimp only at hS ⊢;have hS:=iE.B2 c.s k'.d hS Xp;have hS:=fI.jT (p:=p) (cf:=cf) (kc:=kc) (H:=H) (s:={c.s with k:={c.s.k with d:=k'.d}}) (k:=k') (m:=c.m) (dr:=c.dr) (q:=c.q) (pos:=c.pos) (due:=c.due) (last:=c.last) (iG:=c.iG) (now:=c.now) hS Xp;have hS:SL W (.ob (fI p cf kc H (c.oe k'))::_) w:=hS;refine Gn λw hS=>?_;exact⟨[.ob (fI p cf kc H (c.oe k')),.mem H],⟨rfl,H,bw.le_refl H,rfl⟩,aW hS⟩
 rw[zzb h1];refine cF (λh2=>?_) (λh2=>?_)
 ·rw[zzc h2];refine Gp ?_;refine Cc (q7 p cf kc H c hA hc hj s.n) ?_;clear hS;rintro _ post ⟨rfl,H1,iA,rfl⟩ w hS;refine Gn λw hS=>?_;exact⟨_,⟨by unfold AO;rw[fFn],H1,iA,rfl⟩,aW hS⟩
 rw[zzb h2];have sx:pq H ⟨s.kind,s.n,x.sv,x.cv,s.ft,x.kv⟩ s:=⟨rfl,rfl,rfl,hx.sv,hx.cv,hx.kv⟩;refine Gp ?_;refine Cc (bF3 p cf kc H c hA hc hj ⟨s.kind,s.n,x.sv,x.cv,s.ft,x.kv⟩ s sx hk) ?_;clear hS;rintro _ post ⟨rfl,H1,iA,rfl⟩ w hS;refine Gn λw hS=>?_;exact⟨_,⟨rfl,H1,iA,rfl⟩,aW hS⟩
end
abbrev Bg(cf:jI)(a0 a1 a2 a3 a4 a5 a6 a7 a8 a9 xK y z:Ω):Γ:=[a0,a1,a2,a3,a4,a5,a6,a7,a8,a9,xK,.int .i64 cf.tables,.int .i64 cf.late,.int .i64 cf.size,.int .i64 cf.queue,.int .i64 cf.chunk,.int .i64 cf.batch,.int .i64 cf.base,.int .i64 cf.fW,.int .i64 cf.wy,.int .i64 cf.every,y,z]
def bFc{cf:jI}{a0 a1 a2 a3 a4 a5 a6 a7 a8 a9 xK y z:Ω}:∀j v,(q_ cf)[j]?=some v->(Bg cf a0 a1 a2 a3 a4 a5 a6 a7 a8 a9 xK y z)[11+j]?=some v
 | 0,v,h=>h
 | 1,v,h=>h
 | 2,v,h=>h
 | 3,v,h=>h
 | 4,v,h=>h
 | 5,v,h=>h
 | 6,v,h=>h
 | 7,v,h=>h
 | 8,v,h=>h
 | 9,v,h=>h
 | j+10,v,h=>by simp[q_]at h
def z6:∀i,i<6->([.int .i64 0,.int .i64 0,.int .i64 0,.int .i64 0,.int .i64 0,.int .i64 0]:Γ)[i]?=some (.int .i64 0)
 | 0,_=>rfl
 | 1,_=>rfl
 | 2,_=>rfl
 | 3,_=>rfl
 | 4,_=>rfl
 | 5,_=>rfl
section
variable (np dp ck sp tp sl kp gp lp pp:Nat) (cf:jI) (kc:jD) (H:bw) (k1:g_) (k2:gF) (now:Int)
def qg{n:Nat}(hc:CC cf kc n)(a0 a1 a2 a3 a4 a5 a6 a7 a8 a9 xK:Ω)(FK:0<=now/\now<=1125899906842624)(hl:0<=k2.aw/\k2.aw<=1099511627776)(FI:lr k2.reqs)(rn:∀r∈k2.reqs,r.table<(n:Int)/\r.at_<=k2.aw):SP 98 [fw np,fw sp,fw kp] [.pt np (Bg cf a0 a1 a2 a3 a4 a5 a6 a7 a8 a9 xK (fw dp) (fw ck)) 84,.ob (iz sp tp dp sl k1),.ob (iu kp gp dp lp pp H k2),.ob (mJ ck [] now),.mem H]
  (λv post=>v= .int .i64 0/\∃(p:nz) (H':bw),H.le H'/\p.np=np/\p.w.dp=dp/\p.ck=ck/\post=[.ob (fI p cf kc H' (dF.start cf k1 k2 now)),.mem H']):=by
 refine Enzz λW F w hS=>?_;apply ib4;delta S7 aI bW a_ aR b_ ai h_ bI iU;have kz:¬Gg cf.tables cf.late cf.chunk k2.aw k2.reqs:=by
  have h1:=hc.tables;have h2:=hc.n1;have h3:=hc.n8;have h4:=hc.W3;have h5:=hc.W2;have h6:=hc.c1;have h7:=hc.BE;rintro (h|h|h|h|h|h|h|h|h|⟨r,hr,h⟩)
  ·omega
  ·omega
  ·omega
  ·rw[h1,zzv]at h;omega
  ·omega
  ·omega
  ·omega
  ·omega
  ·exact h FI
  have:=rn r hr;omega
 refine Gp ?_;refine yD (o:=11) (vs:=q_ cf) hS Xh rfl bFc ?_;refine Gm λb w hS=>?_;refine Cg (yH kp gp dp lp pp H k2) λw hS=>?_;refine Gm λb w hS=>?_;refine Gm λb w hS=>?_;rw[hc.queue];refine Cc (XD kc.cap hc.q1 hc.Gr) ?_;clear hS;rintro _ post ⟨rb,rfl,rfl⟩ w hS;refine Gn λw hS=>?_;refine yx (j:=0) (by decide) ?_;refine Gn λw hS=>?_;rw[hc.queue];refine Cc (cWx kc.cap hc.q1 hc.Gr) ?_;clear hS;rintro _ post ⟨qp,qb,rfl,rfl⟩ w hS;refine Gn λw hS=>?_;refine yx (j:=1) (by decide) ?_;refine Gn λw hS=>?_;rw[hc.base,hc.cm,hc.WO];refine Cc (gws kc.b kc.m kc.j) ?_;clear hS;rintro _ post hq w hS;rw[zzc hc.may]at hq
 obtain⟨rp,rfl,rfl⟩:=hq;refine Gn λw hS=>?_;refine yx (j:=2) (by decide) ?_;refine Gn λw hS=>?_;refine Cg (z8 ck [] now) λw hS=>?_;refine Cg (yH kp gp dp lp pp H k2) λw hS=>?_;refine Cc (bwq cf.every now k2.aw ⟨hc.e1,hc.e2⟩ FK hl) ?_;clear hS;rintro _ post ⟨bp,rfl,rfl⟩ w hS;refine Gn λw hS=>?_;refine yx (j:=3) (by decide) ?_;refine Gn λw hS=>?_;refine Cg (yH kp gp dp lp pp H k2) λw hS=>?_;refine Cc (Qw kp gp dp lp pp H k2 FI.1) ?_;clear hS;rintro rv post ⟨H1,iA,V9,rfl⟩ w hS;(try simp only[app]at hS);refine Gp ?_
 refine Cc (e_o H1 cf.tables cf.late cf.chunk k2.aw rv k2.reqs V9 (by have:=FI.1;omega)) ?_;clear hS;rintro _ post hq w hS;rcases hq with ⟨hb,_⟩|⟨_,mp,wi,H2,iW,rfl,rfl⟩
 ·exact absurd hb kz
 refine Gn λw hS=>?_;refine yx (j:=4) (by decide) ?_;refine Gn λw hS=>?_;rw[hc.batch];refine Cc (ici kp qp rp kc.fW hc.b1 hc.JU) ?_;clear hS;rintro _ post ⟨wp,rfl,rfl⟩ w hS;refine Gn λw hS=>?_;refine yx (j:=5) (by decide) ?_;refine Gn λw hS=>?_;refine⟨λus w'=>∃i:Nat,us=[.int .i64 i]/\i<=6/\w'=w,λus _=>match us with|[.int _ i]=>(6-i).toNat|_=>0,⟨0,rfl,by decide,rfl⟩,?_⟩;rintro v96 w' ⟨i,gW,hi,rfl⟩;cases gW;refine cF (λh=>?_) (λh=>?_)
 ·have VC:i<6:=by omega
  refine awa Tryz.underlying250 (λw=>by kernel_rfl) (λw=>by kernel_rfl) VC (z6 i VC) ?_;refine Gp ?_;refine za (λh=>absurd rfl h) (λ_=>?_);refine Gp ?_;exact⟨⟨i+1,rfl,by omega,rfl⟩,by dsimp only;omega⟩
 refine Gp ?_;refine Cc (QU sp mp wi H2 ⟨cf.tables,cf.late,k2.aw,k2.reqs,rY cf.chunk⟩ cf.chunk) ?_;clear hS;rintro _ post hq w hS;rcases hq with ⟨hb,_⟩|⟨_,sn,dg,rfl,rfl⟩
 ·exact absurd ⟨hc.c1,hc.BE⟩ hb
 (try simp only[app]at hS);refine Gp ?_
 refine za (λ_=>?_) (λh=>absurd rfl h);refine Gn λw hS=>?_;refine Yd (o:=0) (vs:=[fw kp,fw sp,fw rb,.int .i64 k2.aw,fw mp,fw sn,fw qp,fw rp,fw wp,fw bp,.slice none 0 0]) hS Xu rfl (by show 11<=23;decide) (by simp[Value.oneCell']) λw hS=>?_;have hS:=iu.nZ iW hS Xr;simp only[Bg,List.take,List.drop,zzu,zzp,yyd]at hS;have hS:SL W (.pt wp (um kp qp rp kc.fW 0 (.slice none 0 0) (.slice none 0 0) 0) 216::.ob (iu kp gp dp lp pp H2 k2)::.ob (Gate qp qb kc.cap 0 [])::o8 rp kc.b kc.m kc.j 0 0::.pt np (Bg cf (fw kp) (fw sp) (fw rb) (.int .i64 k2.aw) (fw mp) (fw sn) (fw qp) (fw rp) (fw wp) (fw bp) (.slice none 0 0) (fw dp) (fw ck)) 84::.ob (iz sp tp dp sl k1)::.ob (ie mp wi H2 ⟨cf.tables,cf.late,k2.aw,k2.reqs,rY cf.chunk⟩)::.pt sn (nR sp mp wi dg cf.chunk) 208::.ob (kC dg BO)::.ob (Ring rb kc.cap [])::.ob (mJ ck [] now)::om bp cf.every (nD cf.every now) k2.aw::.mem H2::F) w:=aW hS;have A1:ma H2 ⟨sY.aw,.slice none 0 0,.slice none 0 0⟩ sY:=⟨rfl,iD.nil _ _,iD.nil _ _⟩;have hS:=(iE.iff (p:=⟨wp,kp,gp,dp,lp,pp,qp,qb,rp⟩) (c:=kc) (H:=H2) (s:=⟨k2,[],0,0,0,sY,0⟩)).2 ⟨.slice none 0 0,.slice none 0 0,A1,hS⟩;have hS:=iB.vz (t:=2) (sz:=1) (a:=none) hS;have hS:SL W (.pt np (Bg cf (fw kp) (fw sp) (fw rb) (.int .i64 k2.aw) (fw mp) (fw sn) (fw qp) (fw rp) (fw wp) (fw bp) (.slice none 0 0) (fw dp) (fw ck)) 84::.ob (iB (.slice none 0 0) 2 1 0 [])::.ob (iE ⟨wp,kp,gp,dp,lp,pp,qp,qb,rp⟩ kc H2 ⟨k2,[],0,0,0,sY,0⟩)::.ob (iz sp tp dp sl k1)::.ob (ie mp wi H2 ⟨cf.tables,cf.late,k2.aw,k2.reqs,rY cf.chunk⟩)::.pt sn (nR sp mp wi dg cf.chunk) 208::.ob (kC dg BO)::.ob (Ring rb kc.cap [])::.ob (mJ ck [] now)::om bp cf.every (nD cf.every now) k2.aw::.mem H2::F) w:=aW hS;have hS:=(fI.iff (p:=⟨np,⟨wp,kp,gp,dp,lp,pp,qp,qb,rp⟩,sp,tp,sl,rb,mp,wi,sn,dg,bp,ck⟩) (cf:=cf) (kc:=kc) (H:=H2) (c:=dF.start cf k1 k2 now)).2 ⟨.slice none 0 0,hS⟩;exact⟨[.ob (fI ⟨np,⟨wp,kp,gp,dp,lp,pp,qp,qb,rp⟩,sp,tp,sl,rb,mp,wi,sn,dg,bp,ck⟩ cf kc H2 (dF.start cf k1 k2 now)),.mem H2],⟨rfl,⟨np,⟨wp,kp,gp,dp,lp,pp,qp,qb,rp⟩,sp,tp,sl,rb,mp,wi,sn,dg,bp,ck⟩,H2,bw.le_trans iA iW,rfl,rfl,rfl,rfl⟩,aW hS⟩
def Nz(np dp ck:Nat)(cf:jI)(kc:jD)(H:bw)(c:dF)(v:Ω)(post:Ψ):Prop:=v= .int .i64 0/\∃(p:nz) (H':bw),H.le H'/\p.np=np/\p.w.dp=dp/\p.ck=ck/\post=[.ob (fI p cf kc H' c),.mem H']
def ZU{n:Nat}(hc:CC cf kc n)(d:DS){N:Nat}(e1:pG d cf.tables cf.size=(k1.d,.ok k1))(e2:oX k1.d cf.tables cf.size=(k2.d,.ok k2))(eW:d.Ok N)(dWd:k1.d.Ok N)(hN:N<=100000000)(iY:d.ops<=90000)(VY:k1.d.ops<=90000)(su:∀d' g,jX d 16 cf.size=(d',.ok g)->(gR g.bF).length<=50000)(Cq:∀d' g,jX k1.d 8192 cf.size=(d',.ok g)->(gR g.bF).length<=200)
  (a0 a1 a2 a3 a4 a5 a6 a7 a8 a9 xK:Ω) (FK:0<=now/\now<=1125899906842624) (hl:0<=k2.aw/\k2.aw<=1099511627776) (FI:lr k2.reqs) (rn:∀r∈k2.reqs,r.table<(n:Int)/\r.at_<=k2.aw):SP 42 [fw np] [.pt np (Bg cf a0 a1 a2 a3 a4 a5 a6 a7 a8 a9 xK (fw dp) (fw ck)) 84,.ob (cw dp d),.ob (mJ ck [] now),.mem H] (Nz np dp ck cf kc H (dF.start cf k1 k2 now)):=by
 refine Enzz λW F w hS=>?_;apply iax;delta Sm aI bW a_ b_ ai;refine Gn λw hS=>?_;refine Cc (QS H dp d cf.tables cf.size eW (by omega) iY su) ?_;clear hS;rintro r post hq w hS;unfold Jr at hq;rw[e1]at hq
 obtain⟨sp,tp,sl,H1,iA,rfl,rfl⟩:=hq;(try simp only[app]at hS);refine Gp ?_
 refine za (λh=>absurd rfl h) (λ_=>?_);refine Gn λw hS=>?_;refine Cc (Qu H1 dp k1.d cf.tables cf.size dWd hN VY Cq) ?_;clear hS;rintro r post hq w hS;unfold Nv at hq;rw[e2]at hq
 obtain⟨kp,gp,lp,pp,H2,iW,rfl,rfl⟩:=hq;(try simp only[app]at hS);refine Gp ?_
 refine za (λh=>absurd rfl h) (λ_=>?_);refine Cc (qg np dp ck sp tp sl kp gp lp pp cf kc H2 k1 k2 now hc a0 a1 a2 a3 a4 a5 a6 a7 a8 a9 xK FK hl FI rn) ?_;clear hS;rintro _ post ⟨rfl,p,H3,kT,sW,uS,DP,rfl⟩ w hS;try simp only[app]at hS
 exact⟨_,⟨rfl,p,H3,bw.le_trans iA (bw.le_trans iW kT),sW,uS,DP,rfl⟩,aW hS⟩
end
section
variable (p:nz) (cf:jI) (kc:jD) (H:bw) (c:dF)
def Y9{n j:Nat}{AL:List fF}(h:CS cf kc n j AL c)(hc:CC cf kc n)(hj:j<=190)(x:sN)(s:lZ)(hx:pq H x s)(hk:s.kind=8)(pQ:s.keep.length<=1000000):SP 69 [fw p.np,agg (oy x)] [.ob (fI p cf kc H c),.mem H] (Nz p.np p.w.dp p.ck cf kc H (c.jO cf s.keep)):=by
 refine Enzz λW F w hS=>?_;apply aIb;delta JJ aI bW a_ aR b_ ai;refine zw hS λxb w hS=>?_;obtain⟨k1,k2,kf,hK⟩:=h.jO hc hj s.keep;obtain⟨xs0,xg⟩:=h.tf;obtain⟨tr,xs,hd,RS,RK,hb,ha⟩:=hK.st;have sX:=hx.kind;unfold oy at hS;rw[sX,hk]at hS
 refine Gp ?_;refine za (λh3=>absurd h3 (by decide)) (λh3=>?_);refine Gp ?_;refine za (λh3=>absurd h3 (by decide)) (λh3=>?_);refine Gp ?_;refine za (λh3=>absurd h3 (by decide)) (λh3=>?_);refine Gp ?_;refine za (λh3=>absurd h3 (by decide)) (λh3=>?_);refine Gp ?_;refine za (λh3=>absurd h3 (by decide)) (λh3=>?_);refine Gp ?_;refine za (λ_=>?_) (λh3=>absurd rfl h3);obtain⟨dv,hS⟩:=fI.open hS Xr;have hS:=iE.take hS Xr;have A':=xg.dk.Gt;have DO:=CR j;have VT:=Mb j;have iY:=xg.ops;have VY:=hK.ops;have su:=hK.n1;refine Gn λw hS=>?_;refine Cg (qf H p.w.dp c.s.k.d (nJ j) xg.dk (by omega) (by omega) x.kv s.keep hx.kv) λw hS=>?_;have hS:SL W (.pt p.np (Bg cf (mV p.w.kp) (fw p.sp) (fw p.rb) (.int .i64 c.pos) (fw p.mp) (fw p.sn) (fw p.w.qp) (fw p.w.rp) (fw p.w.wp) (fw p.bp) dv (fw p.w.dp) (fw p.ck)) 84::.ob (cw p.w.dp (c.s.k.d.jO s.keep))::.ob (mJ p.ck [] c.now)::.mem H::F) w:=aW hS;refine Cc (ZU p.np p.w.dp p.ck cf kc H k1 k2 c.now hc (c.s.k.d.jO s.keep) (N:=nJ (j+1)) hK.e1 hK.e2 ((xg.dk.jO s.keep).mono (D8 j)) hK.dk (by omega) (by show c.s.k.d.ops<=90000;omega) (by omega) (λd' g e=>yyw (su d' g e) (by decide)) hK.n2 _ _ _ _ _ _ _ _ _ _ _ xg.now ⟨ha.pj.l0,hb.mx.uz⟩ hb.mx.may ha.rC) ?_;clear hS;rintro _ post ⟨rfl,q,H3,kT,sW,uS,DP,rfl⟩ w hS;try simp only[app]at hS
 rw[hK.is];exact⟨_,⟨rfl,q,H3,kT,sW,uS,DP,rfl⟩,aW hS⟩
def bw4{n j:Nat}{AL:List fF}(h:CS cf kc n j AL c)(hc:CC cf kc n)(hj:j<=190)(x:sN)(s:lZ)(hx:pq H x s)(hk:s.kind=8)(pQ:s.keep.length<=1000000):SP 12 [fw p.np,agg (oy x)] [.ob (fI p cf kc H c),.mem H]
  (λv post=>v=agg (AO ⟨0,0,0⟩)/\∃(q:nz) (H':bw),H.le H'/\q.np=p.np/\q.w.dp=p.w.dp/\q.ck=p.ck/\post=[.ob (fI q cf kc H' (c.jO cf s.keep)),.mem H']):=by
 refine Enzz λW F w hS=>?_;apply aF2;delta Jy aI bW a_ b_ ai;have sX:=hx.kind;refine zw hS λxb w hS=>?_;refine Gb λzb w hS=>?_;unfold oy at hS;rw[sX,hk]at hS
 refine⟨λus w=>us=[]/\SL W (.pt zb [.int .i64 0,.int .i64 0,.int .i64 0] 43::.pt xb [.int .i64 8,.int .i64 x.n,x.sv,x.cv,.int .i64 x.ft.kind,.int .i64 x.ft.keep,x.kv] 36::.ob (fI p cf kc H c)::.mem H::F) w,?_,?_⟩
 ·obtain⟨dv,hS⟩:=fI.open hS Xr;have hS:=iE.take hS Xr;refine Gp ?_;refine Cg (zK p.w.dp c.s.k.d) λw hS=>?_;have hS:=iE.B2 c.s c.s.k.d hS Xp;have hS:SL W (.ob (iE p.w kc H c.s)::_) _:=hS;have hS:=fI.put c hS Xp;refine yF (λho=>?_) (λho=>?_)
  ·refine Gp ?_;refine za (λh=>absurd rfl h) (λ_=>?_);exact⟨rfl,aW hS⟩
  exact⟨rfl,aW hS⟩
 clear hS;rintro w ⟨-,hS⟩;have sx:pq H ⟨8,x.n,x.sv,x.cv,x.ft,x.kv⟩ s:=⟨hk.symm,hx.n,hx.ft,hx.sv,hx.cv,hx.kv⟩;refine Gp ?_;refine za (λh3=>absurd h3 (by decide)) (λh3=>?_);refine Gp ?_;refine za (λh3=>absurd h3 (by decide)) (λh3=>?_);refine Gp ?_;refine Cc (Y9 p cf kc H c h hc hj ⟨8,x.n,x.sv,x.cv,x.ft,x.kv⟩ s sx hk pQ) ?_;clear hS;rintro _ post ⟨rfl,q,H1,iA,sW,uS,DP,rfl⟩ w hS;refine Gn λw hS=>?_;exact⟨_,⟨rfl,q,H1,iA,sW,uS,DP,rfl⟩,aW hS⟩
end
def zT(n a b:Int):SP 93 [.int .i64 n,.int .i64 a,.int .i64 b] [] (e_ (.bool (decide (a<=n/\n<=b))) []):=by
 refine Enzz λW F w hS=>?_;apply ibz;delta S2 aI cW;refine cF (λh=>?_) (λh=>?_)
 ·refine Gp ?_;rw[show decide (a<=n/\n<=b)=decide (n<=b) from yyg.2 ⟨λh=>h.2,λh'=>⟨by omega,h'⟩⟩];(exact dW hS)
 rw[zzz (p:=a<=n/\n<=b) (by omega)];(exact dW hS)
def bFl{cf:jI}{kc:jD}{n:Nat}(hc:CC cf kc n):SP 39 [agg (q_ cf)] [] (e_ (.bool true) []):=by
 refine Enzz λW F w hS=>?_;apply aF9;delta JH aI a_ cW ai;have h1:=hc.tables;have h2:=hc.n1;have h3:=hc.n8;have h4:=hc.W3;have h5:=hc.queue;have h6:=hc.batch;have h7:=hc.q1;have h8:=hc.Gr;have h9:=hc.b1;have AW:=hc.JU;have hp:(2:Int) ^ n<=256:=by
  have:(2:Nat) ^ n<=2 ^ 8:=vvx (by decide) h3;have h:=Int.ofNat_le.2 this
  push_cast at h
  exact h
 have A9:(1:Int)<=2 ^ n:=by
  have h:=Int.ofNat_le.2 (Nat.one_le_two_pow (n:=n))
  push_cast at h
  exact h
 refine zw hS λxb w hS=>?_;unfold q_ at hS;refine Gn λw hS=>?_;refine yf (by kernel_rfl) (zT cf.tables 1 8) rfl hS Xp ?_;rintro _ post ⟨rfl,rfl⟩ w hS;try simp only[app]at hS
 rw[zzm (p:=1<=cf.tables/\cf.tables<=8) (by omega)];refine Gp ?_;rw[hc.tables];refine QQ (n:=n) (by omega) (by omega) ?_;refine Gp ?_;refine yf (by kernel_rfl) (zT cf.late 0 (1*2 ^ n-1)) rfl hS Xp ?_;rintro _ post ⟨rfl,rfl⟩ w hS;try simp only[app]at hS
 rw[zzm (p:=0<=cf.late/\cf.late<=(1*2 ^ n-1)) ⟨hc.W2,by omega⟩];refine Gp ?_;refine yf (by kernel_rfl) (zT cf.size 64 65536) rfl hS Xp ?_;rintro _ post ⟨rfl,rfl⟩ w hS;try simp only[app]at hS
 rw[zzm (p:=64<=cf.size/\cf.size<=65536) ⟨hc.s0,hc.s1⟩];refine Gp ?_;refine yf (by kernel_rfl) (zT cf.queue 1 64) rfl hS Xp ?_;rintro _ post ⟨rfl,rfl⟩ w hS;try simp only[app]at hS
 rw[zzm (p:=1<=cf.queue/\cf.queue<=64) (by omega)];refine Gp ?_;refine yf (by kernel_rfl) (zT cf.chunk 1 64) rfl hS Xp ?_;rintro _ post ⟨rfl,rfl⟩ w hS;try simp only[app]at hS
 rw[zzm (p:=1<=cf.chunk/\cf.chunk<=64) ⟨hc.c1,hc.BE⟩];refine Gp ?_;refine yf (by kernel_rfl) (zT cf.batch 1 64) rfl hS Xp ?_;rintro _ post ⟨rfl,rfl⟩ w hS;try simp only[app]at hS
 rw[zzm (p:=1<=cf.batch/\cf.batch<=64) (by omega)];refine Gp ?_;rw[hc.base,hc.cm,hc.WO];refine Cc (yX kc.b kc.m kc.j) ?_;clear hS;rintro _ post ⟨rfl,rfl⟩ w hS;try simp only[app]at hS
 rw[zzm hc.may];refine Gp ?_;refine za (λh=>?_) (λh=>absurd hc.e1 h);refine Gp ?_;rw[zzm hc.e2];(exact dW hS)
def Yr{cf:jI}{kc:jD}{n:Nat}(H:bw)(hc:CC cf kc n):SP 8 [agg (q_ cf)] [.mem H] (λv post=>∃(p:nz) (H':bw),H.le H'/\v= .tuple #[fw p.np,.int .i64 0]/\post=[.ob (fI p cf kc H' (Df cf n)),.mem H']):=by
 refine Enzz λW F w hS=>?_;apply vc8;delta JK aI gi ai h_ bI;obtain⟨e1,e2,h0⟩:=jU.first (kc:=kc) hc;obtain⟨tr,xs,hd,RS,RK,hb,ha⟩:=h0;refine zw hS λxb w hS=>?_;refine Gp ?_;refine Cg (bFl hc) λw hS=>?_;refine zu (λh=>by cases h) (λ_=>?_);refine Gn λw hS=>?_;refine Cc (e_y) ?_;clear hS;rintro _ post ⟨dp,rfl,rfl⟩ w hS;(try simp only[app]at hS);refine Gp ?_
 refine Cc (e_z 0) ?_;clear hS;rintro _ post ⟨ck,rfl,rfl⟩ w hS;try simp only[app]at hS
 rw[show vT 0=0 from rfl]at hS
 refine Gp ?_;refine⟨Bg cf (.pointer none) (.pointer none) (.pointer none) (.int .i64 0) (.pointer none) (.pointer none) (.pointer none) (.pointer none) (.pointer none) (.pointer none) (.slice none 0 0) (fw dp) (fw ck),rfl,_,rfl,zD hS λnp w hS=>?_⟩;have ho:∀(base:Int),0<=base->base<=12288->∀d' g,jX lS base cf.size=(d',.ok g)->(gR g.bF).length=0:=λbase b0 b1 d' g e=>by
  rw[Mm b0 b1 hc.s0 hc.s1]at e
  cases e;rfl
 refine Cc (ZU np dp ck cf kc H (Bb n cf.size) (wz n cf.size) 0 hc lS (N:=nJ 0) e1 e2 (Gv _) (Gv _) (by decide) (by decide) (show (0:Nat)<=90000 by decide) (λd' g e=>by rw[ho 16 (by decide) (by decide) d' g e];decide) (λd' g e=>by rw[ho 8192 (by decide) (by decide) d' g e];decide) _ _ _ _ _ _ _ _ _ _ _ (by decide) ⟨ha.pj.l0,hb.mx.uz⟩ hb.mx.may ha.rC) ?_;clear hS;rintro _ post ⟨rfl,q,H3,kT,sW,uS,DP,rfl⟩ w hS;(try simp only[app]at hS);refine Gp ?_
 refine za (λh=>absurd rfl h) (λ_=>?_);have hS:SL W (.ob (fI q cf kc H3 (Df cf n))::_) w:=hS;exact⟨_,⟨q,H3,kT,by rw[sW],rfl⟩,aW hS⟩
section
end
def ie.II{W w:Α}{l F:Ψ}{mp wp:Nat}{H:bw}{m:iK}(hS:SL W l w)(r:lg (.ob (ie mp wp H m)) l F):∃rv,nh H rv m.reqs/\SL W (.pt mp (CQ m wp rv) 121::.ob (iN wp m.dI)::F) w:=ie.iff.1 (hS.perm r.perm)
def Gate.II{W w:Α}{l F:Ψ}{g b cap out:Nat}{L:Θ}(hS:SL W l w)(r:lg (.ob (Gate g b cap out L)) l F):(L.length+out<=cap/\cap<=64)/\SL W (.pt g [.pointer (some ⟨b,0,none⟩),.int .i64 out] 125::.ob (Ring b cap L)::F) w:=Gate.open (hS.perm r.perm)
def Gate.put{W w:Α}{l F:Ψ}{g b cap out:Nat}{L:Θ}(hA:L.length+out<=cap/\cap<=64)(hS:SL W l w)(k:lJ [.pt g [.pointer (some ⟨b,0,none⟩),.int .i64 out] 125,.ob (Ring b cap L)] l F):SL W (.ob (Gate g b cap out L)::F) w:=Gate.close hA (hS.pick k)
section
variable (p:nz) (cf:jI) (kc:jD) (H:bw) (c:dF)
set_option maxHeartbeats 4000000 in
def qZ{N:Nat}(hg:mH c.k.g N)(hN:N<=1000000000)(DR:c.s.L.length+c.s.out<=kc.cap)(FR:c.m.dI.rows.length<=1000):SP 10 [fw p.np] [.ob (fI p cf kc H c),.mem H] (GL p cf kc H c (agg (BS (c.look kc)))):=by
 refine Enzz λW F w hS=>?_;apply gFf;delta NA a_ aR b_ ai;obtain⟨dv,hS⟩:=fI.open hS Xr;obtain⟨ov,nv,hi,hS⟩:=iE.open hS Xr;obtain⟨rv,hr,hS⟩:=ie.II hS Xr;obtain⟨hG,hS⟩:=Gate.II hS Xr;refine Gm λb w hS=>?_;refine yD (vs:=[fw p.wi]) hS Xh rfl (λj v h=>?_) ?_
 ·match j,h with
  | 0,h=>exact h
  | j+1,h=>simp at h
 refine Cg (YD p.wi) λw hS=>?_;have hS:=ie.put c.m rv hr hS Xp;refine Cg (yH p.w.kp p.w.gp p.w.dp p.w.lp p.w.pp H c.s.k) λw hS=>?_;refine Cg (zM p.sp p.tp p.w.dp p.sl c.k hg hN) λw hS=>?_;refine Cg (ZA p.sp p.tp p.w.dp p.sl c.k hg hN) λw hS=>?_;refine Cg (z8 p.ck [] c.now) λw hS=>?_;refine Cg (yR p.mp p.wi H c.m) λw hS=>?_;refine Cg (yQ p.rb kc.cap (c.q.map pk)) λw hS=>?_;refine Cg (yQ p.w.qb kc.cap (c.s.L.map mP)) λw hS=>?_;have hS:=Gate.put hG hS Xp;refine Cg (cWz p.w.qp p.w.qb kc.cap c.s.out (c.s.L.map mP)) λw hS=>?_;refine Cg (zH p.w.qp p.w.qb kc.cap c.s.out (c.s.L.map mP)) λw hS=>?_;obtain⟨rv2,Cv,hS⟩:=ie.II hS Xr;refine Cg (yW p.wi c.m.dI) λw hS=>?_;refine Cc (icm p.wi c.m.dI (by omega)) ?_;clear hS;rintro u post rfl w hS;(try simp only[app]at hS);refine Gp ?_
 refine zt hS Xh ?_;have hS:=ie.put c.m rv2 Cv hS Xp;refine Cg (qP p.w.rp kc.b kc.m kc.j c.s.ll c.s.kB) λw hS=>?_;refine Cg (qR p.w.rp kc.b kc.m kc.j c.s.ll c.s.kB) λw hS=>?_;refine Cg (qX p.bp cf.every c.due c.last) λw hS=>?_;obtain⟨rv3,hr3,hS⟩:=iu.open hS Xr;refine Cg (zK p.w.dp c.s.k.d) λw hS=>?_;have hS:=iu.jT (g:=c.s.k.g) (d:=c.s.k.d) (ts:=c.s.k.ts) (plan:=c.s.k.plan) (aw:=c.s.k.aw) (reqs:=c.s.k.reqs) hS hr3 Xp;have hS:SL W (.ob (iu p.w.kp p.w.gp p.w.dp p.w.lp p.w.pp H c.s.k)::_) w:=hS;have hS:=iE.put c.s hS hi Xp;have hS:=fI.put c hS Xp;exact⟨[.ob (fI p cf kc H c),.mem H],⟨rfl,H,bw.le_refl H,rfl⟩,aW hS⟩
end
def aWg(np:Nat)(cf:jI)(kc:jD)(H:bw)(y:dF × uv)(v:Ω)(post:Ψ):Prop:=v=agg (AO y.2)/\∃(q:nz) (H':bw),H.le H'/\q.np=np/\post=[.ob (fI q cf kc H' y.1),.mem H']
def bRx{cf:jI}{kc:jD}{c:dF}{s:lZ}(hk:s.kind=8):c.lT cf kc s=(c.jO cf s.keep,⟨0,0,0⟩):=by
 have e:c.other cf s=(c.jO cf s.keep,0):=by
  unfold dF.other;rw[zzb (by omega),zzb (by omega),zzb (by omega),zzb (by omega),zzb (by omega),zzc hk]
 unfold dF.lT;rw[zzb (λh=>h.2 hk),zzb (by omega),zzb (by omega),e]
def yt(p:nz)(cf:jI)(kc:jD)(H:bw)(c:dF){n j:Nat}{AL:List fF}(h:CS cf kc n j AL c)(hc:CC cf kc n)(hj:j<=190)(x:sN)(s:lZ)(hx:pq H x s)(hl:s.l.length<=140737488351232)(pQ:s.keep.length<=1000000):SP 12 [fw p.np,agg (oy x)] [.ob (fI p cf kc H c),.mem H] (aWg p.np cf kc H (c.lT cf kc s)):=by
 by_cases hk:s.kind=8
 ·refine (bw4 p cf kc H c h hc hj x s hx hk pQ).mono λv post hq=>?_;obtain⟨e,q,H',hh,h1,_,_,hp⟩:=hq;rw[bRx hk];exact⟨e,q,H',hh,h1,hp⟩
 refine (bw5 p cf kc H c h hc hj x s hx hl hk).mono λv post hq=>?_;obtain⟨e,H',hh,hp⟩:=hq;exact⟨e,p,H',hh,rfl,hp⟩
def q5:SP 39 [agg (q_ ⟨0,0,0,0,0,0,0,0,0,0⟩)] [] (e_ (.bool false) []):=by
 refine Enzz λW F w hS=>?_;apply aF9;delta JH aI a_ cW ai;refine zw hS λxb w hS=>?_;unfold q_ at hS;dsimp only at hS;refine Gn λw hS=>?_;refine yf (by kernel_rfl) (zT 0 1 8) rfl hS Xp ?_;rintro _ post ⟨rfl,rfl⟩ w hS;try simp only[app]at hS
 rw[zzz (p:=(1:Int)<=0/\(0:Int)<=8) (by omega)];refine Gp ?_;(exact dW hS)
def q6:SP 8 [agg (q_ ⟨0,0,0,0,0,0,0,0,0,0⟩)] [] (e_ (.tuple #[.pointer none,.int .i64 1]) []):=by
 refine Enzz λW F w hS=>?_;apply vc8;delta JK aI gi ai h_ bI;refine zw hS λxb w hS=>?_;unfold q_ at hS;dsimp only at hS;refine Gp ?_;refine Cg (q5) λw hS=>?_;refine zq ?_;(exact dW hS)
def eFw{β:Type}{p:Prop}[Decidable p]{q:Bool}{f:Bool->β}{x:β}(h:x=f q):(if p then x else f false)=f (decide p && q):=by
 subst h;by_cases hp:p
 ·rw[zzc hp,zzm hp,vv6]
 rw[zzb hp,zzz hp,uu3]
def eFv{β:Type}{p:Prop}[Decidable p]{f:Bool->β}:(if p then f true else f false)=f (decide p):=by
 by_cases hp:p
 ·rw[zzc hp,zzm hp]
 rw[zzb hp,zzz hp]
def Hj(a b:uv)(w:Α):(Op.equal 43 (agg (AO a)) (agg (AO b))).run Tryz.prog w= .ok (decide (a=b)) w:=by
 refine I0 Tryz.underlying43 (by kernel_rfl) ?_;obtain⟨a1,a2,a3⟩:=a;obtain⟨b1,b2,b3⟩:=b;simp[AO,Op.eqFields,part,wwe (h:=yyx),wwe (h:=yye),wwe (h:=Tryz.underlying27),Result.andThen];by_cases h0:a1=b1<;>by_cases h1:a2=b2<;>by_cases h2:a3=b3<;>simp[*]
def cwb(a b:GR)(w:Α):(Op.equal 39 (agg (BS a)) (agg (BS b))).run Tryz.prog w= .ok (decide (a=b)) w:=by
 refine I0 Tryz.underlying39 (by kernel_rfl) ?_;obtain⟨a1,a2,a3,a4,a5,a6,a7,a8,a9,xK,a11,a12,a13,a14,a15,a16⟩:=a;obtain⟨b1,b2,b3,b4,b5,b6,b7,b8,b9,b10,b11,b12,b13,b14,b15,b16⟩:=b;simp only[GR.mk.injEq];simp[BS,Op.eqFields,part,wwe (h:=yyx),wwe (h:=yye),run_equalIn_bool' (h:=vv1),Result.andThen]
 iterate 15 refine eFw (f:=λx=>Result.ok x w) ?_
 exact eFv (f:=λx=>Result.ok x w)
def fWc{P:Program}{w:Α}{t:Ε}{xs ys:Γ}{p:Prop}[Decidable p]{K:Ω->Prop}(h:(Op.equal t (agg xs) (agg ys)).run P w= .ok (decide p) w)(hK:K (.bool !(decide p))):y1 P t true (agg xs) (agg ys) w K:=⟨xs.toArray,ys.toArray,decide p,rfl,rfl,h,hK⟩
def cwe(a b:Row)(w:Α):(Op.equal 66 (agg (jA a)) (agg (jA b))).run Tryz.prog w= .ok (decide (a=b)) w:=by
 refine I0 Tryz.underlying66 (by kernel_rfl) ?_;obtain⟨k,v⟩:=a;obtain⟨k',v'⟩:=b;simp[jA,Op.eqFields,part,wwe (h:=yyx),wwe (h:=yye),run_equalIn_bool' (h:=vv1),run_equalIn_string (h:=yy1),Result.andThen,toList_inj];by_cases h0:k=k'<;>by_cases h1:v=v'<;>simp[*]
def fw0(a b:Row):SP 90 [agg (jA a),agg (jA b)] [] (e_ (.bool (decide (a=b))) []):=by
 refine Enzz λW F w hS=>?_;apply iby;unfold S1;refine⟨_,rfl,zD hS ?_⟩;clear hS;intro b1 w hS;refine⟨_,rfl,zD hS ?_⟩;clear hS;intro b2 w hS;refine zC hS Xh rfl (zC hS Xh rfl (qH (cwe a b w) ?_));(exact dW hS)
def fFq(H:bw)(u v:Ω)(A B:List Row)(hu:iD H 2 u A.length (A.map jA).flatten)(hv:iD H 2 v B.length (B.map jA).flatten)(hn:A.length<=9223372036854775806):
  SP 36 [u,v] [.mem H] (e_ (.bool (decide (A=B))) [.mem H]):=by
 refine Enzz λW F w hS=>?_;apply iag;unfold R9;refine Cc (f_h nj rfl (λv0 v1 v2 w R h=>ibw v0 v1 v2 w R h) fw0 H u v A B hu hv hn) ?_;clear hS;rintro v post ⟨rfl,rfl⟩ w hS;try simp only[app]at hS
 (exact dW hS)
def fI.nZ{W w:Α}{l F:Ψ}{p:nz}{cf:jI}{kc:jD}{H H':bw}{c:dF}(hh:H.le H')(hS:SL W l w)(r:lg (.ob (fI p cf kc H c)) l F):SL W (.ob (fI p cf kc H' c)::F) w:=fI.mono hh (hS.perm r.perm)
def y8(n:Int):SP 70 [.int .i64 n] [] (e_ (agg [.int .i64 2,.int .i64 n,.slice none 0 0,.slice none 0 0,.int .i64 0,.int .i64 0,.slice none 0 0]) []):=by
 refine Enzz λW F w hS=>?_;apply ibo;delta SR ai bI;refine Gm λb w hS=>?_;(exact dW hS)
def Mx(H:bw)(n:Int):pq H ⟨2,n,.slice none 0 0,.slice none 0 0,oS,.slice none 0 0⟩ (tE n):=⟨rfl,rfl,rfl,iD.nil _ _,iD.nil _ _,iD.nil _ _⟩
def e_x(H:bw):SP 8 [agg [.int .i64 1,.int .i64 0,.int .i64 256,.int .i64 4,.int .i64 2,.int .i64 4,.int .i64 1,.int .i64 8,.int .i64 0,.int .i64 5]] [.mem H] (λv post=>∃(p:nz) (H':bw),H.le H'/\v= .tuple #[fw p.np,.int .i64 0]/\post=[.ob (fI p oN oV H' BF),.mem H']):=Yr H xP
def T0:CS oN oV 1 0 [] BF:=.inl (jU.first (kc:=oV) xP).2.2
def T1:∃AL,CS oN oV 1 1 AL BG:=by
 obtain⟨AL,h,_⟩:=T0.lT xP (by decide) El;exact⟨AL,h⟩
def T2:∃AL,CS oN oV 1 2 AL BH:=by
 obtain⟨AL,h⟩:=T1;obtain⟨AL,h,_⟩:=h.lT xP (by decide) (tE 0);exact⟨AL,h⟩
def bIa:∃AL,CS oN oV 1 3 AL BI:=by
 obtain⟨AL,h⟩:=T2;obtain⟨AL,h,_⟩:=h.lT xP (by decide) (tE 1);exact⟨AL,h⟩
def dA1:BF.lT oN oV El=(BG,⟨0,1,0⟩):=by rw[<- tA1];rfl
def dA2:BG.lT oN oV (tE 0)=(BH,⟨0,0,1⟩):=by rw[<- tA2];rfl
def dA3:BH.lT oN oV (tE 1)=(BI,⟨0,0,2⟩):=by rw[<- tA3];rfl
def dA4:BI.lT oN oV (tE 3)=(BJ,⟨0,0,6⟩):=by rw[<- tA4];rfl
def rwA:rowsOf (vh BJ.s.k.ts 0)=[⟨5,⟨#[97]⟩⟩]:=by decide +kernel
def smA:small BJ.s.k.ts 0:=by
 have h:(BJ.s.k.ts.all λC=>decide (C.length+0<=1000000))=true:=by decide +kernel
 exact λC hC=>zzl (zz5.1 h C hC)
attribute [local irreducible] BF BG BH BI BJ
set_option maxHeartbeats 4000000 in
def YP:SP 14 [] [] (e_ (.bool true) []):=by
 refine Enzz λW F w hS=>?_;apply gIa;delta N6 aI bW a_ b_ cW ai h_ gI bI iU;have hS:=SL.L8 hS;generalize bw.emp=H at hS;refine yT rfl ?_;refine Cc (e_x H) ?_;clear hS;rintro _ post ⟨p,H1,iA,rfl,rfl⟩ w hS;(try simp only[app]at hS);refine Gp ?_
 refine Cg (q6) λw hS=>?_;refine za (λh=>absurd rfl h) (λ_=>?_);refine Gp ?_;refine zp ?_;refine Gp ?_;refine za (λh=>absurd rfl h) (λ_=>?_);refine Gp ?_;refine zL hS (cells:=kQ ⟨0,5,false,⟨#[97]⟩⟩) (by rfl) λcb w hS=>?_;obtain⟨H2,iW,hC,hS⟩:=SL.MG (sz:=4) (H:=H1) hS Xp rfl;have hS:=fI.nZ iW hS Xr;refine Gp ?_;have hxA:pq H2 ⟨1,0,.slice none 0 0,.slice (some ⟨cb,0,none⟩) 1 1,oS,.slice none 0 0⟩ El:=⟨rfl,rfl,rfl,iD.nil _ _,hC,iD.nil _ _⟩;refine Cc (yt p oN oV H2 BF T0 xP (by decide) ⟨1,0,.slice none 0 0,.slice (some ⟨cb,0,none⟩) 1 1,oS,.slice none 0 0⟩ El hxA (by decide) (by decide)) ?_;clear hS;rintro _ post ⟨rfl,q1,H3,kT,xr,rfl⟩ w hS;try simp only[app]at hS
 rw[dA1]at hS ⊢
 dsimp only at hS ⊢;rw[<- xr];refine Gm λb w hS=>?_;refine Cg (y8 0) λw hS=>?_;obtain⟨AL0,Cb⟩:=T1;refine Cc (yt q1 oN oV H3 BG Cb xP (by decide) ⟨2,0,.slice none 0 0,.slice none 0 0,oS,.slice none 0 0⟩ (tE 0) (Mx H3 0) (by decide) (by decide)) ?_;clear hS;rintro _ post ⟨rfl,q2,H4,w_,oB,rfl⟩ w hS;try simp only[app]at hS
 rw[dA2]at hS ⊢
 dsimp only at hS ⊢;rw[<- oB];refine Gm λb w hS=>?_;refine Cg (y8 1) λw hS=>?_;obtain⟨AL1,lP⟩:=T2;refine Cc (yt q2 oN oV H4 BH lP xP (by decide) ⟨2,1,.slice none 0 0,.slice none 0 0,oS,.slice none 0 0⟩ (tE 1) (Mx H4 1) (by decide) (by decide)) ?_;clear hS;rintro _ post ⟨rfl,q3,H5,Hv,hq3,rfl⟩ w hS;try simp only[app]at hS
 rw[dA3]at hS ⊢
 dsimp only at hS ⊢;rw[<- hq3];refine Gm λb w hS=>?_;refine Cg (y8 3) λw hS=>?_;obtain⟨Nl,oz⟩:=bIa;refine Cc (yt q3 oN oV H5 BI oz xP (by decide) ⟨2,3,.slice none 0 0,.slice none 0 0,oS,.slice none 0 0⟩ (tE 3) (Mx H5 3) (by decide) (by decide)) ?_;clear hS;rintro _ post ⟨rfl,q4,H6,U0,hq4,rfl⟩ w hS;try simp only[app]at hS
 rw[dA4]at hS ⊢
 dsimp only at hS ⊢;rw[<- hq4];refine Gm λb w hS=>?_;refine qH (Hj ⟨0,1,0⟩ ⟨0,1,0⟩ w) ?_;refine za (λ_=>?_) (λh=>absurd rfl h);refine Gp ?_;refine qH (Hj ⟨0,0,1⟩ ⟨0,0,1⟩ w) ?_;refine za (λ_=>?_) (λh=>absurd rfl h);refine Gp ?_;refine qH (Hj ⟨0,0,2⟩ ⟨0,0,2⟩ w) ?_;refine za (λ_=>?_) (λh=>absurd rfl h);refine Gp ?_;refine qH (Hj ⟨0,0,6⟩ ⟨0,0,6⟩ w) ?_;refine za (λ_=>?_) (λh=>absurd rfl h);obtain⟨dv,hS⟩:=fI.open hS Xr;obtain⟨ov,nv,hi,hS⟩:=iE.open hS Xr;obtain⟨rv,hr,hS⟩:=iu.open hS Xr;refine Gp ?_;refine Cc (Qs q4.w.gp BJ.s.k.ts 0 smA) ?_;clear hS;rintro u post rfl w hS;try simp only[app]at hS
 rw[rwA]at hS
 have hS:SL W (.ob (lF q4.w.gp BJ.s.k.ts)::.ob (bR u 66 2 [(⟨5,⟨#[97]⟩⟩:Row)].length ([(⟨5,⟨#[97]⟩⟩:Row)].map jA).flatten)::_) w:=hS;refine Gp ?_;refine zL hS (cells:=jA ⟨5,⟨#[97]⟩⟩) (by rfl) λrb w hS=>?_;obtain⟨H7,B5,hA,hS⟩:=SL.MG (sz:=2) (H:=H6) hS Xp rfl;obtain⟨H8,h78,hB,hS⟩:=zz (H:=H7) (v:=u) hS Xp;refine Cc (fFq H8 u (.slice (some ⟨rb,0,none⟩) 1 1) [⟨5,⟨#[97]⟩⟩] [⟨5,⟨#[97]⟩⟩] hB (hA.mono h78) (by decide)) ?_;clear hS;rintro _ post ⟨rfl,rfl⟩ w hS;try simp only[app]at hS
 rw[zzm (p:=([(⟨5,⟨#[97]⟩⟩:Row)]=[⟨5,⟨#[97]⟩⟩])) rfl];exact dW hS
def Hc(s:Β)(n:Nat):Β:=s.extract 0 (min s.size n)
def qh(s:Β)(n:Nat):SP 151 [.string s,.int .i64 n] [] (e_ (.string (Hc s n)) []):=by
 refine Enzz λW F w hS=>?_;apply gIm;unfold Og;refine Gp ?_;rw[show min (s.size:Int) (n:Int)=((min s.size n:Nat):Int) by omega];refine⟨s,0,min s.size n,rfl,⟨.i64,rfl⟩,rfl,zz8 _,Nat.min_le_left _ _,?_⟩;(exact dW hS)
def nI(c:jB)(k:Nat):jB:=⟨md c.table k,if md c.key 31=30 then ((1+md c.key 1099511627776:Nat):Int) else ((1+md c.key 12:Nat):Int),c.gone,if c.gone then ⟨#[]⟩ else Hc c.val 32⟩
def qd(c:jB)(k:Nat)(h1:0<k)(h2:k<=8):SP 99 [agg (kQ c),.int .i64 k] [] (e_ (agg (kQ (nI c k))) []):=by
 refine Enzz λW F w hS=>?_;apply ib5;delta S8 aI a_ aR gi ai gI;obtain⟨table,key,gone,val⟩:=c;refine⟨_,rfl,zD hS ?_⟩;clear hS;intro p w hS;refine zD hS ?_;clear hS;intro q w hS;simp only[kQ]at hS;have igc:=mj key 12 (by decide);have hmb:=mj key 1099511627776 (by decide);have Ld:(1:Int)+(md key 12:Int)=((1+md key 12:Nat):Int):=by omega
 have hmf:(1:Int)+(md key 1099511627776:Int)=((1+md key 1099511627776:Nat):Int):=by omega
 refine⟨λus w=>∃x:Nat,us=[.pointer (some ⟨x,0,none⟩)]/\SL W (.pt x [.int .i64 (md table k:Nat),.int .i64 ((1+md key 12:Nat):Int),.bool gone,.string ⟨#[]⟩] 56::.pt q [.int .i64 0,.int .i64 0,.bool false,.string ⟨#[]⟩] 56::.pt p [.int .i64 table,.int .i64 key,.bool gone,.string val] 56::F) w,?_,?_⟩
 ·refine yw hS ?_;clear hS;intro w hS;refine Gp ?_;refine⟨?_,?_⟩
  ·refine Cg (yj table k h1 (by omega)) λw hS=>?_;refine⟨?_,?_⟩
   ·refine Cg (zO key 12 (by decide) (by decide)) λw hS=>?_;refine Gm λb w hS=>?_;rw[Ld]at hS
    exact⟨_,rfl,aW hS⟩
   refine Gm λb w hS=>?_;refine Cg (zO key 12 (by decide) (by decide)) λw hS=>?_;rw[Ld]at hS
   exact⟨_,rfl,aW hS⟩
  refine Gm λb w hS=>?_;refine Cg (yj table k h1 (by omega)) λw hS=>?_;refine Cg (zO key 12 (by decide) (by decide)) λw hS=>?_;rw[Ld]at hS
  exact⟨_,rfl,aW hS⟩
 clear hS;rintro v5 w ⟨x,gW,hS⟩;cases gW;refine⟨λus w=>us=[]/\SL W (.pt x [.int .i64 (md table k:Nat),.int .i64 (nI ⟨table,key,gone,val⟩ k).key,.bool gone,.string ⟨#[]⟩] 56::.pt q [.int .i64 0,.int .i64 0,.bool false,.string ⟨#[]⟩] 56::.pt p [.int .i64 table,.int .i64 key,.bool gone,.string val] 56::F) w,?_,?_⟩
 ·refine Gp ?_;refine Cg (zO key 31 (by decide) (by decide)) λw hS=>?_;refine za (λh=>?_) (λh=>?_)
  ·have hk:(nI ⟨table,key,gone,val⟩ k).key=((1+md key 1099511627776:Nat):Int):=by unfold nI;simp only;rw[zzc (by omega)]
   rw[hk];refine Gp ?_;refine Cg (zO key 1099511627776 (by decide) (by decide)) λw hS=>?_;rw[hmf]at hS
   exact aW hS
  have hk:(nI ⟨table,key,gone,val⟩ k).key=((1+md key 12:Nat):Int):=by unfold nI;simp only;rw[zzb (by omega)]
  rw[hk];exact⟨rfl,aW hS⟩
 clear hS;rintro w ⟨-,hS⟩;refine Gp ?_;cases gone with
 | true=>
  refine zp ?_;refine Gn λw hS=>?_;have e:kQ (nI ⟨table,key,true,val⟩ k)=[.int .i64 (md table k:Nat),.int .i64 (nI ⟨table,key,true,val⟩ k).key,.bool true,.string ⟨#[]⟩]:=rfl;rw[e];(exact dW hS)
 | false=>
  refine zq ?_;refine Gp ?_;refine Cg (qh val 32) λw hS=>?_;have e:kQ (nI ⟨table,key,false,val⟩ k)=[.int .i64 (md table k:Nat),.int .i64 (nI ⟨table,key,false,val⟩ k).key,.bool false,.string (Hc val 32)]:=rfl;rw[e];(exact dW hS)
def cIe(c:jB)(z:Γ)(hz:z.length=4):mq (fR z 1) [(0,4,agg (kQ c))]=some (kQ c):=by
 simp[mq,fR,Value.cells,kQ,hz]
def Ym(H:bw)(v:Ω)(l:List jB)(k fW:Nat)(hv:iD H 4 v l.length (l.map kQ).flatten)(h1:0<k)(h2:k<=8)(hm:fW<=1000)(hn:l.length<=140737488351232):
  SP 43 [v,.int .i64 k,.int .i64 fW] [.mem H] (λu post=>post=[.ob (bR u 56 4 ((l.take fW).map (nI · k)).length (((l.take fW).map (nI · k)).map kQ).flatten),.mem H]):=by
 refine Enzz λW F w hS=>?_;apply iay;delta Sn aI ai gI bI;refine⟨λus w=>∃(m:Nat) (u:Ω),us=[u,.int .i64 m]/\m<=l.length/\m<=fW/\SL W (.ob (bR u 56 4 m ((((l.take m).map (nI · k)).map kQ).flatten))::.mem H::F) w,
  λus _=>match us with|[_,.int _ m]=>(l.length-m).toNat|_=>0,⟨0,_,rfl,by omega,by omega,bR.nil hS⟩,?_⟩
 clear hS;rintro v7 v8 w ⟨m,u,gW,rQ,A6,hS⟩;cases gW;have lU:∀w,(m=l.length\/m=fW)->SL W (.ob (bR v7 56 4 m ((((l.take m).map (nI · k)).map kQ).flatten))::.mem H::F) w ->
   ∃post,(post=[.ob (bR v7 56 4 ((l.take fW).map (nI · k)).length (((l.take fW).map (nI · k)).map kQ).flatten),.mem H])/\SL W (app post F) w:=λw he hS=>by
  have ht:l.take m=l.take fW:=by
   rcases he with rfl|rfl
   ·rw[zz1,zz2 (by omega)]
   rfl
  have hl:m=((l.take fW).map (nI · k)).length:=by rw[<- ht,zzs,zzf];omega
  rw[ht,hl]at hS
  exact⟨_,rfl,hS⟩
 refine zo hv ?_;refine Gp ?_;refine za (λh=>?_) (λh=>lU w (.inl (by omega)) hS);refine Gp ?_;refine za (λh3=>?_) (λh3=>lU w (.inr (by omega)) hS);have d_:m<l.length:=by omega
 refine zE hS Xh wW hv (x:=l[m]) (by simp[d_]) d_ ?_;refine Cc (qd l[m] k h1 h2) ?_;clear hS;rintro v26 post ⟨rfl,rfl⟩ w hS;try simp only[app]at hS
 refine zL hS (cIe (nI l[m] k) [.int .i64 0,.int .i64 0,.bool false,.string ⟨#[]⟩] rfl) ?_;clear hS;intro b w hS;refine zI (n:=m) (m:=1) hS Xr (oG (cs:=kQ (nI l[m] k)) hS .hd rfl) rfl rfl (Us _) (by omega) (by omega) ?_;clear hS;intro u' w hS;refine Gp ?_;have e:(l.take (m+1)).map (nI · k)=(l.take m).map (nI · k)++[nI l[m] k]:=by rw[zze d_,zzt];rfl
 refine⟨⟨m+1,u',rfl,(by omega),(by omega),(by rw[e,AT];exact aW hS)⟩,(by dsimp only;omega)⟩
def YQ(H:bw)(v:Ω)(l:List jB)(k fW:Nat)(hv:iD H 4 v l.length (l.map kQ).flatten)(h1:0<k)(h2:k<=8)(hm:fW<=1000)(hn:l.length<=140737488351232):
  SP 43 [v,.int .i64 k,.int .i64 fW] [.mem H] (λu post=>∃H',H.le H'/\iD H' 4 u ((l.take fW).map (nI · k)).length (((l.take fW).map (nI · k)).map kQ).flatten/\post=[.mem H']):=by
 intro W F w hS;refine zQ.mono (Ym H v l k fW hv h1 h2 hm hn W F w hS) ?_;rintro u w ⟨post,rfl,hS⟩;have hS:SL W (_::.mem H::F) w:=hS;obtain⟨H2,iW,hR,hS⟩:=zz (H:=H) (v:=u) hS Xp;exact⟨_,⟨H2,iW,hR,rfl⟩,hS⟩
def f_p(s:Β)(k:Nat)(h1:0<k)(h2:k<=8):SP 100 [.string s,.int .i64 k] [] (λv post=>∃r,v= .string r/\r.size<=40/\post=[]):=by
 refine Enzz λW F w hS=>?_;apply gFg;delta NB aI ai;refine Gp ?_;refine za (λh=>⟨_,⟨_,rfl,by decide,rfl⟩,hS⟩) (λh=>?_);have kV:0<s.size:=by
  rcases yy8 s.size with h0|h0
  ·refine absurd ?_ h;obtain⟨⟨l⟩⟩:=s;have:l=[]:=zzo h0;subst this;rfl
  exact h0
 refine awn (j:=0) yy1 kV ?_;generalize s[0]=b;have hb:b.toNat<256:=b.toNat_lt;generalize b.toNat=n at hb;refine yv (by omega) ?_;refine ZL (by decide) ?_;refine cF (λh3=>?_) (λh3=>?_)
 ·refine Cg (qh s 40) λw hS=>?_;exact⟨_,⟨_,rfl,by unfold Hc;rw[ByteArray.size_extract];omega,rfl⟩,hS⟩
 refine awh (by decide) (by rw[ww1 (by omega)];omega) ?_;rw[show (n:Int).tdiv 4=((n / 4:Nat):Int) by rw[ww1 (by omega)];omega];refine QP h1 ?_;have hk:n / 4 % k<8:=Nat.lt_of_lt_of_le (vvh _ h1) h2;refine Gp ?_;refine zW ?_;generalize hx:IntKind.u8.wrap (48+((n / 4 % k:Nat):Int))=x;refine zL hS (cells:=[.int .u8 x]) (by simp[mq,fR,Value.cells]) ?_;clear hS;intro b1 w hS;refine YJ hS .hd xxm yy1 wwj ?_;generalize hA:(⟨#[UInt8.ofNat x.toNat]⟩:Β)=A;have Hx:A.size=1:=by rw[<- hA];rfl
 refine QL (by rw[Hx];decide) ?_;generalize hB:(⟨#[115,110,97,112,115,104,111,116,32]⟩:Β)++A=B;have U2:B.size<=10:=by rw[<- hB,uuq,Hx];decide
 refine ZL (by decide) ?_;refine Gp ?_;refine za (λh4=>?_) (λh4=>⟨_,⟨_,rfl,by omega,rfl⟩,aW hS⟩);refine QL (yyw (uuu U2 _) (by decide)) ?_;generalize hC:B++(⟨#[32]⟩:Β)=C;have hCs:C.size<=11:=by rw[<- hC,uuq];exact uuu U2 _
 refine awh (by decide) (by rw[ww1 (by omega)];omega) ?_;rw[show (n:Int).tdiv 16=((n / 16:Nat):Int) by rw[ww1 (by omega)];omega];refine ZL (by decide) ?_;rw[show ((n / 16:Nat):Int).tmod 8=((n / 16 % 8:Nat):Int) by rw[xxt (by omega)];omega];refine Gp ?_;refine zW ?_;generalize IntKind.u8.wrap (49+((n / 16 % 8:Nat):Int))=y;refine zL hS (cells:=[.int .u8 y]) (by simp[mq,fR,Value.cells]) ?_;clear hS;intro b2 w hS;refine YJ hS .hd xxm yy1 wwj ?_;refine QL (yyw (uuu hCs _) (by show 11+1<=1000000;decide)) ?_;exact⟨_,⟨_,rfl,by rw[uuq];show C.size+1<=40;omega,rfl⟩,aW hS⟩
def f_q(H:bw)(v:Ω)(l:Θ)(k fW:Nat)(hv:iD H 1 v l.length (l.map Value.string))(h1:0<k)(h2:k<=8)(hm:fW<=1000)(hn:l.length<=140737488351232):
  SP 44 [v,.int .i64 k,.int .i64 fW] [.mem H] (λu post=>∃(H':bw) (rs:Θ),H.le H'/\rs.length<=fW/\(∀s∈rs,s.size<=40)/\iD H' 1 u rs.length (rs.map Value.string)/\post=[.mem H']):=by
 refine Enzz λW F w hS=>?_;apply iaz;delta Sp aI ai gI bI;refine⟨λus w=>∃(m:Nat) (u:Ω) (rs:Θ),us=[u,.int .i64 m]/\m<=l.length/\rs.length=m/\m<=fW/\(∀s∈rs,s.size<=40)/\SL W (.ob (bR u 9 1 m (rs.map Value.string))::.mem H::F) w,
  λus _=>match us with|[_,.int _ m]=>(l.length-m).toNat|_=>0,⟨0,_,[],rfl,by omega,rfl,by omega,by simp,bR.nil hS⟩,?_⟩
 clear hS;rintro v7 v8 w ⟨m,u,rs,gW,rQ,FV,A6,Ky,hS⟩;cases gW;have lU:∀w,SL W (.ob (bR v7 9 1 m (rs.map Value.string))::.mem H::F) w ->
   ∃post,(∃(H':bw) (rs:Θ),H.le H'/\rs.length<=fW/\(∀s∈rs,s.size<=40)/\iD H' 1 v7 rs.length (rs.map Value.string)/\post=[.mem H'])/\SL W (app post F) w:=λw hS=>by
  obtain⟨H2,iW,hR,hS⟩:=zz (H:=H) (v:=v7) hS Xp;rw[<- FV]at hR
  exact⟨_,⟨H2,rs,iW,by omega,Ky,hR,rfl⟩,hS⟩
 refine zo hv ?_;refine Gp ?_;refine za (λh=>?_) (λh=>lU w hS);refine Gp ?_;refine za (λh3=>?_) (λh3=>lU w hS);clear lU;have d_:m<l.length:=by omega
 refine yU hS Xh hv d_ (u:=.string l[m]) (by simp[d_]) ?_;refine Cc (f_p l[m] k h1 h2) ?_;clear hS;rintro v26 post ⟨r,rfl,dWo,rfl⟩ w hS;refine Gm λb w hS=>?_;refine zI (n:=m) (m:=1) hS Xr (oG (cs:=[.string r]) hS .hd rfl) rfl rfl (by simp[Value.oneCell']) (by omega) (by omega) ?_;clear hS;intro u' w hS;refine Gp ?_;refine⟨⟨m+1,u',rs++[r],rfl,(by omega),(by simp[FV]),(by omega),(λs hs=>by
  rcases zz0.1 hs with hs|hs
  ·exact Ky s hs
  rw[zz3.1 hs];exact dWo),(by rw[zzt,zzn,yy4];exact aW hS)⟩,(by dsimp only;omega)⟩
def eIs(H:bw)(v:Ω)(l:Ξ)(fW:Nat)(hv:iD H 1 v l.length (l.map (Value.int .i64)))(hm:fW<=1000)(hn:l.length<=140737488351232):
  SP 16 [v,.int .i64 fW] [.mem H] (λu post=>∃(H':bw) (rs:Ξ),H.le H'/\rs.length<=fW/\iD H' 1 u rs.length (rs.map (Value.int .i64))/\post=[.mem H']):=by
 refine Enzz λW F w hS=>?_;apply gIv;delta Ot aI ai bI;refine⟨λus w=>∃(m:Nat) (u:Ω) (rs:Ξ),us=[u,.int .i64 m]/\m<=l.length/\rs.length=m/\m<=fW/\SL W (.ob (bR u 3 1 m (rs.map (Value.int .i64)))::.mem H::F) w,
  λus _=>match us with|[_,.int _ m]=>(l.length-m).toNat|_=>0,⟨0,_,[],rfl,by omega,rfl,by omega,bR.nil hS⟩,?_⟩
 clear hS;rintro v7 v8 w ⟨m,u,rs,gW,rQ,FV,A6,hS⟩;cases gW;have lU:∀w,SL W (.ob (bR v7 3 1 m (rs.map (Value.int .i64)))::.mem H::F) w ->
   ∃post,(∃(H':bw) (rs:Ξ),H.le H'/\rs.length<=fW/\iD H' 1 v7 rs.length (rs.map (Value.int .i64))/\post=[.mem H'])/\SL W (app post F) w:=λw hS=>by
  obtain⟨H2,iW,hR,hS⟩:=zz (H:=H) (v:=v7) hS Xp;rw[<- FV]at hR
  exact⟨_,⟨H2,rs,iW,by omega,hR,rfl⟩,hS⟩
 refine zo hv ?_;refine Gp ?_;refine za (λh=>?_) (λh=>lU w hS);refine Gp ?_;refine za (λh3=>?_) (λh3=>lU w hS);clear lU;have d_:m<l.length:=by omega
 refine yU hS Xh hv d_ (u:=.int .i64 l[m]) (by simp[d_]) ?_;refine Cg (yj l[m] 200 (by decide) (by decide)) λw hS=>?_;refine Gm λb w hS=>?_;refine zI (n:=m) (m:=1) hS Xr (oG (cs:=[.int .i64 (md l[m] 200:Int)]) hS .hd rfl) rfl rfl (by simp[Value.oneCell']) (by omega) (by omega) ?_;clear hS;intro u' w hS;refine Gp ?_;refine⟨⟨m+1,u',rs++[(md l[m] 200:Int)],rfl,(by omega),(by simp[FV]),(by omega),(by rw[zzt,zzn,yy4];exact aW hS)⟩,(by dsimp only;omega)⟩
structure Jt(s:lZ):Prop where
 kind:1<=s.kind/\s.kind<=8
 n:0<=s.n/\s.n<=40
 pick:s.kind=2->s.n<5
 l:s.l.length<=4
 sg:s.sg.length<=1
 keep:s.keep.length<=20
def Z4(H:bw)(x:sN)(s:lZ)(k:Nat)(hx:pq H x s)(h1:0<k)(h2:k<=8)(l1:s.sg.length<=140737488351232)(l2:s.l.length<=140737488351232)(l3:s.keep.length<=140737488351232):
  SP 9 [agg (oy x),.int .i64 k] [.mem H] (λv post=>∃(H':bw) (y:sN) (t:lZ),H.le H'/\v=agg (oy y)/\pq H' y t/\Jt t/\post=[.mem H']):=by
 refine Enzz λW F w hS=>?_;apply vc9;delta S0 aI a_ aR ai bI;obtain⟨e1,e2,e3,DV,wk,K_⟩:=hx;refine zw hS λxb w hS=>?_;unfold oy at hS;rw[e1,e2,e3]at hS
 have hk:=mj s.kind 24 (by decide);have nl:∀(H:bw) (sz:Nat),iD H sz (.slice none 0 0) 0 []:=iD.nil;refine Gm λb w hS=>?_;refine Cg (yj s.kind 24 (by decide) (by decide)) λw hS=>?_;refine za (λh5=>?_) (λh5=>?_)
 ·refine Gn λw hS=>?_;refine Cc (YQ H x.cv s.l k 4 wk h1 h2 (by decide) l2) ?_;clear hS;rintro u post ⟨H1,iA,hR,rfl⟩ w hS;(try simp only[app]at hS);refine Gp ?_
  refine Cc (f_q H1 x.sv s.sg k 1 (DV.mono iA) h1 h2 (by decide) l1) ?_;clear hS;rintro u2 post ⟨H2,rs,iW,A',_,uK,rfl⟩ w hS;try simp only[app]at hS
  obtain⟨a1,n1,c1,rfl⟩:=hR.LR;obtain⟨a2,n2,c2,rfl⟩:=uK.LR;refine Gn λw hS=>?_;refine⟨_,⟨H2,⟨1,0,.slice a2 n2 c2,.slice a1 n1 c1,oS,.slice none 0 0⟩,⟨1,0,rs,(s.l.take 4).map (nI · k),oS,[]⟩,bw.le_trans iA iW,rfl,⟨rfl,rfl,rfl,uK,hR.mono iW,nl _ _⟩,⟨⟨show (1:Int)<=1 by decide,show (1:Int)<=8 by decide⟩,⟨show (0:Int)<=0 by decide,show (0:Int)<=40 by decide⟩,λh=>absurd h (show ¬(1:Int)=2 by decide),?_,A',zz8 _⟩,rfl⟩,aW hS⟩;show ((s.l.take 4).map (nI · k)).length<=4;rw[zzs,zzf];omega
 refine Gp ?_;have mk:∀(kd nn:Int) (ft:kY),1<=kd->kd<=8->0<=nn->nn<=40->(kd=2->nn<5)->pq H ⟨kd,nn,.slice none 0 0,.slice none 0 0,ft,.slice none 0 0⟩ ⟨kd,nn,[],[],ft,[]⟩/\Jt ⟨kd,nn,[],[],ft,[]⟩:=λkd nn ft a1 a2 a3 a4 a5=>⟨⟨rfl,rfl,rfl,nl _ _,nl _ _,nl _ _⟩,⟨⟨a1,a2⟩,⟨a3,a4⟩,a5,zz8 _,zz8 _,zz8 _⟩⟩;refine za (λh6=>?_) (λh6=>?_)
 ·refine Gp ?_;refine Cg (zO s.n 5 (by decide) (by decide)) λw hS=>?_;have hb:=mj s.n 5 (by decide);obtain⟨m1,m2⟩:=mk 2 (md s.n 5:Int) oS (by decide) (by decide) (by omega) (by omega) (λ_=>by omega);exact⟨_,⟨H,⟨2,(md s.n 5:Int),.slice none 0 0,.slice none 0 0,oS,.slice none 0 0⟩,_,bw.le_refl H,rfl,m1,m2,rfl⟩,aW hS⟩
 refine cF (λh7=>?_) (λh7=>?_)
 ·refine Gp ?_;refine yD (vs:=mK s.ft) hS Xh rfl (λj v h=>?_) ?_
  ·match j,h with
   | 0,h=>exact h
   | 1,h=>exact h
   | j+2,h=>simp[mK]at h
  refine Cg (qx s.ft) λw hS=>?_;unfold mK;refine Gn λw hS=>?_;obtain⟨m1,m2⟩:=mk 3 0 (Fi s.ft) (by decide) (by decide) (by decide) (by decide) (λh=>absurd h (by decide));exact⟨_,⟨H,⟨3,0,.slice none 0 0,.slice none 0 0,Fi s.ft,.slice none 0 0⟩,_,bw.le_refl H,rfl,m1,m2,rfl⟩,aW hS⟩
 refine cF (λh8=>?_) (λh8=>?_)
 ·refine Gp ?_;have hb:=mj s.n 5 (by decide);refine Cg (zO s.n 5 (by decide) (by decide)) λw hS=>?_;obtain⟨m1,m2⟩:=mk 4 (1+(md s.n 5:Int)) oS (by decide) (by decide) (by omega) (by omega) (λh=>absurd h (by decide));exact⟨_,⟨H,⟨4,1+(md s.n 5:Int),.slice none 0 0,.slice none 0 0,oS,.slice none 0 0⟩,_,bw.le_refl H,rfl,m1,m2,rfl⟩,aW hS⟩
 refine cF (λh9=>?_) (λh9=>?_)
 ·refine Gp ?_;refine Cg (zO s.n 40 (by decide) (by decide)) λw hS=>?_;have hb:=mj s.n 40 (by decide);obtain⟨m1,m2⟩:=mk 5 (md s.n 40:Int) oS (by decide) (by decide) (by omega) (by omega) (λh=>absurd h (by decide));exact⟨_,⟨H,⟨5,(md s.n 40:Int),.slice none 0 0,.slice none 0 0,oS,.slice none 0 0⟩,_,bw.le_refl H,rfl,m1,m2,rfl⟩,aW hS⟩
 refine cF (λAW=>?_) (λAW=>?_)
 ·refine Gn λw hS=>?_;obtain⟨m1,m2⟩:=mk 6 0 oS (by decide) (by decide) (by decide) (by decide) (λh=>absurd h (by decide));exact⟨_,⟨H,⟨6,0,.slice none 0 0,.slice none 0 0,oS,.slice none 0 0⟩,_,bw.le_refl H,rfl,m1,m2,rfl⟩,aW hS⟩
 refine cF (λDv=>?_) (λDv=>?_)
 ·refine Gp ?_;have hb:=mj s.n 4 (by decide);refine Cg (zO s.n 4 (by decide) (by decide)) λw hS=>?_;obtain⟨m1,m2⟩:=mk 7 (1+(md s.n 4:Int)) oS (by decide) (by decide) (by omega) (by omega) (λh=>absurd h (by decide));exact⟨_,⟨H,⟨7,1+(md s.n 4:Int),.slice none 0 0,.slice none 0 0,oS,.slice none 0 0⟩,_,bw.le_refl H,rfl,m1,m2,rfl⟩,aW hS⟩
 refine Gp ?_;refine Cc (eIs H x.kv s.keep 20 K_ (by decide) l3) ?_;clear hS;rintro u post ⟨H1,rs,iA,A',hR,rfl⟩ w hS;try simp only[app]at hS
 obtain⟨a1,n1,c1,rfl⟩:=hR.LR;refine Gn λw hS=>?_;exact⟨_,⟨H1,⟨8,0,.slice none 0 0,.slice none 0 0,oS,.slice a1 n1 c1⟩,⟨8,0,[],[],oS,rs⟩,iA,rfl,⟨rfl,rfl,rfl,nl _ _,nl _ _,hR⟩,⟨⟨show (1:Int)<=8 by decide,show (8:Int)<=8 by decide⟩,⟨show (0:Int)<=0 by decide,show (0:Int)<=40 by decide⟩,λh=>absurd h (show ¬(8:Int)=2 by decide),zz8 _,zz8 _,A'⟩,rfl⟩,aW hS⟩
