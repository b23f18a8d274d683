/- Part. -/
import Derived.Test.YtgfbifafbkkghaaGreatDoorJ2
import Derived.Test.YtgfbifafbkkghaaGreatDoorQLay
import Derived.Test.YtgfbifafbkkghaaGreatDoorQVcA
namespace Go.Proofs.YtgfbifafbkkghaaGreatDoor
set_option linter.all false
open Go.RowKit Go.Maps Go.Sort Go.Shelf Go.Proofs.Tryz
def yyl:=@congrArg
def uu2:=@callsIn_wide
def xx8:=@List.length_filter_le
def ww5:=@List.filter_cons_of_pos
def vvc:=@List.filter_eq_nil_iff
def ww6:=@List.filter_cons_of_neg
def zzi:=@List.getElem_mem
def xx7:=@List.pairwise_iff_getElem
def yy5:=@List.mem_iff_getElem
def xxl:=@List.set_eq_take_append_cons_drop
def yyi:=@List.length_set
def xxr:=@List.getElem_set
def yyb:=@List.mem_append
def uuu:=@List.pairwise_map
def vv6:=@List.getElem_cons_zero
def vv3:=@List.eraseIdx_cons_succ
def yyh:=@List.length_map
def vvk:=@List.getElem?_map
def xxi:=@List.mem_of_mem_take
def wwi:=@List.nodup_cons
def uuv:=@Option.some.injEq
def vv7:=@true_and
def vvh:=@List.perm_append_comm
def vvo:=@List.map_set
def vv8:=@List.ext_getElem?
def yye:=@Nat.zero_le
def xx3:=@Nat.le_trans
def zz9:=@underlying3
def vvx:=@Int.emod_nonneg
def ww7:=@IntKind.wrap_u64
def zzq:=@List.cons_append
def zzp:=@List.nil_append
def wwr:=@underlying172
def vvd:=@Option.map_none
def ww8:=@Option.getD_none
def yyn:=@Option.map_some
def xx9:=@Option.getD_some
def wwe:=@List.set_append_left
def vvi:=@List.set_append_right
def yyg:=@List.length_singleton
def uup:=@UInt8.toNat_ofNat'
def ww9:=@List.drop_left
def uuq:=@List.take_left
def wwz:=@List.foldl_append
def uuk:=@Nat.two_pow_pos
def uu5:=@List.foldl_nil
def zz4:=@List.append_nil
def uu6:=@List.take_zero
def wwa:=@Nat.not_lt
def uuf:=@List.mem_of_getLast?
def vv9:=@List.getElem_cons_succ
def vve:=@List.dropLast_concat_getLast
def wwf:=@List.getLast?_concat
def zzx:=@List.map_append
def xxa:=@List.map_nil
def zz8:=@List.mem_singleton
def yyv:=@Int.le_refl
def xxq:=@List.find?_cons
def vvs:=@List.mem_or_eq_of_mem_set
def yyd:=@decide_eq_decide
def wwb:=@Int.natCast_nonneg
def p5{α:Type}(m:List (Int × α)):Ω:=(m.map (·.1)).mergeSort (λx y=>decide (x<=y))
section
variable {W w:Ζ} {l:Β} {P:Program} {ρ σ:Ren} {b:Nat} {α:Type} {val:α->Ε} {m:List (Int × α)}
def SL.kept{w':Ζ}(h:SL W l w)(hb:Below w.heap.size w w'):SL W l w':=by
 obtain⟨a1,a2,a3,k,s,x⟩:=h;refine⟨hb.os.trans a1,hb.tape.trans a2,hb.output.trans a3,k,s,λb o e=>?_⟩;have e1:=x b o e;rw[hb.block b (yyu.1 e1).1];exact e1
def SL.Vw{w':Ζ}{g:Nat}{cs:Ξ}{t:Ι}(h:SL W l w)(hb:Below w.heap.size w w')(hg:w.heap.size<=g)(he:w'.heap[g]?=some (.cells cs.toArray t (0,0))):SL W (.pt g cs t::l) w':=by
 obtain⟨a1,a2,a3,k,s,x⟩:=h;have hk:k g=none:=by
  cases hx:k g with
  | none=>rfl
  | some y=>have:=(yyu.1 (x g y hx)).1;omega
 refine⟨hb.os.trans a1,hb.tape.trans a2,hb.output.trans a3,λy=>if y=g then some (.cells cs.toArray t (0,0)) else k y,⟨aX.one g (.cells cs.toArray t (0,0)),k,λy=>?_,⟨(0,0),.inl rfl,rfl⟩,s⟩,λy o e=>?_⟩
 ·by_cases hy:y=g
  ·subst hy;exact .inr ⟨hk,by simp[aX.one]⟩
  exact .inl ⟨by simp[aX.one,hy],by simp[hy]⟩
 by_cases hy:y=g
 ·subst hy;simp at e;rw[he,e]
 simp[hy]at e
 have e1:=x y o e;rw[hb.block y (yyu.1 e1).1];exact e1
def SL.Vx{w':Ζ}{v:Ε}{n:Nat}{t:Ι}{xs:Ξ}(h:SL W l w)(hb:Below w.heap.size w w')(hr:w'.ownsRow w.heap.size t 1 v n xs):SL W (.ob (aY v t 1 n xs)::l) w':=by
 obtain⟨hx,h2⟩:=hr;rcases h2 with ⟨rfl,rfl⟩|⟨g,cap,cur,rfl,hg,he,h3,h4,h5,h6⟩
 ·obtain rfl:xs=[]:=zzm (by simpa using hx);exact aY.nil (h.kept hb)
 refine aY.mk (rest:=cur.toList.drop (n*1)) h3 hx ?_ (h.Vw hb hg ?_)
 ·rw[zz0,Array.length_toList,h5,xx6]
 rw[<- h6,yyk];exact he
def XB{H:Type}{kt:Ι}(C1:P.underlying kt=some (.int .i64))(hS:SL W l w)(hm:Has (.ob (cM (Value.int .i64) val b m)) l)(hlen:m.length<=maxLen)(vN:∀p∈m,(Lit.int .i64 p.1).wf=true):
  ∃D:DataW H,w.ownsMap P kt (λ_=>some (.nil,[])) b m.length D/\(intKeys D).Perm (m.map (·.1))/\Maps.size D=m.length:=by
 obtain⟨es,c,e1,e2,hb⟩:=hS.r9 hm;have hl:es.length=m.length:=by simpa using yyl List.length e1
 have rP:∀x∈es,∃p∈m,x.key= .int .i64 p.1:=λx hx=>by
  have:kv x∈es.map kv:=zz1.2 ⟨x,hx,rfl⟩;rw[e1]at this
  obtain⟨p,hp,hq⟩:=zz1.1 this;exact⟨p,hp,(Prod.mk.inj hq).1.symm⟩
 have bU:∀x∈es,∀a,x.key= .int .i64 a->WideElems.rd P kt (λ_=>some ((.nil:DataW H),[])) x=some (.int .i64 a,.nil):=λx hx a ha=>by
  obtain⟨p,hp,hq⟩:=rP x hx;rw[ha]at hq;cases hq
  have hw:=vN p hp;simp[WideElems.rd,keyOf,C1,mapKey,ha,hw]
 refine⟨_,⟨es.toArray,c,hb,⟨by simpa [hl] using hlen,e2,λx hx=>?_⟩,by simp[hl],rfl⟩,?_,?_⟩
 ·obtain⟨p,hp,hq⟩:=rP x (by simpa using hx);exact⟨_,bU x (by simpa using hx) _ hq⟩
 ·show (List.map (λp:Lit × DataW H=>Go.intOf p.1) _).Perm _;refine ((WideShapes.sorted_perm _).map _).trans ?_;rw[xxj];have:es.map ((λp:Lit × DataW H=>Go.intOf p.1)∘WideElems.rg P kt (λ_=>some ((.nil:DataW H),[])))=m.map (·.1):=by
   have h1:es.map ((λp:Lit × DataW H=>Go.intOf p.1)∘WideElems.rg P kt (λ_=>some ((.nil:DataW H),[])))=(es.map kv).map λq=>match q.1 with | .int _ a=>a|_=>0:=by
    rw[xxj];refine List.map_congr_left λx hx=>?_;obtain⟨p,hp,hq⟩:=rP x hx;simp[WideElems.rg_of (bU x hx _ hq),kv,hq,Go.intOf]
   rw[h1,e1,xxj];rfl
  simpa using this▸List.Perm.refl _
 rw[Maps.size_eq,(WideShapes.sorted_perm _).length_eq];simp[hl]
def VA(L7:SlLaysZI.n7 P ρ)(L6:SlLaysZI.n6 P σ)(UI:∀m,AnyZI.SortsIn P σ Fence.wide m)(e9:∀args w,(callFunc (σ.f 9) args).run P w= .ok (.enter (σ.f 9) args) w)(Sf:∀args w,(callFunc (ρ.f 10) args).run P w= .ok (.enter (ρ.f 10) args) w)
  (C1:P.underlying (ρ.t 26)=some (.int .i64)) (hS:SL W l w) (hm:Has (.ob (cM (Value.int .i64) val b m)) l) (hlen:m.length*8<=140737488355328) (vN:∀p∈m,(Lit.int .i64 p.1).wf=true) {K:Ε->Ζ->Prop}
  (h:∀v w',SL W (.ob (aY v (σ.t 26) 1 m.length ((p5 m).map (Value.int .i64)))::l) w'->K v w') :
  zL P (ρ.f 7) [.map (some b)] w λv1 w1=>zL P (σ.f 6) [v1] w1 K:=by
 obtain⟨D,vB,vC,gK⟩:=XB (H:=Unit) C1 hS hm (by unfold maxLen;omega) vN;refine (uu2 (n:=5)).1 ((AnyZI.keys_in L7 Fence.wide 5 trivial rfl (some b) w).mono ?_);rintro e w1 ⟨rfl,rfl⟩;refine⟨_,rfl,?_⟩;have s9:=vB.lt;have Dc:SeqGives Fence.wide 2 P (ρ.f 10) #[.pointer (some ⟨w.heap.size,0,none⟩)] encZ (λss=>ss.Perm (intKeys D)) (Maps.size D) (w.alloc (.cells #[.map (some b)] (ρ.t 23))):=
  AnyZI.keys_gives (ρ:=ρ) {L7 with} Fence.wide _ trivial rfl (by omega) w.heap.size b m.length D _ (by simp) (by simp) (by
   obtain⟨es,clock,hb,Ft,hs,hD⟩:=vB;exact⟨es,clock,(Below.heap_alloc _ _ b s9).trans hb,Ft,hs,hD⟩)
 have cS:=AnyZI.sorted_in L6 Fence.wide 5 trivial trivial trivial trivial rfl (by omega) (UI _) e9 (ρ.f 10) #[.pointer (some ⟨w.heap.size,0,none⟩)] trivial Sf _ _ (by rw[gK];unfold maxLen;omega) (by rw[gK];exact hlen) _ Dc;refine (uu2 (n:=5)).1 (cS.mono ?_);rintro e w' ⟨v,ss,rfl,tu,z_,Lj,hb⟩;refine⟨v,rfl,h v w' ?_⟩;have hp:=tu.trans vC;have Ui:ss.length=m.length:=by simpa using hp.length_eq
 have vI:ss.mergeSort (λx y=>decide (x<=y))=p5 m:=mergeSort_of_perm_i hp;rw[Ui,vI]at z_
 have ig:Below w.heap.size w w':=((Below.refl _ w).alloc (zzz _) _).trans (hb.mono (by simp));exact hS.Vx ig (ownsRow_base_a z_ (by simp))
end
section
variable {α:Type} (key:α->Int)
def fF(L:List α):Prop:=L.Pairwise λa b=>key a<key b
def dA(L:List α)(k:Int):Nat:=(L.filter λx=>decide (key x<k)).length
variable {key}
def xd(L:List α)(k:Int):dA key L k<=L.length:=xx8 _ _
def BU{L:List α}(hs:fF key L)(k:Int):∀j (h:j<L.length),key L[j]<k↔j<dA key L k:=by
 unfold fF at hs;unfold dA;induction L with
 | nil=>intro j h;simp at h
 | cons x L ih=>
  rw[yyc]at hs
  intro j h;by_cases hx:key x<k
  ·rw[ww5 (by simpa using hx)];cases j with
   | zero=>simp[hx]
   | succ j=>simpa using ih hs.2 j (by simpa using h)
  have e:L.filter (λr=>decide (key r<k))=[]:=by
   rw[vvc];intro y hy;have:=hs.1 y hy;simp;omega
  rw[ww6 (by simpa using hx),e];cases j with
  | zero=>simpa using hx
  | succ j=>
   have hm:L[j]'(by simpa using h)∈L:=zzi _;have:=hs.1 _ hm;simp;omega
def RD{L:List α}(hs:fF key L)(k:Int){i:Nat}(hi:i<=L.length)(h1:∀j (h:j<L.length),j<i->key L[j]<k)(h2:∀h:i<L.length,¬key L[i]<k):dA key L k=i:=by
 have hle:=xd (key:=key) L k;rcases Nat.lt_trichotomy (dA key L k) i with h|h|h
 ·have:=(BU hs k _ (by omega)).1 (h1 (dA key L k) (by omega) h);omega
 ·exact h
 have:=h2 (by omega);have h3:=(BU hs k i (by omega)).2 h;exact absurd h3 this
def Jy{L:List α}(hs:fF key L){k:Int}{j:Nat}(hj:j<L.length)(h:key L[j]=k):dA key L k=j:=by
 refine RD hs k (by omega) (λi hi pD=>?_) (λ_=>by omega);have:=xx7.1 hs i j hi hj pD;omega
def gx(key:α->Int)(L:List α)(k:Int):Bool:=match L[dA key L k]? with
 | some x=>decide (key x=k)
 | none=>false
def LZ{L:List α}(hs:fF key L){k:Int}:gx key L k=true↔∃x∈L,key x=k:=by
 unfold gx;constructor
 ·intro h;split at h
  ·rename_i x e;exact⟨x,xxz e,zzl h⟩
  cases h
 rintro ⟨x,hx,rfl⟩;obtain⟨j,hj,rfl⟩:=yy5.1 hx;rw[Jy hs hj rfl,zzc hj];simp
def oW{L:List α}{k:Int}(h:gx key L k=true):∃hl:dA key L k<L.length,key L[dA key L k]=k:=by
 unfold gx at h;split at h
 ·rename_i x e;obtain⟨hl,rfl⟩:=zzf.1 e;exact⟨hl,zzl h⟩
 cases h
def Dt{L:List α}(hs:fF key L){k:Int}(h:gx key L k=false):∀x∈L,key x≠k:=λx hx e=>by
 have:=(LZ hs).2 ⟨x,hx,e⟩;rw[h]at this;cases this
def cw(key:α->Int)(L:List α)(k:Int):Option α:=if gx key L k then L[dA key L k]? else none
def gL(key:α->Int)(L:List α)(x:α):List α:=L.take (dA key L (key x))++[x]++L.drop (if gx key L (key x) then dA key L (key x)+1 else dA key L (key x))
def jj(key:α->Int)(L:List α)(k:Int):List α:=if gx key L k then L.eraseIdx (dA key L k) else L
def NB{L:List α}{x:α}(h:gx key L (key x)=true):gL key L x=L.set (dA key L (key x)) x:=by
 obtain⟨hl,_⟩:=oW h;unfold gL;rw[zzd h,xxl,zzd hl];simp
def pA{L:List α}{k:Int}{x:α}(h:cw key L k=some x):x∈L/\key x=k:=by
 unfold cw at h;split at h
 ·rename_i hi;obtain⟨hl,e⟩:=oW hi;rw[zzc hl]at h
  cases h;exact⟨zzi hl,e⟩
 cases h
def xD{L:List α}(hs:fF key L){x:α}(h:x∈L):cw key L (key x)=some x:=by
 unfold cw;rw[zzd ((LZ hs).2 ⟨x,h,rfl⟩)];obtain⟨j,hj,rfl⟩:=yy5.1 h;rw[Jy hs hj rfl,zzc hj]
def Kj{L:List α}(hs:fF key L){k:Int}:cw key L k=none↔∀x∈L,key x≠k:=by
 constructor
 ·intro h x hx e;subst e;rw[xD hs hx]at h;cases h
 intro h;cases hg:cw key L k with
 | none=>rfl
 | some x=>obtain⟨h1,h2⟩:=pA hg;exact absurd h2 (h x h1)
def Ot{L:List α}(hs:fF key L){i:Nat}(hi:i<L.length){x:α}(hx:key x=key L[i]):fF key (L.set i x):=by
 unfold fF at *
 rw[xx7]at *
 intro a b ha hb oQ;rw[yyi]at ha hb
 rw[xxr,xxr];have h1:=hs a b ha hb oQ;split<;>split
 ·omega
 ·rename_i e _;subst e;omega
 ·rename_i e;subst e;omega
 exact h1
def NC{L:List α}(hs:fF key L){x:α}(h:gx key L (key x)=false):(gL key L x).Perm (x::L):=by
 unfold gL;rw[zzb (by rw[h];decide)];have:L=L.take (dA key L (key x))++L.drop (dA key L (key x)):=by simp
 conv=>rhs;rw[this]
 rw[zze];exact vvn
def D2{L:List α}(hs:fF key L)(x:α):fF key (gL key L x):=by
 cases h:gx key L (key x) with
 | true=>
  rw[NB h];obtain⟨hl,e⟩:=oW h;exact Ot hs hl e.symm
 | false=>
  have hn:=Dt hs h;unfold gL;rw[zzb (by rw[h];decide)];have cA:=BU hs (key x);have hle:=xd (key:=key) L (key x);unfold fF at *
  rw[zze,List.pairwise_append];refine⟨hs.sublist (List.take_sublist _ _),?_,λa ha b hb=>?_⟩
  ·rw[List.singleton_append,yyc];refine⟨λb hb=>?_,hs.sublist (List.drop_sublist _ _)⟩;obtain⟨j,hj,rfl⟩:=yy5.1 hb;rw[List.getElem_drop];have ku:dA key L (key x)+j<L.length:=by simp at hj;omega
   have h1:=(not_congr (cA _ ku)).2 (by omega);have h2:=hn _ (zzi ku);omega
  obtain⟨j,hj,rfl⟩:=yy5.1 ha;rw[List.getElem_take];have ku:j<dA key L (key x)/\j<L.length:=by simp at hj;omega
  have h1:=(cA j ku.2).2 ku.1;rcases yyb.1 hb with hb|hb
  ·simp at hb;subst hb;exact h1
  obtain⟨i,hi,rfl⟩:=yy5.1 hb;rw[List.getElem_drop];have gm:dA key L (key x)+i<L.length:=by simp at hi;omega
  have h3:=(not_congr (cA _ gm)).2 (by omega);omega
def JO{L:List α}(hs:fF key L)(k:Int):fF key (jj key L k):=by
 unfold jj;split
 ·exact hs.sublist (List.eraseIdx_sublist _ _)
 exact hs
def WM{L:List α}(hs:fF key L):(L.map key).Nodup:=by
 refine uuu.2 (List.Pairwise.imp (R:=λa b=>key a<key b) (λ{a b} oQ=>?_) hs);omega
def R4{L:List α}(hs:fF key L)(k:Int):jj key L k=L.filter λx=>decide (key x≠k):=by
 unfold jj;split
 ·rename_i h;obtain⟨hl,e⟩:=oW h;generalize dA key L k=i at *
  have iR:=hs;unfold fF at iR;clear h hs;induction L generalizing i with
  | nil=>simp at hl
  | cons y L ih=>
   rw[yyc]at iR
   cases i with
   | zero=>
    simp only[vv6]at e;rw[List.eraseIdx_cons_zero,ww6 (by simp[e])];symm;rw[xxn];intro z hz;have:=iR.1 z hz;simp;omega
   | succ i=>
    have rQ:i<L.length:=by simpa using hl
    have e':key L[i]=k:=by simpa using e
    have:=iR.1 _ (zzi rQ);rw[vv3,ww5 (by simp;omega),ih i rQ e' iR.2]
 rename_i h;have hn:=Dt hs (by simpa using h);symm;rw[xxn];intro x hx;simpa using hn x hx
def uJ{β:Type}{kb:β->Int}{f:β->α}(hf:∀b,key (f b)=kb b)(L:List β)(k:Int):dA key (L.map f) k=dA kb L k:=by
 unfold dA;rw[List.filter_map,yyh];congr 2
 funext b
 simp[hf]
def Du{β:Type}{kb:β->Int}{f:β->α}(hf:∀b,key (f b)=kb b)(L:List β)(k:Int):gx key (L.map f) k=gx kb L k:=by
 unfold gx;rw[uJ hf,vvk];cases L[dA kb L k]? with
 | none=>rfl
 | some b=>simp[hf]
def XT{β:Type}{kb:β->Int}{f:β->α}(hf:∀b,key (f b)=kb b)(L:List β)(b:β):(gL kb L b).map f=gL key (L.map f) (f b):=by
 unfold gL;rw[Du hf,uJ hf,hf];simp
def MA{α β:Type}(f:β->α):∀(L:List β) (i:Nat),(L.eraseIdx i).map f=(L.map f).eraseIdx i
 | [],_=>rfl
 | x::L,0=>rfl
 | x::L,i+1=>by simp only[vv3,zzj,MA f L i]
def R5{β:Type}{kb:β->Int}{f:β->α}(hf:∀b,key (f b)=kb b)(L:List β)(k:Int):(jj kb L k).map f=jj key (L.map f) k:=by
 unfold jj;rw[Du hf,uJ hf];split
 ·exact MA f L _
 rfl
def AB{L:List α}{x y:α}(h:y∈gL key L x):y=x\/y∈L:=by
 unfold gL at h;rcases yyb.1 h with h|h
 ·rcases yyb.1 h with h|h
  ·exact .inr (xxi h)
  exact .inl (by simpa using h)
 exact .inr (List.mem_of_mem_drop h)
def Az{L:List α}{k:Int}{y:α}(h:y∈jj key L k):y∈L:=by
 unfold jj at h;split at h
 ·exact List.mem_of_mem_eraseIdx h
 exact h
end
section
variable {α β:Type} {key:α->Int} {val:α->β} {m:List (Int × β)} {L:List α}
def ir(key:α->Int)(val:α->β)(m:List (Int × β))(L:List α):Prop:=m.Perm (L.map λx=>(key x,val x))/\fF key L
def ir.nodup(h:ir key val m L):(m.map (·.1)).Nodup:=by
 have:=h.1.map (·.1);rw[xxj]at this
 exact this.nodup_iff.2 (WM h.2)
def MW(hn:(m.map (·.1)).Nodup)(k:Int)(v:β):dM m k=some v↔(k,v)∈m:=by
 induction m with
 | nil=>simp[dM]
 | cons p m ih=>
  rw[zzj,wwi]at hn
  obtain⟨a,b⟩:=p;by_cases ha:a=k
  ·subst ha;simp only[dM,vvj,uuv,zzv,xxv,vv7];constructor
   ·rintro rfl;exact .inl rfl
   rintro (h|h)
   ·exact h.symm
   exact absurd (zz1.2 ⟨_,h,rfl⟩) hn.1
  have Dp:=ih hn.2;have d_:¬(k=a):=λe=>ha e.symm;simp only[dM,ha,wwq,Dp,zzv,xxv,d_,false_and,false_or]
def ir.get(h:ir key val m L)(k:Int):dM m k=(cw key L k).map val:=by
 cases hg:cw key L k with
 | some x=>
  obtain⟨hx,rfl⟩:=pA hg;exact (MW h.nodup _ _).2 (h.1.symm.subset (zz1.2 ⟨x,hx,rfl⟩))
 | none=>
  cases hm:dM m k with
  | none=>rfl
  | some v=>
   obtain⟨x,hx,e⟩:=zz1.1 (h.1.subset ((MW h.nodup _ _).1 hm));cases e;exact absurd rfl ((Kj h.2).1 hg x hx)
def Wu(hn:(m.map (·.1)).Nodup)(k:Int):mi m k=m.filter λp=>decide (p.1≠k):=by
 induction m with
 | nil=>rfl
 | cons p m ih=>
  rw[zzj,wwi]at hn
  unfold mi;split
  ·rename_i e;rw[ww6 (by simp[e])];symm;rw[xxn];intro q hq;have:q.1≠p.1:=λe2=>hn.1 (by rw[<- e2];exact zz1.2 ⟨q,hq,rfl⟩);simp;omega
  rename_i e;rw[ww5 (by simpa using e),ih hn.2]
def ir.del(h:ir key val m L)(k:Int):ir key val (mi m k) (jj key L k):=by
 refine⟨?_,JO h.2 k⟩;rw[Wu h.nodup,R4 h.2];have:=h.1.filter λp=>decide (p.1≠k)
 rwa [List.filter_map]at this
def WG{k:Int}(hn:dM m k=none)(v:β):eH m k v=m++[(k,v)]:=by
 induction m with
 | nil=>rfl
 | cons p m ih=>
  unfold dM at hn;split at hn
  ·cases hn
  rename_i e;unfold eH;rw[zzb e,ih hn];rfl
def ir.add(h:ir key val m L){x:α}(hn:gx key L (key x)=false):ir key val (eH m (key x) (val x)) (gL key L x):=by
 refine⟨?_,D2 h.2 x⟩;have hg:cw key L (key x)=none:=(Kj h.2).2 (Dt h.2 hn);rw[WG (by rw[h.get,hg];rfl)];have h1:=(NC h.2 hn).map λx=>(key x,val x);refine (vvh.trans ?_).trans h1.symm;rw[zzj];exact h.1.cons _
def ir.ox(h:ir key val m L){i:Nat}(hi:i<L.length){x:α}(h1:key x=key L[i])(h2:val x=val L[i]):ir key val m (L.set i x):=by
 refine⟨?_,Ot h.2 hi h1⟩;have e:(L.set i x).map (λx=>(key x,val x))=L.map λx=>(key x,val x):=by
  rw[vvo,h1,h2];refine vv8 λj=>?_;rw[List.getElem?_set];split
  ·rename_i pD;subst pD;rw[zzd (by simpa using hi),vvk,zzc hi];rfl
  rfl
 rw[e];exact h.1
def ir.p5(h:ir key val m L):p5 m=L.map key:=by
 have hp:(m.map (·.1)).Perm (L.map key):=by
  have:=h.1.map (·.1)
  rwa [xxj]at this
 have e:YtgfbifafbkkghaaGreatDoor.p5 m=(L.map key).mergeSort (λx y=>decide (x<=y)):=Go.mergeSort_of_perm_i hp;rw[e];refine List.mergeSort_of_pairwise ?_;refine uuu.2 (List.Pairwise.imp (R:=λa b:α=>key a<key b) (λ{a b} oQ=>?_) h.2);simp only[zzo];omega
def ir.len(h:ir key val m L):m.length=L.length:=by simpa using h.1.length_eq
def ir.nil:ir key val [] []:=⟨.refl _,.nil⟩
end
structure PF where
 id:Int
 safe:Nat
 b:Φ
def bo(x:Κ):Ε:=.int .u8 (x.toNat:Int)
structure DS where
 R:List PF
 off:Bool
 arm:Int
 ops:Nat
def tJ(f:Int):PF:=⟨f,0,[]⟩
def uE(R:List PF)(f:Int)(b:Φ):List PF:=gL PF.id R ⟨f,((cw PF.id R f).getD (tJ f)).safe,((cw PF.id R f).getD (tJ f)).b++b⟩
def lU(R:List PF)(f:Int)(g:PF->PF):List PF:=match cw PF.id R f with
 | some x=>gL PF.id R {g x with id:=f}
 | none=>R
def may(s:DS)(f:Int):Int:=if s.off=true then 8 else if f<0\/16384<=f then 1 else 0
def DS.cK(s:DS):DS:={s with off:=decide (s.arm=1),arm:=if 0<s.arm then s.arm-1 else s.arm,ops:=s.ops+1}
def DS.err(s:DS):Int:=if s.off=true then 8 else 0
def DS.find(s:DS)(f:Int):Int:=if may s f≠0 then may s f else if gx PF.id s.R f=true then 0 else 5
def DS.append(s:DS)(f:Int)(b:Φ):DS × Int:=if may s f≠0 then (s,may s f) else ({s.cK with R:=uE s.R f b},s.cK.err)
def DS.sync(s:DS)(f:Int):DS × Int:=if s.find f≠0 then (s,s.find f) else if s.cK.off=true then (s.cK,8) else ({s.cK with R:=lU s.R f λx=>{x with safe:=x.b.length}},0)
def mg(R:List PF)(f:Int):Int:=match cw PF.id R f with
 | some x=>x.b.length
 | none=>-1
def km(n:Nat)(x:PF):PF:={x with b:=x.b.take n,safe:=min x.safe n}
def DS.cut(s:DS)(f n:Int):DS × Int:=if s.find f≠0 then (s,s.find f) else if n<0\/mg s.R f<n then (s,1) else if s.cK.off=true then (s.cK,8) else ({s.cK with R:=lU s.R f (km n.toNat)},0)
def DS.remove(s:DS)(f:Int):DS × Int:=if s.find f≠0 then (s,s.find f) else if s.cK.off=true then (s.cK,8) else ({s.cK with R:=jj PF.id s.R f},0)
def DS.PQ(s:DS)(n:Int):DS:={s with arm:=max n 0}
def M1(bh:Ω)(i:Nat)(x:PF):Nat:=match bh[i]? with
 | some k=>if 0<k then k.toNat % (x.b.length-x.safe+1) else 0
 | none=>0
def RI(bh:Ω)(i:Nat)(x:PF):PF:=⟨x.id,min (x.safe+M1 bh i x) x.b.length,x.b.take (x.safe+M1 bh i x)⟩
def RJ(R:List PF)(bh:Ω):List PF:=R.mapIdx (RI bh)
def DS.BX(s:DS)(bh:Ω):DS:={s with R:=RJ s.R bh,off:=false,arm:=0}
structure DS.Ok(s:DS)(N:Nat):Prop where
 sorted:fF PF.id s.R
 ids:∀x∈s.R,0<=x.id/\x.id<16384
 safe:∀x∈s.R,x.safe<=x.b.length
 len:∀x∈s.R,x.b.length<=N
 oC:0<=s.arm
 oD:s.arm<=9223372036854775807
def AD{R:List PF}{f:Int}{g:PF->PF}{y:PF}(h:y∈lU R f g):y∈R\/∃x∈R,x.id=f/\y={g x with id:=f}:=by
 unfold lU at h;split at h
 ·rename_i x e;obtain⟨h1,h2⟩:=pA e;rcases AB h with h|h
  ·exact .inr ⟨x,h1,h2,h⟩
  exact .inl h
 exact .inl h
def Ki{R:List PF}{f:Int}{N:Nat}(h:∀x∈R,x.b.length<=N):((cw PF.id R f).getD (tJ f)).b.length<=N:=by
 cases e:cw PF.id R f with
 | none=>exact yye _
 | some x=>exact h x (pA e).1
def Te{R:List PF}{f:Int}(h:∀x∈R,x.safe<=x.b.length):((cw PF.id R f).getD (tJ f)).safe<=((cw PF.id R f).getD (tJ f)).b.length:=by
 cases e:cw PF.id R f with
 | none=>exact yye _
 | some x=>exact h x (pA e).1
def DS.Ok.mono{s:DS}{N M:Nat}(h:s.Ok N)(hm:N<=M):s.Ok M:=⟨h.sorted,h.ids,h.safe,λx hx=>xx3 (h.len x hx) hm,h.oC,h.oD⟩
def DS.Ok.cK{s:DS}{N:Nat}(h:s.Ok N):s.cK.Ok N:=by
 have h0:=h.oC;have h1:=h.oD;refine⟨h.sorted,h.ids,h.safe,h.len,?_,?_⟩<;>simp only[DS.cK]<;>split<;>omega
def DS.Ok.ED{s:DS}{N:Nat}(h:s.Ok N){R:List PF}(h1:fF PF.id R)(h2:∀x∈R,0<=x.id/\x.id<16384)(h3:∀x∈R,x.safe<=x.b.length)(h4:∀x∈R,x.b.length<=N):({s with R:=R}:DS).Ok N:=
 ⟨h1,h2,h3,h4,h.oC,h.oD⟩
def vV{s:DS}{f:Int}(h:may s f=0):s.off=false/\0<=f/\f<16384:=by
 unfold may at h;split at h
 ·cases h
 split at h
 ·cases h
 rename_i h1 h2;refine⟨by simpa using h1,by omega,by omega⟩
def DS.Ok.append{s:DS}{N:Nat}(h:s.Ok N)(f:Int)(b:Φ):(s.append f b).1.Ok (N+b.length):=by
 unfold DS.append;split
 ·exact h.mono (by omega)
 rename_i hm;have hm:may s f=0:=by simpa using hm
 obtain⟨_,f0,f1⟩:=vV hm;have hl:=Ki (f:=f) h.len;have hs:=Te (f:=f) h.safe;refine (h.cK.mono (Nat.le_add_right N b.length)).ED (D2 h.sorted _) ?_ ?_ ?_
 ·intro x hx;rcases AB hx with rfl|hx
  ·exact⟨f0,f1⟩
  exact h.ids x hx
 ·intro x hx;rcases AB hx with rfl|hx
  ·simp only[zza];omega
  exact h.safe x hx
 intro x hx;rcases AB hx with rfl|hx
 ·simp only[zza];omega
 have:=h.len x hx;omega
def aIo{R:List PF}(h:fF PF.id R)(f:Int)(g:PF->PF):fF PF.id (lU R f g):=by
 unfold lU;split
 ·exact D2 h _
 exact h
def DS.Ok.ox{s:DS}{N:Nat}(h:s.Ok N)(f:Int)(g:PF->PF)(h1:∀x,x.safe<=x.b.length->(g x).safe<=(g x).b.length)(h2:∀x,(g x).b.length<=x.b.length):({s.cK with R:=lU s.R f g}:DS).Ok N:=by
 refine h.cK.ED (aIo h.sorted f g) ?_ ?_ ?_
 ·intro x hx;rcases AD hx with hx|⟨y,hy,rfl,rfl⟩
  ·exact h.ids x hx
  exact h.ids y hy
 ·intro x hx;rcases AD hx with hx|⟨y,hy,rfl,rfl⟩
  ·exact h.safe x hx
  exact h1 y (h.safe y hy)
 intro x hx;rcases AD hx with hx|⟨y,hy,rfl,rfl⟩
 ·exact h.len x hx
 exact xx3 (h2 y) (h.len y hy)
def DS.Ok.sync{s:DS}{N:Nat}(h:s.Ok N)(f:Int):(s.sync f).1.Ok N:=by
 unfold DS.sync;split
 ·exact h
 split
 ·exact h.cK
 exact h.ox f _ (λx _=>zzz _) (λx=>zzz _)
def DS.Ok.cut{s:DS}{N:Nat}(h:s.Ok N)(f n:Int):(s.cut f n).1.Ok N:=by
 unfold DS.cut;split
 ·exact h
 split
 ·exact h
 split
 ·exact h.cK
 exact h.ox f _ (λx hx=>by simp only[km,zzn];omega) (λx=>by simp only[km,zzn];omega)
def DS.Ok.remove{s:DS}{N:Nat}(h:s.Ok N)(f:Int):(s.remove f).1.Ok N:=by
 unfold DS.remove;split
 ·exact h
 split
 ·exact h.cK
 exact h.cK.ED (JO h.sorted _) (λx hx=>h.ids x (Az hx)) (λx hx=>h.safe x (Az hx)) (λx hx=>h.len x (Az hx))
def eP:DS:=⟨[],false,0,0⟩
def we(N:Nat):eP.Ok N:=⟨.nil,by simp[eP],by simp[eP],by simp[eP],by simp[eP],by simp[eP]⟩
set_option maxRecDepth 100000
open Go.RowKit Go.Maps Go.Sort Go.Shelf
def aFb(m:Nat):AnyZI.SortsIn prog Oo Fence.wide m:=
 ⟨λmO off cap ss W hH hblk gK=>uu2.2 (AnyM.slices_Sort_int Ol mO off cap ss W hH hblk gK),
  λp cap W=>uu2.2 (AnyM.slices_Sort_int_none Ol p cap W)⟩
section
variable {W w:Ζ} {l:Β} {b:Nat} {α:Type} {val:α->Ε} {m:List (Int × α)}
def ai0(hS:SL W l w)(hm:Has (.ob (cM (Value.int .i64) val b m)) l)(hlen:m.length*8<=140737488355328)(vN:∀p∈m,(Lit.int .i64 p.1).wf=true){K:Ε->Ζ->Prop}
  (h:∀v w',SL W (.ob (aY v 3 1 m.length ((p5 m).map (Value.int .i64)))::l) w'->K v w') :
  aw 255 [.map (some b)] w λv1 w1=>aw 254 [v1] w1 K:=
 VA Vy aw9 aFb (enters_of func304 (by kernel_rfl) rfl) (enters_of func305 (by kernel_rfl) rfl) zz9 hS hm hlen vN h
end
set_option maxRecDepth 100000
open Go.RowKit
abbrev SP := Spec prog
def md(v:Int)(n:Nat):Nat:=((IntKind.u64.wrap v) % (n:Int)).toNat
def iX(v:Int)(n:Nat)(hn:0<n):md v n<n:=by
 unfold md;have h1:=vvx (IntKind.u64.wrap v) (show (n:Int)≠0 by omega);have h2:=Int.emod_lt_of_pos (IntKind.u64.wrap v) (show (0:Int)<n by omega);omega
def yt(v:Int)(n:Nat)(h1:0<n)(h2:n<=9223372036854775807):SP 18 [Γ v,Γ (n:Int)] [] (bj (Γ (md v n:Int)) []):=by
 refine Enzz λW F w hS=>?_;apply aWj;have hn:IntKind.u64.wrap (n:Int)=n:=by rw[ww7];omega
 have hv:0<=IntKind.u64.wrap v:=by rw[ww7];omega
 refine zK (zK ?_);rw[hn];refine ZM (by omega) ?_;have e:(IntKind.u64.wrap v).tmod (n:Int)=(md v n:Int):=by
  rw[xx1 hv];unfold md;have:=vvx (IntKind.u64.wrap v) (show (n:Int)≠0 by omega);omega
 rw[e];have:=iX v n h1;refine ya (by omega) ?_;(exact bt hS)
def z8(v:Int)(n:Nat)(h1:0<n)(h2:n<=9223372036854775807):SP 50 [Γ v,Γ (n:Int)] [] (bj (Γ (md v n:Int)) []):=by
 refine Enzz λW F w hS=>?_;apply aZ2;have hn:IntKind.u64.wrap (n:Int)=n:=by rw[ww7];omega
 have hv:0<=IntKind.u64.wrap v:=by rw[ww7];omega
 refine zK (zK ?_);rw[hn];refine ZM (by omega) ?_;have e:(IntKind.u64.wrap v).tmod (n:Int)=(md v n:Int):=by
  rw[xx1 hv];unfold md;have:=vvx (IntKind.u64.wrap v) (show (n:Int)≠0 by omega);omega
 rw[e];have:=iX v n h1;refine ya (by omega) ?_;(exact bt hS)
section
variable {W w:Ζ} {l:Β}
def ze.perm{α:Type}{A:α->zw}{xs ys:List α}(h:SL W (.ob (ze A xs)::l) w)(p:xs.Perm ys):SL W (.ob (ze A ys)::l) w:=
 ze.iff.2 ((ze.iff.1 h).perm ((p.map _).append_right l))
def SL.ml{v:Ε}{t:Ι}{sz n:Nat}{cells:Ξ}(h:SL W l w)(m:Has (.ob (aY v t sz n cells)) l):v.oneCell'=true:=by
 obtain⟨a,cap,rfl,_⟩:=aY.at h m;rfl
def N1{t:Ι}{a:Option Addr}{n c:Nat}{K:Ε->Prop}(h:K (.bool a.isNone)):HEq (.slice t) false (.slice a n c) Θ K:=⟨a.isNone,by cases a<;>rfl,h⟩
end
def Td{α β:Type}{key:α->Int}{kb:β->Int}{f:β->α}(hf:∀b,key (f b)=kb b)(L:List β)(k:Int):cw key (L.map f) k=(cw kb L k).map f:=by
 unfold cw;rw[Du hf,uJ hf];split
 ·rw[vvk]
 rfl
def pz{α:Type}{key:α->Int}{L:List α}{k:Int}{x:α}(h:cw key L k=some x):L[dA key L k]?=some x/\dA key L k<L.length/\key x=k:=by
 unfold cw at h;split at h
 ·rename_i hi;obtain⟨hl,e⟩:=oW hi;refine⟨h,hl,?_⟩;rw[zzc hl]at h
  cases h;exact e
 cases h
def ve{α:Type}{key:α->Int}{L:List α}{k:Int}:(cw key L k).isSome=gx key L k:=by
 cases h:gx key L k with
 | true=>
  obtain⟨hl,_⟩:=oW h;unfold cw;rw[zzd h,zzc hl];rfl
 | false=>unfold cw;rw[zzb (by rw[h];decide)];rfl
def ff(b:Nat):Ε:=Δ b
abbrev EF:=PF × Nat
def ez(x:EF):Int:=x.1.id
def Ai(x:EF):PF.id (Prod.fst x)=ez x:=rfl
abbrev EM(x:EF)(v:Ε):Β:=[.pt x.2 [v,Γ x.1.safe] 282,.ob (aY v 5 1 x.1.b.length (x.1.b.map bo))]
def dz(x:EF):zw:=gi λv:Ε=>zG True (EM x v)
def dz.iff{W w:Ζ}{x:EF}{l:Β}:SL W (.ob (dz x)::l) w↔∃v,SL W (.pt x.2 [v,Γ x.1.safe] 282::.ob (aY v 5 1 x.1.b.length (x.1.b.map bo))::l) w:=by
 unfold dz EM;simp only[SL.ex,SL.fact,zzq,zzp,vv7]
abbrev fZ(mb:Nat)(s:DS):Ξ:=[.map (some mb),.bool s.off,Γ s.arm,Γ s.ops]
abbrev EL(dp:Nat)(s:DS)(mb:Nat)(m:List (Int × Nat)):Β:=[.pt dp (fZ mb s) 174,.ob (cM (Value.int .i64) ff mb m)]
structure jd(m:List (Int × Nat))(L:List EF)(R:List PF):Prop where
 rel:ir ez Prod.snd m L
 eq:L.map Prod.fst=R
def bk(dp:Nat)(s:DS):zw:=gi λx:Nat × List (Int × Nat) × List EF=>zG (jd x.2.1 x.2.2 s.R) [.pt dp (fZ x.1 s) 174,.ob (cM (Value.int .i64) ff x.1 x.2.1),.ob (ze dz x.2.2)]
def bk.iff{W w:Ζ}{dp:Nat}{s:DS}{l:Β}:SL W (.ob (bk dp s)::l) w↔∃mb m L,jd m L s.R/\SL W (.pt dp (fZ mb s) 174::.ob (cM (Value.int .i64) ff mb m)::.ob (ze dz L)::l) w:=by
 unfold bk;simp only[SL.ex,SL.fact,zzq,zzp];exact⟨λ⟨x,h1,h2⟩=>⟨x.1,x.2.1,x.2.2,h1,h2⟩,λ⟨mb,m,L,h1,h2⟩=>⟨(mb,m,L),h1,h2⟩⟩
def jd.get{m:List (Int × Nat)}{L:List EF}{R:List PF}(h:jd m L R)(f:Int):dM m f=(cw ez L f).map Prod.snd:=h.rel.get f
def jd.cP{m:List (Int × Nat)}{L:List EF}{R:List PF}(h:jd m L R)(f:Int):cw PF.id R f=(cw ez L f).map Prod.fst:=by
 rw[<- h.eq];exact Td Ai L f
def jd.len{m:List (Int × Nat)}{L:List EF}{R:List PF}(h:jd m L R):L.length=R.length:=by rw[<- h.eq,yyh]
def jd.set{m:List (Int × Nat)}{L:List EF}{R:List PF}(h:jd m L R){f:Int}{x:EF}(hx:cw ez L f=some x){y:PF}(hy:y.id=f):jd m (L.set (dA ez L f) (y,x.2)) (gL PF.id R y):=by
 obtain⟨h1,h2,h3⟩:=pz hx;obtain⟨h4,h5⟩:=zzf.1 h1;refine⟨h.rel.ox h2 (by rw[h5,h3];exact hy) (by rw[h5]),?_⟩;have hi:gx PF.id R y.id=true:=by
  rw[<- ve,hy,h.cP,hx];rfl
 rw[NB hi,hy,<- h.eq,uJ Ai,vvo]
def jd.new{m:List (Int × Nat)}{L:List EF}{R:List PF}(h:jd m L R){f:Int}(hx:cw ez L f=none){y:PF}(hy:y.id=f)(p:Nat):jd (eH m f p) (gL ez L (y,p)) (gL PF.id R y):=by
 have hi:gx ez L (ez (y,p))=false:=by
  rw[<- ve,show ez (y,p)=f from hy,hx];rfl
 have:=h.rel.add (x:=(y,p)) hi;refine⟨by rw[<- hy];exact this,?_⟩;rw[<- h.eq];exact XT Ai L (y,p)
def jd.del{m:List (Int × Nat)}{L:List EF}{R:List PF}(h:jd m L R)(f:Int):jd (mi m f) (jj ez L f) (jj PF.id R f):=by
 refine⟨h.rel.del f,?_⟩;rw[<- h.eq];exact R5 Ai L f
def QI:SP 78 [] [] (λv post=>∃dp:Nat,v= Δ dp/\post=[.ob (bk dp eP)]):=by
 refine Enzz λW F w hS=>?_;apply a_w;delta ai;refine yQ rfl ?_;refine⟨_,rfl,zD (cs:=[.map (some w.heap.size),.bool false,Γ 0,Γ 0]) (SL.DD (key:=Value.int .i64) (val:=ff) hS) ?_⟩;intro dp w' eF;refine⟨_,⟨dp,rfl,rfl⟩,bk.iff.2 ⟨w.heap.size,[],[],⟨ir.nil,rfl⟩,?_⟩⟩;have lF:SL W (.pt dp (fZ w.heap.size eP) 174::.ob (cM (Value.int .i64) ff w.heap.size [])::F) w':=eF;have h2:=ze.nil (A:=dz) lF;exact SL.bA h2 Xi
def Z8(dp mb:Nat)(s:DS)(f:Int):SP 276 [Δ dp,Γ f] [.pt dp (fZ mb s) 174] (bj (Γ (may s f)) [.pt dp (fZ mb s) 174]):=by
 refine Enzz λW F w hS=>?_;apply aX9;delta aF bd ai;refine Gp ?_;unfold may;refine Zl (λh=>?_) (λh=>?_)
 ·rw[zzd h];(exact bt hS)
 rw[zzb (by rw[h];decide)];refine bw (λh2=>?_) (λh2=>?_)
 ·rw[zzd (.inl h2)];(exact bt hS)
 refine bw (λh3=>?_) (λh3=>?_)
 ·rw[zzd (.inr h3)];(exact bt hS)
 rw[zzb (by omega)];(exact bt hS)
def uZ(s:DS)(m:List (Int × Nat))(f:Int):Ε:=if may s f≠0 then .tuple #[.pointer none,Γ (may s f)] else match dM m f with
 | none=>.tuple #[.pointer none,Γ 5]
 | some p=>.tuple #[ff p,Γ 0]
def y1(dp mb:Nat)(s:DS)(m:List (Int × Nat))(f:Int):SP 278 [Δ dp,Γ f] (EL dp s mb m) (bj (uZ s m f) (EL dp s mb m)):=by
 refine Enzz λW F w hS=>?_;apply aYb;delta aF bd ai bC;refine Cg (Z8 dp mb s f) λw hS=>?_;unfold uZ;refine za (λh=>?_) (λh=>?_)
 ·rw[zzd h];(exact bt hS)
 rw[zzb h];refine Gp ?_;refine Ze hS Xh (mf .i64) wwr zz9 (λ_=>rfl) ?_;cases hm:dM m f with
 | none=>
  simp only[vvd,ww8];refine ZK (zt ?_);(exact bt hS)
 | some p=>
  simp only[yyn,xx9];unfold ff;refine ZK (zs ?_);(exact bt hS)
def yi(dp mb:Nat)(s:DS)(h0:s.off=false)(h1:0<=s.arm)(h2:s.arm<=9223372036854775807)(h3:s.ops<=100000):SP 277 [Δ dp] [.pt dp (fZ mb s) 174]
  (bj (Γ s.cK.err) [.pt dp (fZ mb s.cK) 174]):=by
 refine Enzz λW F w hS=>?_;apply aYa;delta aF bd cq ai;refine Gn λw hS=>?_;refine za (λh=>?_) (λh=>?_)
 ·refine Gn λw hS=>?_;have e:decide (s.arm-1=0)=decide (s.arm=1):=by congr 1;exact propext ⟨λ_=>by omega,λ_=>by omega⟩
  rw[e];rw[e]at hS
  have hS:SL W (.pt dp (fZ mb s.cK) 174::F) w:=by
   simp only[fZ,DS.cK,zzd h];exact hS
  unfold DS.err;refine za (λh4=>?_) (λh4=>?_)
  ·rw[zzd (by simp[DS.cK,h4])];(exact bt hS)
  rw[zzb (by simp[DS.cK,h4])];(exact bt hS)
 refine Gp ?_;have ha:¬s.arm=1:=by omega
 have hS:SL W (.pt dp (fZ mb s.cK) 174::F) w:=by
  simp only[fZ,DS.cK,zzb h,ha,wwk];rw[h0]at hS
  exact hS
 rw[h0];refine zs ?_;have:s.cK.err=0:=by simp[DS.err,DS.cK,ha]
 rw[this];(exact bt hS)
def Cq{α:Type}{enc:α->Ξ}{n:Nat}(hn:∀x,(enc x).length=n):∀(xs:List α) (j k:Nat) (hj:j<xs.length) (x:α) (v:Ε),k<n->(enc xs[j]).set k v=enc x->((xs.map enc).flatten).set (j*n+k) v=((xs.set j x).map enc).flatten
 | y::xs,0,k,_,x,v,hk,h=>by
  simp only[zzj,zzt,List.set_cons_zero,uum,zz2];rw[wwe _ _ (by rw[hn];exact hk)];rw[show (enc y).set k v=enc x from h]
 | y::xs,j+1,k,hj,x,v,hk,h=>by
  simp only[zzj,zzt,List.set_cons_succ];rw[vvi _ _ (by rw[hn,yyo];omega),hn,show (j+1)*n+k-n=j*n+k by rw[yyo];omega,Cq hn xs j k (by simpa using hj) x v hk (by simpa using h)]
def wQ(sz fH:Nat)(z:Ξ)(t ts:Ι)(v0:Ε)(w:Ζ)(R:Ε->Ζ->Prop):Prop:=
 HEq (.slice ts) false v0 (.slice Option.none 0 0) λv4=>
 bL v4
 (R (.slice Option.none 0 0) w)
 (zk (bq z 0) [] t 0 w λv5 jr=>
 zq sz fH z t v5 v0 jr λv7 kC=>
 R v7 kC)
def Jv{W w:Ζ}{F:Β}{sz fH n:Nat}{z cs:Ξ}{t ts:Ι}{v:Ε}{K:Ε->Ζ->Prop}(hv:∃a c,v= .slice a n c)(gb:∀w' c,SL W (c::F) w'->il w' sz v n cs)(hl:cs.length=n*sz)(hz:z.length=sz)(h0:0<sz)(h1:∀v∈cs,v.oneCell'=true)(hb:n*fH<=140737488355328)(hn:n<=140737488355328)
  (hS:SL W F w) (h:∀u w',SL W (.ob (aY u t sz n cs)::F) w'->K u w'):wQ sz fH z t ts v w K:=by
 obtain⟨a,c,rfl⟩:=hv;unfold wQ;refine N1 ?_;cases a with
 | none=>
  refine zt ?_;have hs:=gb _ _ (aY.nil (t:=t) (sz:=sz) hS);obtain rfl:cs=[]:=hs.2;obtain rfl:n=0:=by
   rw[yym]at hl
   rcases Nat.mul_eq_zero.1 hl.symm with h|h
   ·exact h
   omega
  exact h _ _ (aY.nil hS)
 | some p=>
  refine zs ?_;refine zA hS rfl ?_;intro b w' eF;have lF:SL W (.ob (aY (.slice (some ⟨b,0,none⟩) 0 0) t sz 0 [])::F) w':=aY.full (by simp) (by simpa [bq] using eF);refine zx lF .hd (gb _ _ lF) hl hz h1 (by rw[zz2];exact hb) (by omega) ?_;intro u w2 s7;rw[zz2,zzp]at s7
  exact h u w2 s7
section
variable {P:Program} {f:FuncId} {sz fH n:Nat} {z cs:Ξ} {t ts:Ι}
def Ru(vc:∀v0 w R,wQ sz fH z t ts v0 w R->zL P f [v0] w R)(hz:z.length=sz)(h0:0<sz){H:aX}{v:Ε}(hv:bK H sz v n cs)(h1:∀v∈cs,v.oneCell'=true)(hb:n*fH<=140737488355328)(hn:n<=140737488355328):
  Spec P f [v] [.mem H] (λu post=>post=[.ob (aY u t sz n cs),.mem H]):=by
 intro W F w hS;have hS:SL W (.mem H::F) w:=hS;exact vc _ _ _ (Jv (let ⟨_,a,c,e,_⟩:=hv;⟨a,c,e⟩) (λw' c h=>sh h (.tl .hd) hv) hv.1 hz h0 h1 hb hn hS λu w' hS=>⟨_,rfl,hS⟩)
def Rt(vc:∀v0 w R,wQ sz fH z t ts v0 w R->zL P f [v0] w R)(hz:z.length=sz)(h0:0<sz){v:Ε}(h1:∀v∈cs,v.oneCell'=true)(hl:cs.length=n*sz)(hb:n*fH<=140737488355328)(hn:n<=140737488355328):
  Spec P f [v] [.ob (aY v t sz n cs)] (λu post=>post=[.ob (aY u t sz n cs),.ob (aY v t sz n cs)]):=by
 intro W F w hS;have hS:SL W (.ob (aY v t sz n cs)::F) w:=hS;exact vc _ _ _ (Jv (let ⟨a,c,e,_⟩:=aY.at hS .hd;⟨a,c,e⟩) (λw' c h=>iG h (.tl .hd)) hl hz h0 h1 hb hn hS λu w' hS=>⟨_,rfl,hS⟩)
end
section
variable {W w:Ζ} {l F:Β} {α:Type} {enc:α->Ξ} {t:Ι} {sz:Nat}
def zu{cs:Ξ}{K:Ε->Ζ->Prop}(hS:SL W l w)(h:∀b w,SL W (.pt b cs t::l) w->K (Δ b) w):∃lA:Ξ,Value.agg cs.toArray= .agg lA.toArray/\zi lA t w K:=⟨cs,rfl,zD hS h⟩
def aiy{v:Ε}{n j:Nat}{k:IntKind}{xs:List α}{x:α}{K:Ε->Prop}(h:SL W l w)(m:Has (.ob (bP v t sz n (xs.map enc).flatten)) l)(hn:∀x,(enc x).length=sz)(hx:xs[j]?=some x)(hj:j<n)(hK:K (agg (enc x))):
  zj sz v (.int k (j:Int)) λp=>zf sz p w K:=by
 refine Zc h m hj λb o hb=>⟨⟨b,o,none⟩,enc x,rfl,hn x,λi u hu=>?_,hK⟩;rw[zz7];have hi:i<sz:=by rw[<- hn x];exact (zzf.1 hu).1
 exact hb i u hi (oL hn xs j i x u hx hu)
def ye{x:Ε}{fH n b:Nat}{z:Ξ}{xs:List α}{y:α}{K:Ε->Ζ->Prop}(hS:SL W l w)(hr:dW (.ob (aY x t sz n (xs.map enc).flatten)) l F)(hm:Has (.pt b (enc y) t) l)(hn:∀x,(enc x).length=sz)(h1:∀x,∀v∈enc x,v.oneCell'=true)(hz:z.length=sz)(hb:(n+1)*fH<=140737488355328)(Uq:n+1<=140737488355328)
  (h:∀v' w',SL W (.ob (aY v' t sz (n+1) ((xs++[y]).map enc).flatten)::F) w'->K v' w'):zq sz fH z t x (.slice (some ⟨b,0,none⟩) 1 1) w K:=
 zx hS hr (fC hS hm (by rw[hn,wwy])) (by rw[hn,wwy]) hz (h1 y) hb Uq λv' w' hS=>h v' w' (by rw[rD];exact hS)
def SL.lS{v:Ε}{cs:Ξ}{xs:List α}{x:α}(hS:SL W (.ob (aY v t sz (xs.length+1) cs)::l) w):SL W (.ob (aY v t sz (xs++[x]).length cs)::l) w:=by
 rw[zza,yyg];exact hS
def SL.NI{H:aX}{b n:Nat}{cs:Ξ}(hS:SL W l w)(hp:eQ [.mem H,.pt b cs t] l F)(hl:cs.length=n*sz):∃H',H.le H'/\bK H' sz (.slice (some ⟨b,0,none⟩) n n) n cs/\SL W (.mem H'::F) w:=by
 have hS:=hS.pick hp;exact aY.freeze ((aY.full hl (hS.perm (.swap _ _ _))).perm (.swap _ _ _))
end
def ue(a b:Int):Int:=IntKind.u32.wrap ((BitVec.ofInt IntKind.u32.bits a ^^^ BitVec.ofInt IntKind.u32.bits b).toNat)
def I9(a b:Int):Int:=IntKind.u32.wrap ((BitVec.ofInt IntKind.u32.bits a &&& BitVec.ofInt IntKind.u32.bits b).toNat)
def xe(a:Int):Int:=IntKind.u32.wrap ((BitVec.ofInt IntKind.u32.bits IntKind.u32.max ^^^ BitVec.ofInt IntKind.u32.bits a).toNat)
def w8(c:Int):Int:=if I9 c 1=1 then ue (c.fdiv (2 ^ 1)) 3988292384 else c.fdiv (2 ^ 1)
def uH:Nat->Int->Int
 | 0,c=>c
 | n+1,c=>w8 (uH n c)
def El(c:Int)(b:Κ):Int:=uH 8 (ue c (b.toNat:Int))
def pV(s:Int)(b:Φ):Int:=xe (b.foldl El (xe s))
def cO(n:Int):Κ:=UInt8.ofNat (n % 256).toNat
def V4(n:Int):bo (cO n)= .int .u8 (IntKind.u8.wrap n):=by
 unfold bo cO;congr 1;rw[uup];simp only[IntKind.wrap,IntKind.bits,IntKind.signed];have h1:=vvx n (show (256:Int)≠0 by omega);have h2:=Int.emod_lt_of_pos n (show (0:Int)<256 by omega);simp;omega
def four(x:Int):Φ:=[cO (x.fdiv (2 ^ 24)),cO (x.fdiv (2 ^ 16)),cO (x.fdiv (2 ^ 8)),cO x]
def s3(x:Int):(four x).length=4:=rfl
def sumOf(p:Φ):Int:=pV (pV 0 (four p.length)) p
def cD(p:Φ):Φ:=four p.length++four (sumOf p)++p
def nx(p:Φ):(cD p).length=8+p.length:=by simp[cD,s3];omega
def gq(b:Φ):Nat:=((b.getD 0 0).toNat*16777216+(b.getD 1 0).toNat*65536)+(b.getD 2 0).toNat*256+(b.getD 3 0).toNat
def fg(b:Φ):Except Int (Φ × Nat):=
 if b.length<8 then .error 2
 else if 1048576<gq b then .error 3
 else if b.length<8+gq b then .error 2
 else if four (sumOf ((b.drop 8).take (gq b)))≠(b.drop 4).take 4 then .error 4
 else .ok ((b.drop 8).take (gq b),8+gq b)
def mq:Nat->Φ->List Φ × Nat
 | 0,_=>([],0)
 | f+1,b=>match fg b with
  | .ok (p,n)=>(p::(mq f (b.drop n)).1,n+(mq f (b.drop n)).2)
  | .error _=>([],0)
def WV(b:Φ):gq b<4294967296:=by
 unfold gq;have h:∀i,(b.getD i 0).toNat<256:=λi=>UInt8.toNat_lt _;have:=h 0;have:=h 1;have:=h 2;have:=h 3;omega
def As(n:Nat):(cO (n:Int)).toNat=n % 256:=by
 unfold cO;rw[uup];omega
def rB(n k:Nat)(hk:0<k):(n:Int).fdiv (k:Int)=((n / k:Nat):Int):=by
 rw[Int.fdiv_eq_ediv_of_nonneg _ (by omega)];exact (Int.natCast_ediv n k).symm
def WU(n:Nat)(r:Φ)(h:n<4294967296):gq (four n++r)=n:=by
 unfold gq four;have e1:((n:Int).fdiv (2 ^ 24))=((n / 16777216:Nat):Int):=rB n 16777216 (by decide);have e2:((n:Int).fdiv (2 ^ 16))=((n / 65536:Nat):Int):=rB n 65536 (by decide);have e3:((n:Int).fdiv (2 ^ 8))=((n / 256:Nat):Int):=rB n 256 (by decide);rw[e1,e2,e3];simp only[zzq,zzp,List.getD_cons_zero,List.getD_cons_succ,As];omega
def X6{p r:Φ}(h:p.length<=1048576):gq (cD p++r)=p.length:=by
 unfold cD;rw[zze,zze];exact WU p.length _ (by omega)
def OL{p r:Φ}(h:p.length<=1048576):fg (cD p++r)= .ok (p,8+p.length):=by
 have hn:=X6 (r:=r) h;have hl:(cD p++r).length=8+p.length+r.length:=by rw[zza,nx]
 have TQ:((cD p++r).drop 8).take p.length=p:=by
  unfold cD;rw[show (8:Nat)=(four p.length++four (sumOf p)).length by simp[s3],zze (four (p.length:Int)++four (sumOf p)) p r,ww9];exact uuq
 have TP:((cD p++r).drop 4).take 4=four (sumOf p):=by
  unfold cD;rw[zze,zze,show (4:Nat)=(four (p.length:Int)).length by simp[s3],ww9,show (four (p.length:Int)).length=(four (sumOf p)).length from rfl];exact uuq
 unfold fg;rw[hn,zzb (by omega),zzb (by omega),zzb (by omega),TQ,TP,zzb (by simp)]
def aF5:fg []= .error 2:=rfl
def AW{f:Nat}{b p:Φ}{n:Nat}(h:fg b= .ok (p,n)):mq (f+1) b=(p::(mq f (b.drop n)).1,n+(mq f (b.drop n)).2):=by simp only[mq,h]
def AV{f:Nat}{b:Φ}{e:Int}(h:fg b= .error e):mq (f+1) b=([],0):=by simp only[mq,h]
def j8(ps:List Φ):Φ:=(ps.map cD).flatten
def NM(p:Φ)(ps:List Φ):j8 (p::ps)=cD p++j8 ps:=by simp[j8]
def Ob:∀(ps:List Φ) (r:Φ) (f:Nat),(∀p∈ps,p.length<=1048576)->(∃e,fg r= .error e)->ps.length<f->mq f (j8 ps++r)=(ps,(j8 ps).length)
 | [],r,f+1,_,⟨e,he⟩,_=>by
  rw[show j8 []++r=r from rfl,AV he];rfl
 | p::ps,r,f+1,hp,he,hf=>by
  have Ln:=hp p (.head _);have ih:=Ob ps r f (λq hq=>hp q (.tail _ hq)) he (Nat.lt_of_succ_lt_succ hf);rw[NM,zze,AW (OL Ln),<- nx,ww9,ih,zza]
def wk{b p:Φ}{n:Nat}(h:fg b= .ok (p,n)):8<=n/\n<=b.length/\p.length<=1048576/\n=8+p.length/\p=(b.drop 8).take p.length:=by
 unfold fg at h;split at h
 ·cases h
 split at h
 ·cases h
 split at h
 ·cases h
 split at h
 ·cases h
 rename_i h1 h2 h3 h4;have h:=Except.ok.inj h;generalize gq b=k at *
 cases h;have:((b.drop 8).take k).length=k:=by rw[zzn,zz0];omega
 exact⟨by omega,by omega,by omega,by omega,by rw[this]⟩
def OK{b:Φ}{e:Int}(h:fg b= .error e):e=2\/e=3\/e=4:=by
 unfold fg at h;split at h
 ·cases h;simp
 split at h
 ·cases h;simp
 split at h
 ·cases h;simp
 split at h
 ·cases h;simp
 cases h
def Oa:∀(f g:Nat) (b:Φ),b.length<f->b.length<g->mq f b=mq g b
 | f+1,g+1,b,hf,hg=>by
  cases h:fg b with
  | error e=>rw[AV h,AV h]
  | ok x=>
   obtain⟨p,n⟩:=x;have:=wk h;rw[AW h,AW h,Oa f g (b.drop n) (by rw[zz0];omega) (by rw[zz0];omega)]
def gh(b:Φ):List Φ × Nat:=mq (b.length+1) b
def Ed{b p:Φ}{n:Nat}(h:fg b= .ok (p,n)):gh b=(p::(gh (b.drop n)).1,n+(gh (b.drop n)).2):=by
 have:=wk h;unfold gh;rw[AW h,Oa b.length ((b.drop n).length+1) (b.drop n) (by rw[zz0];omega) (by omega)]
def Ec{b:Φ}{e:Int}(h:fg b= .error e):gh b=([],0):=AV h
def awn(f:Nat):∀b:Φ,b.length<f->(gh b).2<=b.length:=by
 induction f with
 | zero=>intro b h;omega
 | succ f ih=>
  intro b hb;cases h:fg b with
  | error e=>rw[Ec h];exact yye _
  | ok x=>
   obtain⟨p,n⟩:=x;have h2:=wk h;have:=ih (b.drop n) (by rw[zz0];omega);rw[Ed h];rw[zz0]at this
   show n+_<=_;omega
def NN:∀ps:List Φ,ps.length*8<=(j8 ps).length
 | []=>by simp
 | p::ps=>by
  have:=NN ps;rw[NM,zza,nx,zzg];omega
def awp(ps:List Φ)(r:Φ)(hp:∀p∈ps,p.length<=1048576)(he:∃e,fg r= .error e):gh (j8 ps++r)=(ps,(j8 ps).length):=by
 refine Ob ps r _ hp he ?_;have:=NN ps;rw[zza];omega
structure bz where
 kind:Int
 n:Int
 s:Η
def cn(x:bz):Ξ:=[Γ x.kind,Γ x.n,.string x.s]
def nG:bz:=⟨0,0,⟨#[]⟩⟩
def bI(x:Int):Nat->Φ
 | 0=>[]
 | n+1=>cO (x.fdiv (2 ^ (8*n)))::bI x n
def eg(x:Int):∀n,(bI x n).length=n
 | 0=>rfl
 | n+1=>by simp[bI,eg x n]
def fB(x:bz):Bool:=if x.kind=1 then decide (x.s=⟨#[]⟩) else if x.kind=2 then decide (x.n=0) && decide (x.s.size<=4096) else false
def jP(n:Int):Int:=n % 18446744073709551616
def bO(x:bz):Φ:=if x.kind=1 then cO x.kind::bI (jP x.n) 8 else cO x.kind::(bI x.s.size 2++x.s.data.toList)
def gl(l:List bz):Except Int Φ:=if 32767<l.length then .error 1 else if l.all fB then .ok (bI l.length 2++(l.map bO).flatten) else .error 1
structure fO where
 b:Φ
 e:Int
def eN(n:Nat)(r:fO):Φ × fO:=if r.e≠0 then ([],r) else if r.b.length<n then ([],{r with e:=2}) else (r.b.take n,{r with b:=r.b.drop n})
def cF(b:Φ):Nat:=b.foldl (λx c=>(x*256+c.toNat) % 18446744073709551616) 0
def dy(n:Nat)(r:fO):Nat × fO:=(cF (eN n r).1,(eN n r).2)
def dP(m:Nat)(r:fO):Nat × fO:=if m<(dy 2 r).1 then (0,{(dy 2 r).2 with e:=3}) else dy 2 r
def sig(n:Nat):Int:=if n<9223372036854775808 then n else (n:Int)-18446744073709551616
def eT(r:fO):bz × fO:=
 if (dy 1 r).1=1 then (⟨1,sig (dy 8 (dy 1 r).2).1,⟨#[]⟩⟩,(dy 8 (dy 1 r).2).2)
 else if (dy 1 r).1=2 then (⟨2,0,⟨(eN (dP 4096 (dy 1 r).2).1 (dP 4096 (dy 1 r).2).2).1.toArray⟩⟩,(eN (dP 4096 (dy 1 r).2).1 (dP 4096 (dy 1 r).2).2).2)
 else (nG,if (dy 1 r).2.e=0 then {(dy 1 r).2 with e:=3} else (dy 1 r).2)
def eU:Nat->fO->List bz × fO
 | 0,r=>([],r)
 | i+1,r=>if r.e=0 then ((eT r).1::(eU i (eT r).2).1,(eU i (eT r).2).2) else ([],r)
def dK(b:Φ):Except Int (List bz):=
 let m:=dP 32767 ⟨b,0⟩
 let x:=eU m.1 m.2
 let e:=if x.2.e=0 then if 0<x.2.b.length then 3 else 0 else x.2.e
 if e=0 then .ok x.1 else .error e
def fb(n:Nat):Φ:=[0,1,1]++bI n 8
def vn(n:Nat):(fb n).length=11:=by simp[fb,eg]
def Jh(x:Nat)(b:Φ)(c:Κ)(h:cF b=x):cF (b++[c])=(x*256+c.toNat) % 18446744073709551616:=by
 unfold cF at *
 rw[wwz,h];rfl
def AF{n:Nat}(h:n<1152921504606846976):cF (bI n 8)=n:=by
 have f:∀k,((n:Int).fdiv (2 ^ (8*k)))=((n / 2 ^ (8*k):Nat):Int):=λk=>by
  have:=rB n (2 ^ (8*k)) (uuk _);rw[<- this];push_cast;rfl
 unfold bI bI bI bI bI bI bI bI bI;simp only[f,cF,xxw,uu5,As,show (2:Nat) ^ (8*7)=72057594037927936 from rfl,show (2:Nat) ^ (8*6)=281474976710656 from rfl,show (2:Nat) ^ (8*5)=1099511627776 from rfl,
  show (2:Nat) ^ (8*4)=4294967296 from rfl,show (2:Nat) ^ (8*3)=16777216 from rfl,show (2:Nat) ^ (8*2)=65536 from rfl,show (2:Nat) ^ (8*1)=256 from rfl,show (2:Nat) ^ (8*0)=1 from rfl]
 omega
def WL{x y:Φ}{n:Nat}(h:x.length=n):eN n ⟨x++y,0⟩=(x,⟨y,0⟩):=by
 subst h;unfold eN;rw[zzb (by simp),zzb (by simp)];simp
def DO{x y:Φ}{n:Nat}(h:x.length=n):dy n ⟨x++y,0⟩=(cF x,⟨y,0⟩):=by
 unfold dy;rw[WL h]
def RQ{n:Nat}(h:n<1152921504606846976):dK (fb n)= .ok [⟨1,n,⟨#[]⟩⟩]:=by
 have h8:=AF h;have hl:=eg (n:Int) 8;unfold fb;generalize bI (n:Int) 8=y at *
 have e1:dP 32767 ⟨[0,1,1]++y,0⟩=(1,⟨[1]++y,0⟩):=by
  have:dy 2 ⟨[0,1]++([1]++y),0⟩=(1,⟨[1]++y,0⟩):=DO rfl;unfold dP;rw[show ([0,1,1]++y:Φ)=[0,1]++([1]++y) from rfl,this,zzb (by show ¬32767<1;omega)]
 have e3:dy 1 ⟨[1]++y,0⟩=(1,⟨y,0⟩):=DO rfl;have e4:dy 8 ⟨y,0⟩=(n,⟨[],0⟩):=by
  have:=DO (x:=y) (y:=[]) hl;rw[zz4,h8]at this;exact this
 have e2:eT ⟨[1]++y,0⟩=(⟨1,n,⟨#[]⟩⟩,⟨[],0⟩):=by
  unfold eT;rw[e3,zzd rfl,e4,sig,zzd (by omega)]
 have e5:eU 1 ⟨[1]++y,0⟩=([⟨1,n,⟨#[]⟩⟩],⟨[],0⟩):=by
  show (if (0:Int)=0 then _ else _)=_;rw[zzd rfl,e2];rfl
 unfold dK;simp only[e1,e5];rfl
def xR(l:List bz):Option Int:=match l with
 | [f]=>if f.kind=1/\1<=f.n/\f.n<=1099511627776 then some f.n else none
 | _=>none
def kW(b:Φ):Option Int:=match dK b with
 | .ok l=>xR l
 | .error _=>none
def TS{n:Nat}(h1:1<=n)(h:n<=1099511627776):kW (fb n)=some (n:Int):=by
 unfold kW;rw[RQ (by omega)];show (if (1:Int)=1/\1<=(n:Int)/\(n:Int)<=1099511627776 then some (n:Int) else none)=_;rw[zzd ⟨rfl,by omega,by omega⟩]
def gM(q:Φ):Option (Int × List Φ × Nat):=match (gh q).1 with
 | []=>none
 | h::l=>(kW h).map λn=>(n,l,(gh q).2)
def DB(c:Κ)(n:Nat)(h:n % 256=c.toNat):cO (n:Int)=c:=by
 have:=As n;rw[h]at this
 exact UInt8.toNat_inj.1 this
def iw(l:List bz)(i:Nat)(r:fO):Except Int (List bz):=
 if (eU i r).2.e=0 then (if 0<(eU i r).2.b.length then .error 3 else .ok (l++(eU i r).1)) else .error (eU i r).2.e
def SV:∀(i:Nat) (r:fO),r.e≠0->eU i r=([],r)
 | 0,r,_=>rfl
 | i+1,r,h=>by rw[eU,zzb h]
def sN{l:List bz}{i:Nat}{r:fO}(h:r.e≠0):iw l i r= .error r.e:=by
 unfold iw;rw[SV i r h,zzb h]
def xi(l:List bz)(b:Φ):iw l 0 ⟨b,0⟩=if 0<b.length then .error 3 else .ok l:=by
 unfold iw eU;rw[zzd rfl,zz4]
def xh(l:List bz)(i:Nat)(b:Φ):iw l (i+1) ⟨b,0⟩=iw (l++[(eT ⟨b,0⟩).1]) i (eT ⟨b,0⟩).2:=by
 unfold iw;have e:eU (i+1) ⟨b,0⟩=((eT ⟨b,0⟩).1::(eU i (eT ⟨b,0⟩).2).1,(eU i (eT ⟨b,0⟩).2).2):=by rw[eU,zzd rfl]
 rw[e];simp only[zze,zzq,zzp]
def M7{b:Φ}{n:Nat}(h:n<=b.length):eN n ⟨b,0⟩=(b.take n,⟨b.drop n,0⟩):=by
 unfold eN;rw[zzb (by simp),zzb (by show ¬b.length<n;omega)]
def M8{b:Φ}{n:Nat}(h:b.length<n):eN n ⟨b,0⟩=([],⟨b,2⟩):=by
 unfold eN;rw[zzb (by simp),zzd (by show b.length<n;omega)]
def tL{b:Φ}{n:Nat}(h:n<=b.length):dy n ⟨b,0⟩=(cF (b.take n),⟨b.drop n,0⟩):=by unfold dy;rw[M7 h]
def AG{b:Φ}{n:Nat}(h:b.length<n):dy n ⟨b,0⟩=(0,⟨b,2⟩):=by unfold dy;rw[M8 h];rfl
def JD{b:Φ}(h:b.length<2):dK b= .error 2:=by
 have e:dP 32767 ⟨b,0⟩=(0,⟨b,2⟩):=by unfold dP;rw[AG h,zzb (by simp)]
 unfold dK;simp only[e];rfl
def JB{b:Φ}(h:2<=b.length)(hn:32767<cF (b.take 2)):dK b= .error 3:=by
 have e:dP 32767 ⟨b,0⟩=(0,⟨b.drop 2,3⟩):=by unfold dP;rw[tL h,zzd hn]
 unfold dK;simp only[e];rfl
def uO{b:Φ}(h:2<=b.length)(hn:cF (b.take 2)<=32767):dK b=iw [] (cF (b.take 2)) ⟨b.drop 2,0⟩:=by
 have e:dP 32767 ⟨b,0⟩=(cF (b.take 2),⟨b.drop 2,0⟩):=by unfold dP;rw[tL h,zzb (by show ¬32767<cF (b.take 2);omega)]
 unfold dK iw;simp only[e,zzp];by_cases h1:(eU (cF (b.take 2)) ⟨b.drop 2,0⟩).2.e=0
 ·rw[zzd h1,zzd h1];by_cases h2:0<(eU (cF (b.take 2)) ⟨b.drop 2,0⟩).2.b.length
  ·rw[zzd h2,zzd h2,zzb (by decide)]
  rw[zzb h2,zzb h2,zzd rfl]
 rw[zzb h1,zzb h1,zzb h1]
def B0(l:List bz)(i:Nat):iw l (i+1) ⟨[],0⟩= .error 2:=by
 have e:eT ⟨[],0⟩=(nG,⟨[],2⟩):=by
  unfold eT;rw[AG (n:=1) (b:=[]) (by decide)];rfl
 rw[xh,e,sN (by decide)]
def DN(k:Κ)(b:Φ):dy 1 ⟨k::b,0⟩=(k.toNat,⟨b,0⟩):=by
 rw[tL (by simp)];have:=k.toNat_lt;simp only[vvv,uu6,List.drop_succ_cons,List.drop_zero,cF,xxw,uu5];rw[show (0*256+k.toNat) % 18446744073709551616=k.toNat by omega]
def sO{l:List bz}{i:Nat}{k:Κ}{b:Φ}(hk:k.toNat=1):iw l (i+1) ⟨k::b,0⟩=if b.length<8 then .error 2 else iw (l++[⟨1,sig (cF (b.take 8)),⟨#[]⟩⟩]) i ⟨b.drop 8,0⟩:=by
 rw[xh];unfold eT;rw[DN,zzd hk];by_cases h:b.length<8
 ·simp only[AG h];rw[zzd h,sN (by simp)]
 simp only[tL (wwa.1 h)];rw[zzb h]
def sP{l:List bz}{i:Nat}{k:Κ}{b:Φ}(hk:k.toNat=2):iw l (i+1) ⟨k::b,0⟩=if b.length<2 then .error 2 else if 4096<cF (b.take 2) then .error 3 else if b.length-2<cF (b.take 2) then .error 2 else
  iw (l++[⟨2,0,⟨((b.drop 2).take (cF (b.take 2))).toArray⟩⟩]) i ⟨(b.drop 2).drop (cF (b.take 2)),0⟩:=by
 rw[xh];unfold eT;rw[DN,zzb (by omega),zzd hk];by_cases h:b.length<2
 ·have e:dP 4096 ⟨b,0⟩=(0,⟨b,2⟩):=by unfold dP;rw[AG h,zzb (by simp)]
  have e2:eN 0 ⟨b,2⟩=([],⟨b,2⟩):=by unfold eN;rw[zzd (by simp)]
  simp only[e,e2];rw[zzd h,sN (by simp)]
 rw[zzb h];by_cases h2:4096<cF (b.take 2)
 ·have e:dP 4096 ⟨b,0⟩=(0,⟨b.drop 2,3⟩):=by unfold dP;rw[tL (wwa.1 h),zzd h2]
  have e2:eN 0 ⟨b.drop 2,3⟩=([],⟨b.drop 2,3⟩):=by unfold eN;rw[zzd (by simp)]
  simp only[e,e2];rw[zzd h2,sN (by simp)]
 have e:dP 4096 ⟨b,0⟩=(cF (b.take 2),⟨b.drop 2,0⟩):=by unfold dP;rw[tL (wwa.1 h),zzb h2]
 simp only[e];rw[zzb h2];by_cases h3:b.length-2<cF (b.take 2)
 ·rw[M8 (by rw[zz0];exact h3),zzd h3,sN (by simp)]
 rw[M7 (by rw[zz0];omega),zzb h3]
def JF{l:List bz}{i:Nat}{k:Κ}{b:Φ}(h1:k.toNat≠1)(h2:k.toNat≠2):iw l (i+1) ⟨k::b,0⟩= .error 3:=by
 rw[xh];unfold eT;rw[DN,zzb h1,zzb h2];simp only[vvj];rw[sN (by simp)]
structure Rq where
 id:Int
 table:Int
 weight:Int
 at_:Int
 cN:Int
 chunks:Int
 done:Bool
deriving DecidableEq
def ia(r:Rq):Ξ:=[Γ r.id,Γ r.table,Γ r.weight,Γ r.at_,Γ r.cN,Γ r.chunks,.bool r.done]
def oI(r:Rq):(ia r).length=7:=rfl
def Ca(r:Rq):∀v∈ia r,v.oneCell'=true:=by simp[ia,Value.oneCell']
abbrev fX(H:aX)(v:Ε)(L:List Rq):Prop:=bK H 7 v L.length (L.map ia).flatten
def P2(late t:Int):Int:=IntKind.i64.wrap ((BitVec.ofInt IntKind.i64.bits (late.fdiv (2 ^ (min t.toNat IntKind.i64.bits))) &&& BitVec.ofInt IntKind.i64.bits 1).toNat)
structure gD where
 kind:Int
 id:Int
 table:Int
 weight:Int
 at_:Int
 cN:Int
 done:Bool
deriving DecidableEq
structure bV where
 aR:Int
 ops:List fr
 notes:List gD
def lY(n:gD):Ξ:=[Γ n.kind,Γ n.id,Γ n.table,Γ n.weight,Γ n.at_,Γ n.cN,.bool n.done]
def B9(n:gD):(lY n).length=7:=rfl
def emp:Η:=⟨#[]⟩
def jB(o:fr)(aR:Int):Bool:=decide (1<=o.aR/\o.aR<=aR/\0<=o.table/\o.table<8/\1<=o.key/\o.key<=1099511627776/\o.val.size<=32/\(o.gone=true->o.val=emp))
def iU(n:gD)(aR:Int):Bool:=decide (1<=n.id/\n.id<=64 /\
 ((n.kind=1/\0<=n.table/\n.table<8/\1<=n.weight/\n.weight<=8/\1<=n.at_/\n.at_<=aR/\n.cN=0/\n.done=false)\/(n.kind=2/\n.table=0/\n.weight=0/\n.at_=0/\0<=n.cN/\n.cN<=1099511627776)))
def fy(x:bV):Bool:=decide (1<=x.aR/\x.aR<=1099511627776/\x.ops.length<=4096/\x.notes.length<=256) && x.ops.all (λo=>jB o x.aR) && x.notes.all (λn=>iU n x.aR)
def iF(n:Int):bz:=⟨1,n,emp⟩
def tF(s:Η):bz:=⟨2,0,s⟩
def jh(b:Bool):Int:=if b=true then 1 else 0
def SK(o:fr):List bz:=[iF o.aR,iF o.table,iF o.key,iF (jh o.gone),tF o.val]
def SJ(n:gD):List bz:=[iF n.kind,iF n.id,iF n.table,iF n.weight,iF n.at_,iF n.cN,iF (jh n.done)]
def SI(x:bV):List bz:=[iF x.aR,iF x.ops.length]++(x.ops.map SK).flatten++([iF x.notes.length]++(x.notes.map SJ).flatten)
def Sk(x:bV):Except Int Φ:=if fy x=true then gl (SI x) else .error 1
structure bf where
 l:List bz
 bad:Bool
def iB(k:Int)(r:bf):bz × bf:=match r.bad,r.l with
 | false,f::l=>if f.kind=k then (f,⟨l,false⟩) else (nG,⟨f::l,true⟩)
 | _,l=>(nG,⟨l,true⟩)
def cG(r:bf):Int × bf:=((iB 1 r).1.n,(iB 1 r).2)
def cJ(r:bf):Η × bf:=((iB 2 r).1.s,(iB 2 r).2)
def bm(m:Int)(r:bf):Int × bf:=if (cG r).1<0\/m<(cG r).1 then (0,{(cG r).2 with bad:=true}) else cG r
def iu(r:bf):Bool × bf:=(decide ((bm 1 r).1=1),(bm 1 r).2)
def lQ(r:bf):fr × bf:=
 let a:=cG r;let b:=bm 8 a.2;let c:=cG b.2;let d:=iu c.2;let e:=cJ d.2
 (⟨a.1,b.1,c.1,d.1,e.1⟩,e.2)
def nm(r:bf):gD × bf:=
 let a:=bm 2 r;let b:=bm 64 a.2;let c:=bm 8 b.2;let d:=bm 8 c.2;let e:=cG d.2;let f:=cG e.2;let g:=iu f.2
 (⟨a.1,b.1,c.1,d.1,e.1,f.1,g.1⟩,g.2)
def bW{α:Type}(one:bf->α × bf):Nat->bf->List α × bf
 | 0,r=>([],r)
 | i+1,r=>if r.bad=true then ([],r) else ((one r).1::(bW one i (one r).2).1,(bW one i (one r).2).2)
def k9(r:bf):bV × bf:=
 let a:=cG r;let n:=bm 4096 a.2;let os:=bW lQ n.1.toNat n.2;let m:=bm 256 os.2;let ns:=bW nm m.1.toNat m.2
 (⟨a.1,os.1,ns.1⟩,ns.2)
def xj(l:List bz):Option bV:=
 let x:=k9 ⟨l,false⟩
 if x.2.bad=false/\x.2.l=[]/\fy x.1=true then some x.1 else none
def lX(b:Φ):Except Int bV:=match dK b with
 | .error e=>.error e
 | .ok l=>match xj l with
  | some x=>.ok x
  | none=>.error 3
def sc(i:Nat)(r:Rq):Prop:=r.id=(i:Int)+1/\0<=r.table/\r.table<8/\1<=r.weight/\r.weight<=8/\1<=r.at_/\r.at_<=1099511627776/\0<=r.cN/\r.cN<=1099511627776/\0<=r.chunks/\r.chunks<=1099511627776
def wG(L:List Rq)(i:Nat):Prop:=∀h:i<L.length,sc i L[i]/\(∀h0:0<i,L[i-1].at_<=L[i].at_)/\∀k (hk:k<i),¬(L[k].table=L[i].table/\L[k].done=false)
def fV(L:List Rq):Prop:=L.length<=64/\∀i,wG L i
instance (i:Nat) (r:Rq):Decidable (sc i r):=by unfold sc;infer_instance
def fV.fin{L:List Rq}:fV L↔L.length<=64/\∀i:Fin L.length,sc i.1 L[i.1]/\(0<i.1->(L[i.1-1]'(by omega)).at_<=L[i.1].at_)/\∀k:Fin i.1,¬((L[k.1]'(by omega)).table=L[i.1].table/\(L[k.1]'(by omega)).done=false):=
 ⟨λh=>⟨h.1,λi=>⟨(h.2 i.1 i.2).1,(h.2 i.1 i.2).2.1,λk=>(h.2 i.1 i.2).2.2 k.1 k.2⟩⟩,
  λh=>⟨h.1,λi hi=>⟨(h.2 ⟨i,hi⟩).1,(h.2 ⟨i,hi⟩).2.1,λk hk=>(h.2 ⟨i,hi⟩).2.2 ⟨k,hk⟩⟩⟩⟩
instance (L:List Rq):Decidable (fV L):=decidable_of_iff _ fV.fin.symm
def aic(L:List Rq):∀v∈(L.map ia).flatten,v.oneCell'=true:=tR Ca L
def DL(L:List Rq)(t w a:Int):Rq:=⟨((L.length+1:Nat):Int),t,w,a,0,0,false⟩
def rn(L:List Rq)(t w a:Int):Option (List Rq):=if fV L/\fV (L++[DL L t w a]) then some (L++[DL L t w a]) else none
def ly(L:List Rq)(id c:Int)(dn:Bool):Option (List Rq):=
 if fV L/\1<=id/\id<=L.length then match L[(id-1).toNat]? with
  | some r=>if r.done=true\/c<r.cN\/1099511627776<c\/1099511627776<=r.chunks then none else some (L.set (id-1).toNat {r with cN:=c,chunks:=r.chunks+1,done:=dn})
  | none=>none
 else none
def Rl{L:List Rq}(hM:fV L){j:Nat}(hj:j<L.length)(c:Int)(dn:Bool):ly L ((j+1:Nat):Int) c dn =
  if L[j].done=true\/c<L[j].cN\/1099511627776<c\/1099511627776<=L[j].chunks then none else some (L.set j {L[j] with cN:=c,chunks:=L[j].chunks+1,done:=dn}):=by
 unfold ly;have e:(((j+1:Nat):Int)-1).toNat=j:=by omega
 rw[zzd ⟨hM,by omega,by omega⟩,e,zzc hj]
def Rm{L:List Rq}{id c:Int}{dn:Bool}(h:¬(fV L/\1<=id/\id<=L.length)):ly L id c dn=none:=zzb h
def I7{L L':List Rq}{t w a:Int}(h:rn L t w a=some L'):fV L':=by
 unfold rn at h;split at h
 ·rename_i hm;cases h;exact hm.2
 cases h
def Ju{L L':List Rq}{id c:Int}{dn:Bool}(h:ly L id c dn=some L'):fV L':=by
 unfold ly at h;split at h
 ·rename_i hm;obtain⟨hM,h1,h2⟩:=hm;split at h
  ·rename_i r hr;split at h
   ·cases h
   rename_i hc;cases h;generalize (id-1).toNat=j at *
   obtain⟨hj,hr⟩:=zzf.1 hr;refine⟨by rw[yyi];exact hM.1,λi hi=>?_⟩;rw[yyi]at hi
   have ie:∀k (hk:k<L.length),((L.set j {r with cN:=c,chunks:=r.chunks+1,done:=dn})[k]'(by rw[yyi];exact hk)).at_=L[k].at_/\((L.set j {r with cN:=c,chunks:=r.chunks+1,done:=dn})[k]'(by rw[yyi];exact hk)).table=L[k].table:=λk hk=>by
    rw[xxr];split
    ·rename_i e;subst e;rw[hr];exact⟨rfl,rfl⟩
    exact⟨rfl,rfl⟩
   obtain⟨k1,k2,k3⟩:=hM.2 i hi;refine⟨?_,λh0=>?_,λk hk=>?_⟩
   ·rw[xxr];split
    ·rename_i e;subst e;rw[hr]at k1
     unfold sc at k1 ⊢;simp only;omega
    exact k1
   ·rw[(ie (i-1) (by omega)).1,(ie i hi).1];exact k2 h0
   rw[(ie k (by omega)).2,(ie i hi).2];rintro ⟨e1,e2⟩;rw[xxr]at e2
   split at e2
   ·rename_i e;subst e;refine k3 j hk ⟨e1,?_⟩;rw[hr];cases hd:r.done with
    | false=>rfl
    | true=>exact absurd (.inl hd) hc
   exact k3 k hk ⟨e1,e2⟩
  cases h
 cases h
structure bR where
 file:Int
 first:Int
 size:Nat
 l:List Φ
structure ur where
 file:Int
 lG:Int
 fresh:Bool
structure b6 where
 a_:List bR
 base:Int
 size:Int
 cE:Option ur
def bR.next(s:bR):Int:=s.first+s.l.length
def bF(L:List bR):Int:=match L.getLast? with
 | none=>0
 | some s=>s.next-1
def cX(L:List bR):Int:=match L with
 | []=>1
 | s::_=>s.first
def kA:List bR->Int->Option Φ
 | [],_=>none
 | s::r,n=>if s.first<=n/\n<s.next then s.l[(n-s.first).toNat]? else kA r n
structure je where
 file:Int
 fresh:Bool
 b:Φ
def nM(g:b6)(f:Int)(p:Φ):Except Int je:=
 if g.base+4096<=f then .error 7 else .ok ⟨f,true,cD (fb (bF g.a_+1).toNat)++cD p⟩
def gg(g:b6)(off:Bool)(p:Φ):Except Int je:=
 if 1048576<p.length then .error 1
 else if off=true then .error 8
 else if 1099511627776<=bF g.a_ then .error 7
 else match g.a_.getLast? with
  | none=>nM g g.base p
  | some s=>if s.l.length=0\/(s.size:Int)+(cD p).length<=g.size then .ok ⟨s.file,false,cD p⟩ else nM g (s.file+1) p
def cY(g:b6)(d:DS):(b6 × DS) × Int:=match g.cE with
 | none=>((g,d),0)
 | some x=>(({g with cE:=if (if x.fresh=true then d.remove x.file else d.cut x.file x.lG).2=0 then none else some x},(if x.fresh=true then d.remove x.file else d.cut x.file x.lG).1),(if x.fresh=true then d.remove x.file else d.cut x.file x.lG).2)
def o5(L:List bR)(x:je)(p:Φ):List bR:=
 let L:=if x.fresh=true then L++[⟨x.file,bF L+1,0,[]⟩] else L
 L.dropLast++L.getLast?.toList.map λs=>{s with size:=s.size+x.b.length,l:=s.l++[p]}
def gk(g:b6)(d:DS)(p:Φ):(b6 × DS) × (Int × Int):=match gg g d.off p with
 | .error e=>((g,d),(0,e))
 | .ok x=>
  let m:=cY g d
  if m.2≠0 then (m.1,(0,m.2)) else
  let a:=m.1.2.append x.file x.b
  if a.2≠0 then ((m.1.1,a.1),(0,a.2)) else
  let s:=a.1.sync x.file
  if s.2≠0 then ((m.1.1,s.1),(0,s.2)) else
  (({m.1.1 with a_:=o5 m.1.1.a_ x p},s.1),(bF (o5 m.1.1.a_ x p),0))
def pP(L:List bR):Int:=match L.getLast? with
 | none=>0
 | some s=>s.size
def aIe(g:b6)(d:DS)(p:Φ)(k:Int):(b6 × DS) × Int:=
 if k<0 then ((g,d),1) else match gg g d.off p with
 | .error e=>((g,d),e)
 | .ok x=>
  let m:=cY g d
  if m.2≠0 then (m.1,m.2) else
  let a:=m.1.2.append x.file (x.b.take (k.toNat % x.b.length))
  if a.2≠0 then ((m.1.1,a.1),a.2) else
  (({m.1.1 with cE:=some ⟨x.file,if x.fresh=true then 0 else pP m.1.1.a_,x.fresh⟩},a.1),0)
def A3:List bR->DS->Int->(List bR × DS) × Int
 | s::t::r,d,n=>if s.next-1<=n then (if (d.remove s.file).2≠0 then ((s::t::r,(d.remove s.file).1),(d.remove s.file).2) else A3 (t::r) (d.remove s.file).1 n) else ((s::t::r,d),0)
 | L,d,_=>((L,d),0)
def aIh(g:b6)(d:DS)(n:Int):(b6 × DS) × Int:=
 if d.off=true then ((g,d),8) else (({g with a_:=(A3 g.a_ d n).1.1},(A3 g.a_ d n).1.2),(A3 g.a_ d n).2)
def dB(base:Int)(R:List PF):Ω:=(R.map PF.id).filter λf=>decide (base<=f/\f<base+4096)
def gy(L:List bR)(R:List PF)(f:Int)(last:Bool):(Bool × Bool) × List bR:=
 let b:=((cw PF.id R f).map PF.b).getD []
 match gM b with
 | none=>((false,last),L)
 | some (first,l,n)=>
  if (last=false/\(n≠b.length\/l.length=0))\/(0<L.length/\first≠bF L+1)\/1099511627776<first+l.length-1 then ((true,false),L)
  else ((true,true),L++[⟨f,first,n,l⟩])
def jz(R:List PF):Ω->Option Int->List bR->Bool->Option (List bR × Bool)
 | [],_,L,whole=>some (L,whole)
 | f::r,prev,L,whole=>
  let x:=gy L R f r.isEmpty
  if x.1.2=false then none else if (match prev with|none=>false|some g=>decide (f≠g+1))=true then none else jz R r (some f) x.2 x.1.1
def gQ(L:List bR)(d:DS)(ids:Ω)(whole:Bool):DS × Int:=match ids.getLast? with
 | none=>(d,0)
 | some f=>if whole=false then d.remove f else if pP L<mg d.R f then d.cut f (pP L) else (d,0)
def eO(d:DS)(base size:Int):DS × Except Int b6:=
 if base<0\/12288<base\/size<64\/65536<size then (d,.error 1)
 else if d.off=true then (d,.error 8)
 else match jz d.R (dB base d.R) none [] true with
  | none=>(d,.error 3)
  | some (L,whole)=>if (gQ L d (dB base d.R) whole).2≠0 then ((gQ L d (dB base d.R) whole).1,.error (gQ L d (dB base d.R) whole).2) else ((gQ L d (dB base d.R) whole).1,.ok ⟨L,base,size,none⟩)
structure iM(s:bR)(N:Nat):Prop where
 f0:0<=s.file
 f1:s.file<=100000
 n0:1<=s.first
 n1:s.first<=1099511627776
 sz:s.size<=N
 ln:s.l.length<=N
 bl:∀b∈s.l,b.length<=1048576
structure b6.Ok(g:b6)(N:Nat):Prop where
 a_:∀s∈g.a_,iM s N
 b0:0<=g.base
 b1:g.base<=12288
 s0:64<=g.size
 s1:g.size<=65536
 ln:g.a_.length<=N
def rO{L:List bR}{N:Nat}(h:∀s∈L,iM s N):0<=bF L/\bF L<=1099511627776+N:=by
 unfold bF;split
 ·omega
 rename_i s hs;have:=h s (uuf hs);have h1:=this.n0;have h2:=this.n1;have h3:=this.ln;simp only[bR.next];omega
section
variable {A:List PF} {x:PF}
end
def re(f:Int)(R:List PF):Prop:=∀i (h:i<R.length),R[i].id=f+i
def re.sorted{f:Int}{R:List PF}(h:re f R):fF PF.id R:=by
 unfold fF;rw[xx7];intro i j hi hj pD;rw[h i hi,h j hj];omega
def re.mem{f:Int}{R:List PF}(h:re f R){x:PF}(hx:x∈R):f<=x.id/\x.id<f+R.length:=by
 obtain⟨i,hi,rfl⟩:=yy5.1 hx;rw[h i hi];omega
def mu(s:bR):Φ:=j8 (fb s.first.toNat::s.l)
def mv(s:bR):PF:=⟨s.file,(mu s).length,mu s⟩
def gX:Int->Int->List bR->Prop
 | _,_,[]=>True
 | f,n,s::r=>s.file=f/\s.first=n/\s.size=(mu s).length/\(∀p∈s.l,p.length<=1048576)/\(r≠[]->s.l≠[])/\gX (f+1) (n+s.l.length) r
def cr(L:List bR):List Φ:=(L.map bR.l).flatten
def uX(s:bR)(L:List bR):cr (s::L)=s.l++cr L:=by simp[cr]
def Sr(A B:List bR):cr (A++B)=cr A++cr B:=by simp[cr]
def gX.app:∀{f n:Int} {A B:List bR},gX f n (A++B)↔gX f n A/\(B≠[]->∀s∈A,s.l≠[])/\gX (f+A.length) (n+(cr A).length) B
 | f,n,[],B=>by simp[gX,cr]
 | f,n,s::A,B=>by
  have ih:=gX.app (f:=f+1) (n:=n+s.l.length) (A:=A) (B:=B);have e1:f+1+(A.length:Int)=f+((s::A).length:Int):=by simp;omega
  have e2:n+(s.l.length:Int)+((cr A).length:Int)=n+((cr (s::A)).length:Int):=by rw[uX,zza];omega
  rw[e1,e2]at ih
  rw[zzq];simp only[gX,ih];constructor
  ·rintro ⟨h1,h2,h3,h4,h5,h6,h7,h8⟩;refine⟨⟨h1,h2,h3,h4,λhA=>h5 (by simp[hA]),h6⟩,λhB t ht=>?_,h8⟩;rcases zzv.1 ht with rfl|ht
   ·exact h5 (by simp[hB])
   exact h7 hB t ht
  rintro ⟨⟨h1,h2,h3,h4,h5,h6⟩,h7,h8⟩;refine⟨h1,h2,h3,h4,λh=>?_,h6,λhB t ht=>h7 hB t (.tail _ ht),h8⟩;by_cases hA:A=[]
  ·subst hA;exact h7 (by simpa using h) s (.head _)
  exact h5 hA
def gX.Jz:∀{f n:Int} {L:List bR},gX f n L->re f (L.map mv)
 | f,n,[],_=>λi h=>by simp at h
 | f,n,s::L,h=>by
  obtain⟨h1,_,_,_,_,h6⟩:=h;have ih:=h6.Jz;intro i hi;cases i with
  | zero=>simpa [mv] using h1
  | succ i=>
   have:=ih i (by simpa using hi);simp only[zzj,vv9];rw[this];push_cast;omega
def gX.head{f n:Int}{L:List bR}(h:gX f n L)(hL:L≠[]):bF L=n+(cr L).length-1:=by
 obtain⟨A,s,rfl⟩:∃A s,L=A++[s]:=⟨L.dropLast,L.getLast hL,(vve hL).symm⟩;obtain⟨_,_,h3⟩:=gX.app.1 h;obtain⟨_,h4,_⟩:=h3;unfold bF;rw[wwf,Sr];simp only[bR.next,h4,zza];simp[cr];omega
def gX.low{f n:Int}{L:List bR}(h:gX f n L)(hL:L≠[]):cX L=n:=by
 cases L with
 | nil=>exact absurd rfl hL
 | cons s L=>exact h.2.1
def gX.bl:∀{f n:Int} {L:List bR},gX f n L->∀s∈L,s.size=(mu s).length/\∀p∈s.l,p.length<=1048576
 | f,n,[],_,s,hs=>by cases hs
 | f,n,t::L,h,s,hs=>by
  obtain⟨_,_,h3,h4,_,h6⟩:=h;rcases zzv.1 hs with rfl|hs
  ·exact⟨h3,h4⟩
  exact h6.bl s hs
def TR(n:Nat):(fb n).length<=1048576:=by rw[vn];omega
def X5{n:Nat}{l:List Φ}(h1:1<=n)(h2:n<=1099511627776)(hl:∀p∈l,p.length<=1048576):gM (j8 (fb n::l))=some ((n:Int),l,(j8 (fb n::l)).length):=by
 have:=awp (fb n::l) [] (λp hp=>by rcases zzv.1 hp with rfl|hp;exact TR n;exact hl p hp) ⟨2,aF5⟩;rw[zz4]at this
 unfold gM;rw[this];simp only[TS h1 h2,yyn]
def VV{R:List PF}{L0:List bR}{f n:Int}{s:bR}{last:Bool}{x:PF}(hx:cw PF.id R f=some x)(hb:x.b=mu s)(h1:s.file=f)(h2:s.first=n)(h3:s.size=(mu s).length)(h4:∀p∈s.l,p.length<=1048576)
  (n1:1<=n) (n2:n+s.l.length<=1099511627776) (hl:last=false->s.l≠[]) (h0:L0=[]\/bF L0+1=n):gy L0 R f last=((true,true),L0++[s]):=by
 unfold gy;rw[hx];simp only[yyn,xx9,hb];have hr:gM (mu s)=some (s.first,s.l,(mu s).length):=by
  have:=X5 (n:=s.first.toNat) (l:=s.l) (by omega) (by omega) h4;unfold mu;rw[this];congr 2;omega
 rw[hr];have hs:(⟨f,s.first,(mu s).length,s.l⟩:bR)=s:=by
  obtain⟨a,b,c,d⟩:=s;simp only at h1 h3;simp[<- h1,<- h3]
 simp only;rw[zzb,hs];rintro (⟨e1,e2⟩|⟨e1,e2⟩|e)
 ·rcases e2 with e2|e2
  ·exact e2 rfl
  exact hl e1 (zzm e2)
 ·rcases h0 with rfl|h0
  ·simp at e1
  omega
 omega
def s4(prev:Option Int)(f:Int):Bool:=match prev with
 | none=>false
 | some g=>decide (f≠g+1)
def Aq(R:List PF)(f:Int)(r:Ω)(prev:Option Int)(L:List bR)(wh:Bool):jz R (f::r) prev L wh =
  if (gy L R f r.isEmpty).1.2=false then none else if s4 prev f=true then none else jz R r (some f) (gy L R f r.isEmpty).2 (gy L R f r.isEmpty).1.1:=rfl
def Mo(R:List PF):∀(r:List bR) (f n:Int) (L0:List bR) (prev:Option Int) (ids:Ω) (wh:Bool),gX f n r->(∀s∈r,∃x,cw PF.id R s.file=some x/\x.b=mu s)->(L0=[]\/bF L0+1=n)->(prev=none\/prev=some (f-1))->1<=n->n+(cr r).length<=1099511627776->(ids≠[]->∀s∈r,s.l≠[]) ->
  jz R (r.map bR.file++ids) prev L0 wh=jz R ids (if r=[] then prev else some (f+r.length-1)) (L0++r) (if r=[] then wh else true)
 | [],f,n,L0,prev,ids,wh,_,_,_,_,_,_,_=>by simp
 | s::r,f,n,L0,prev,ids,wh,hc,hg,h0,hp,n1,n2,hi=>by
  obtain⟨h1,h2,h3,h4,h5,h6⟩:=hc;obtain⟨x,hx,hb⟩:=hg s (.head _);rw[uX,zza]at n2
  have lI:gy L0 R s.file (r.map bR.file++ids).isEmpty=((true,true),L0++[s]):=by
   refine VV hx hb rfl h2 h3 h4 n1 (by omega) (λhl=>?_) h0;by_cases hr:r=[]
   ·subst hr;refine hi (λe=>?_) s (.head _);subst e;simp at hl
   exact h5 hr
  rw[zzj,zzq,Aq];simp only[lI];rw[zzb (by simp),zzb ?_]
  ·rw[Mo R r (f+1) (n+s.l.length) (L0++[s]) (some s.file) ids true h6 (λt ht=>hg t (.tail _ ht)) (.inr ?_) (.inr (by rw[h1];congr 1;omega)) (by omega) (by omega) (λhd t ht=>hi hd t (.tail _ ht))]
   ·rw[zzb (by simp:¬(s::r=[])),zzb (by simp:¬(s::r=[])),zze];by_cases hr:r=[]
    ·subst hr;simp[h1]
    rw[zzb hr,zzb hr];congr 2;simp;omega
   unfold bF;rw[wwf];simp only[bR.next];omega
  rcases hp with rfl|rfl
  ·simp[s4]
  simp[s4,h1]
def U4{R:List PF}{f base:Int}(h:re f R)(h1:base<=f)(h2:f+R.length<=base+4096):dB base R=R.map PF.id:=by
 unfold dB;rw[xxn];intro a ha;obtain⟨x,hx,rfl⟩:=zz1.1 ha;have:=h.mem hx;simp only[zzo];omega
def Tf{f n:Int}{L:List bR}{R:List PF}(hR:re f R)(hs:∀s∈L,mv s∈R):∀s∈L,∃x,cw PF.id R s.file=some x/\x.b=mu s:=λs h=>⟨mv s,xD hR.sorted (hs s h),rfl⟩
def V_(L:List bR):(L.map mv).map PF.id=L.map bR.file:=by rw[xxj];rfl
def Xm{d:DS}{L:List bR}{f n base size:Int}(hc:gX f n L)(hR:d.R=L.map mv)(z':d.off=false)(b0:0<=base)(b1:base<=12288)(s0:64<=size)(s1:size<=65536)(hf:base<=f)(T0:f+L.length<=base+4096)
  (n1:1<=n) (n2:n+(cr L).length<=1099511627776):eO d base size=(d,.ok ⟨L,base,size,none⟩):=by
 have CJ:=hc.Jz;have K4:dB base d.R=L.map bR.file:=by
  rw[hR,U4 CJ hf (by rw[yyh];exact T0),V_]
 have hl:=Mo d.R L f n [] none [] true hc (Tf (f:=f) (n:=n) (by rw[hR];exact CJ) (λs hs=>by rw[hR];exact zz1.2 ⟨s,hs,rfl⟩)) (.inl rfl) (.inl rfl) n1 n2 (λh=>absurd rfl h);rw[zz4]at hl
 unfold eO;rw[zzb (by omega),zzb (by simp[z']),K4,hl];simp only[jz,zzp];have hb:gQ L d (L.map bR.file) (if L=[] then true else true)=(d,0):=by
  unfold gQ;rcases List.eq_nil_or_concat L with rfl|⟨A,s,rfl⟩
  ·rfl
  simp only[List.concat_eq_append,zzx,zzj,xxa,wwf];rw[zzb (by simp),zzb];have gK:=(hc.bl s (by simp)).1;have:cw PF.id d.R s.file=some (mv s):=by
   rw[hR];exact xD (x:=mv s) CJ.sorted (by simp)
  unfold mg pP;rw[this,wwf];simp only[mv,gK];omega
 rw[hb];simp
structure mG(g:b6)(d:DS)(f n:Int)(es:List Φ):Prop where
 chain:gX f n g.a_
 sV:cr g.a_=es
 files:d.R=g.a_.map mv
 nil:g.a_=[]->f=g.base/\n=1
 base:g.base<=f
 b0:0<=g.base
 b1:g.base<=12288
 s0:64<=g.size
 s1:g.size<=65536
 n1:1<=n
 fi:f+es.length+2<=g.base+4096
 off:d.off=false
 cE:g.cE=none
def mG.head{g:b6}{d:DS}{f n:Int}{es:List Φ}(h:mG g d f n es):bF g.a_=n+es.length-1:=by
 by_cases hL:g.a_=[]
 ·have:=h.nil hL;have e:=h.sV;rw[hL]at e ⊢
  rw[<- e,this.2];rfl
 rw[h.chain.head hL,h.sV]
def E4(d:DS)(f n:Int)(es:List Φ)(p:Φ)(whole:Bool):Prop:=∃A l0 pre k,
 gX f n A/\(∀s∈A,s.l≠[])/\cr A++l0=es/\(∀q∈l0++[p],q.length<=1048576)/\(l0=[]\/pre=(j8 (fb (n+(cr A).length).toNat::l0)).length)/\pre<=k/\k<=(j8 (fb (n+(cr A).length).toNat::(l0++[p]))).length /\
 (whole=false->k<(j8 (fb (n+(cr A).length).toNat::(l0++[p]))).length)/\d.R=A.map mv++[⟨f+A.length,pre,(j8 (fb (n+(cr A).length).toNat::(l0++[p]))).take k⟩]
def Nx{g:b6}{off:Bool}{p:Φ}{x:je}(h:gg g off p= .ok x):x.b.length<=27+p.length:=by
 have hf:∀F,nM g F p= .ok x->x.b.length<=27+p.length:=λF h=>by
  unfold nM at h;split at h
  ·cases h
  cases h;simp only[zza,nx,vn];omega
 unfold gg at h;split at h
 ·cases h
 split at h
 ·cases h
 split at h
 ·cases h
 split at h
 ·exact hf _ h
 split at h
 ·cases h;simp only[nx];omega
 exact hf _ h
def MU{g:b6}{d:DS}{N:Nat}(h:d.Ok N):(cY g d).1.2.Ok N:=by
 unfold cY;split
 ·exact h
 simp only;split
 ·exact h.remove _
 exact h.cut _ _
def PL{g:b6}{d:DS}{N:Nat}(h:d.Ok N)(p:Φ):(gk g d p).1.2.Ok (N+(27+p.length)):=by
 unfold gk;split
 ·exact h.mono (by omega)
 rename_i x hx;have hl:=Nx hx;have hm:=MU (g:=g) h;simp only;split
 ·exact hm.mono (by omega)
 have ha:=(hm.append x.file x.b).mono (M:=N+(27+p.length)) (by omega);split
 ·exact ha
 have hs:=ha.sync x.file;split
 ·exact hs
 exact hs
def BK{L:List bR}{d:DS}{ids:Ω}{wh:Bool}{N:Nat}(h:d.Ok N):(gQ L d ids wh).1.Ok N:=by
 unfold gQ;split
 ·exact h
 split
 ·exact h.remove _
 split
 ·exact h.cut _ _
 exact h
def Xg{d:DS}{base size:Int}{N:Nat}(h:d.Ok N):(eO d base size).1.Ok N:=by
 unfold eO;split
 ·exact h
 split
 ·exact h
 split
 ·exact h
 split
 ·exact BK h
 exact BK h
def iM.mono{s:bR}{N M:Nat}(h:iM s N)(hm:N<=M):iM s M:=⟨h.f0,h.f1,h.n0,h.n1,xx3 h.sz hm,xx3 h.ln hm,h.bl⟩
def b6.Ok.mono{g:b6}{N M:Nat}(h:g.Ok N)(hm:N<=M):g.Ok M:=⟨λs hs=>(h.a_ s hs).mono hm,h.b0,h.b1,h.s0,h.s1,xx3 h.ln hm⟩
def b6.Ok.congr{g g':b6}{N:Nat}(h:g.Ok N)(h1:g'.a_=g.a_)(h2:g'.base=g.base)(h3:g'.size=g.size):g'.Ok N:=
 ⟨by rw[h1];exact h.a_,by rw[h2];exact h.b0,by rw[h2];exact h.b1,by rw[h3];exact h.s0,by rw[h3];exact h.s1,by rw[h1];exact h.ln⟩
def vX(g:b6)(d:DS):(cY g d).1.1.a_=g.a_/\(cY g d).1.1.base=g.base/\(cY g d).1.1.size=g.size:=by
 unfold cY;split<;>exact⟨rfl,rfl,rfl⟩
def MT{g:b6}{d:DS}{N:Nat}(h:g.Ok N):(cY g d).1.1.Ok N:=let ⟨a,b,c⟩:=vX g d;h.congr a b c
structure sG(g:b6)(p:Φ)(x:je):Prop where
 pl:p.length<=1048576
 hd:bF g.a_<1099511627776
 nq:x.fresh=false->∃s,g.a_.getLast?=some s/\x.file=s.file
 f0:x.fresh=true->0<=x.file/\x.file<=100000
 bl:x.b.length<=27+p.length
 pos:8<=x.b.length
def Ny{g:b6}{N:Nat}(h:g.Ok N){off:Bool}{p:Φ}{x:je}(hx:gg g off p= .ok x):sG g p x:=by
 have hb:=Nx hx;have h0:=h.b0;have h1:=h.b1;have hp:p.length<=1048576:=by
  unfold gg at hx;split at hx
  ·cases hx
  omega
 have xV:∀F,0<=F->bF g.a_<1099511627776->nM g F p= .ok x->sG g p x:=λF hF hd hx=>by
  unfold nM at hx;split at hx
  ·cases hx
  cases hx;exact⟨hp,hd,λe=>(by cases e),λ_=>⟨hF,by show F<=100000;omega⟩,hb,by show 8<=(cD _++cD p).length;rw[zza,nx];omega⟩
 unfold gg at hx;rw[zzb (by omega)]at hx
 split at hx
 ·cases hx
 split at hx
 ·cases hx
 rename_i hd;have hd:bF g.a_<1099511627776:=by omega
 split at hx
 ·exact xV _ h0 hd hx
 rename_i s hs;split at hx
 ·cases hx;exact⟨hp,hd,λ_=>⟨s,hs,rfl⟩,λe=>(by cases e),hb,by show 8<=(cD p).length;rw[nx];omega⟩
 have:=(h.a_ s (uuf hs)).f0;exact xV _ (by omega) hd hx
def n4(L:List bR)(x:je):List bR:=if x.fresh=true then L++[⟨x.file,bF L+1,0,[]⟩] else L
def ph(s:bR)(n:Nat)(p:Φ):bR:={s with size:=s.size+n,l:=s.l++[p]}
def AJ(L:List bR)(x:je)(p:Φ){A:List bR}{s:bR}(h:n4 L x=A++[s]):o5 L x p=A++[ph s x.b.length p]:=by
 unfold o5;have:(if x.fresh=true then L++[⟨x.file,bF L+1,0,[]⟩] else L)=A++[s]:=h;rw[this];simp only[List.dropLast_concat,wwf];rfl
def DK{g:b6}{p:Φ}{x:je}(h:sG g p x):∃A s,n4 g.a_ x=A++[s]:=by
 unfold n4;cases hf:x.fresh with
 | true=>exact⟨_,_,rfl⟩
 | false=>
  obtain⟨s,hs,_⟩:=h.nq hf;obtain⟨A,hA⟩:=List.getLast?_eq_some_iff.1 hs;exact⟨A,s,by rw[zzb (by decide)];exact hA⟩
def M3{g:b6}{N:Nat}(hg:g.Ok N){p:Φ}{x:je}(h:sG g p x):∀s∈n4 g.a_ x,iM s N:=by
 intro s hs;unfold n4 at hs;split at hs
 ·rename_i hf;rcases yyb.1 hs with hs|hs
  ·exact hg.a_ s hs
  rw[zz8.1 hs];have:=rO hg.a_;have:=h.hd;exact⟨(h.f0 hf).1,(h.f0 hf).2,by show 1<=bF g.a_+1;omega,by show bF g.a_+1<=_;omega,yye _,yye _,λb hb=>by cases hb⟩
 exact hg.a_ s hs
def WE(L:List bR)(x:je):(n4 L x).length<=L.length+1:=by
 unfold n4;split<;>simp
def NA{g:b6}{N:Nat}(hg:g.Ok N){p:Φ}{x:je}(h:sG g p x):(∀s∈o5 g.a_ x p,iM s (N+(28+p.length)))/\(o5 g.a_ x p).length<=N+1:=by
 obtain⟨A,s,hA⟩:=DK h;have br:=M3 hg h;have hl:=WE g.a_ x;have hn:=hg.ln;rw[AJ _ _ _ hA];rw[hA]at br hl
 refine⟨λt ht=>?_,by simp at hl ⊢;omega⟩;rcases yyb.1 ht with ht|ht
 ·exact (br t (List.mem_append_left _ ht)).mono (by omega)
 rw[zz8.1 ht];have hs:=br s (by simp);have:=hs.sz;have:=hs.ln;have:=h.bl;refine⟨hs.f0,hs.f1,hs.n0,hs.n1,by show s.size+x.b.length<=_;omega,by show (s.l++[p]).length<=_;simp;omega,λb hb=>?_⟩;rcases yyb.1 hb with hb|hb
 ·exact hs.bl b hb
 rw[zz8.1 hb];exact h.pl
def hJ:List bR->Prop
 | []=>True
 | [_]=>True
 | s::t::r=>t.first=s.next/\hJ (t::r)
def hJ.snoc:∀{L:List bR} {x:bR},hJ L->(L≠[]->x.first=bF L+1)->hJ (L++[x])
 | [],x,_,_=>trivial
 | [s],x,_,h=>⟨by have:=h (by simp);simp only[bF,List.getLast?_singleton]at this;omega,trivial⟩
 | s::t::r,x,h,hx=>by
  refine⟨h.1,?_⟩;refine hJ.snoc (L:=t::r) h.2 λ_=>?_;have:=hx (by simp);simp only[bF,List.getLast?_cons_cons]at this ⊢;exact this
def hJ.last:∀{A:List bR} {s t:bR},hJ (A++[s])->t.first=s.first->hJ (A++[t])
 | [],s,t,_,_=>trivial
 | [a],s,t,h,e=>⟨by rw[e];exact h.1,trivial⟩
 | a::b::r,s,t,h,e=>⟨h.1,hJ.last (A:=b::r) h.2 e⟩
def Pm(g:b6):Prop:=∀x,g.cE=some x->0<=x.file/\x.file<=100000/\(x.fresh=false->∃s,g.a_.getLast?=some s/\s.file=x.file/\x.lG=s.size)/\(x.fresh=true->∀s,g.a_.getLast?=some s->s.file≠x.file)
structure gY(g:b6)(M:Nat):Prop where
 ok:g.Ok M
 seq:hJ g.a_
 hd:bF g.a_<=1099511627776
 cE:Pm g
def gY.mono{g:b6}{N M:Nat}(h:gY g N)(hm:N<=M):gY g M:=⟨h.ok.mono hm,h.seq,h.hd,h.cE⟩
def MV(g:b6)(d:DS):(cY g d).1.1.cE=if (cY g d).2=0 then none else g.cE:=by
 unfold cY;split
 ·rename_i h;simp[h]
 rename_i x h;simp only;split<;>simp[h]
def Ww{g:b6}{d:DS}{M:Nat}(h:gY g M):gY (cY g d).1.1 M:=by
 obtain⟨h1,h2,h3⟩:=vX g d;refine⟨MT h.ok,by rw[h1];exact h.seq,by rw[h1];exact h.hd,λx hx=>?_⟩;rw[MV]at hx
 split at hx
 ·cases hx
 rw[h1];exact h.cE x hx
def CM(A:List bR)(s:bR):bF (A++[s])=s.next-1:=by
 unfold bF;rw[wwf]
def XS{g:b6}{M:Nat}(h:gY g M){p:Φ}{x:je}(hw:sG g p x)(ht:g.cE=none):gY {g with a_:=o5 g.a_ x p} (M+(28+p.length)):=by
 obtain⟨k1,k2⟩:=NA h.ok hw;have hb:=h.ok;have K1:=hw.hd;obtain⟨A,s,hA⟩:=DK hw;have Dc:hJ (A++[s])/\s.next-1<=bF g.a_:=by
  rw[<- hA];unfold n4 at hA ⊢;split
  ·rename_i hf;rw[zzd hf]at hA
   have hs:=List.append_inj' hA rfl;have e:s=⟨x.file,bF g.a_+1,0,[]⟩:=by simpa using hs.2.symm
   refine⟨h.seq.snoc λ_=>rfl,?_⟩;rw[e];simp[bR.next]
  rename_i hf;rw[zzb hf]at hA
  refine⟨h.seq,?_⟩;rw[hA,CM];exact yyv _
 rw[AJ _ _ _ hA]at k1 k2 ⊢
 refine⟨⟨k1,hb.b0,hb.b1,hb.s0,hb.s1,by show (A++[ph s x.b.length p]).length<=_;omega⟩,Dc.1.last rfl,?_,λy hy=>?_⟩
 ·show bF (A++[ph s x.b.length p])<=_;rw[CM];have e:(ph s x.b.length p).next=s.next+1:=by simp[bR.next,ph];omega
  rw[e];omega
 have:g.cE=some y:=hy;rw[ht]at this;cases this
def PG{g:b6}{d:DS}{M:Nat}(h:gY g M)(p:Φ):gY (gk g d p).1.1 (M+(28+p.length)):=by
 unfold gk;split
 ·exact h.mono (by omega)
 rename_i x hx;have hw:=Ny h.ok hx;have hm:=Ww (d:=d) h;obtain⟨m1,_,_⟩:=vX g d;have mt:=MV g d;simp only;split
 ·exact hm.mono (by omega)
 rename_i h0;have h0:(cY g d).2=0:=by simpa using h0
 rw[zzd h0]at mt
 split
 ·exact hm.mono (by omega)
 split
 ·exact hm.mono (by omega)
 refine XS hm ⟨hw.pl,by rw[m1];exact hw.hd,by rw[m1];exact hw.nq,hw.f0,hw.bl,hw.pos⟩ mt
def VW{L:List bR}{R:List PF}{f:Int}{last:Bool}(h:hJ L)(hh:bF L<=1099511627776):hJ (gy L R f last).2/\bF (gy L R f last).2<=1099511627776:=by
 unfold gy;simp only;split
 ·exact⟨h,hh⟩
 split
 ·exact⟨h,hh⟩
 rename_i k l n hr hc;refine⟨h.snoc λhL=>?_,?_⟩
 ·show k=bF L+1;have:0<L.length:=List.length_pos_iff.2 hL;rcases Int.lt_trichotomy k (bF L+1) with h1|h1|h1
  ·exact absurd (.inr (.inl ⟨this,by omega⟩)) hc
  ·exact h1
  exact absurd (.inr (.inl ⟨this,by omega⟩)) hc
 show bF (L++[_])<=_;rw[CM];simp only[bR.next];rcases Int.lt_or_le 1099511627776 (k+l.length-1) with h1|h1
 ·exact absurd (.inr (.inr h1)) hc
 exact h1
def Mm{R:List PF}:∀(ids:Ω) (prev:Option Int) (L:List bR) (wh:Bool),hJ L->bF L<=1099511627776->∀{L' sr},jz R ids prev L wh=some (L',sr)->hJ L'/\bF L'<=1099511627776
 | [],prev,L,wh,h,hh,L',sr,e=>by cases e;exact⟨h,hh⟩
 | f::r,prev,L,wh,h,hh,L',sr,e=>by
  rw[Aq]at e
  obtain⟨k1,k2⟩:=VW (R:=R) (f:=f) (last:=r.isEmpty) h hh;split at e
  ·cases e
  split at e
  ·cases e
  exact Mm r _ _ _ k1 k2 e
def wL(C:List Cell):Prop:=C.Pairwise (λa b=>a.key<b.key)
def py(C:List Cell)(k:Int):Option Cell:=C.find? (λc=>decide (c.key=k))
def jo:List Cell->Cell->List Cell
 | [],c=>[c]
 | x::C,c=>if x.key<c.key then x::jo C c else if x.key=c.key then c::C else c::x::C
def cellOf(o:fr):Cell:=⟨o.key,o.aR,o.gone,if o.gone then ⟨#[]⟩ else o.val⟩
def mn(C:List Cell)(o:fr):List Cell × Bool:=match py C o.key with
 | some c=>if o.aR<c.aR then (C,false) else (jo C (cellOf o),true)
 | none=>(jo C (cellOf o),true)
def iZ(ts:List (List Cell))(o:fr):List (List Cell) × Bool:=
 if o.table<0 then (ts,false) else match ts[o.table.toNat]? with
 | some C=>(ts.set o.table.toNat (mn C o).1,(mn C o).2)
 | none=>(ts,false)
def dQ:List (List Cell)->List fr->List (List Cell) × Nat
 | ts,[]=>(ts,0)
 | ts,o::l=>((dQ (iZ ts o).1 l).1,(if (iZ ts o).2 then 1 else 0)+(dQ (iZ ts o).1 l).2)
def MP{C:List Cell}{c x:Cell}(h:x∈jo C c):x=c\/x∈C:=by
 induction C with
 | nil=>simpa [jo] using h
 | cons y C ih=>
  unfold jo at h;split at h
  ·rcases zzv.1 h with rfl|h
   ·exact .inr (.head _)
   rcases ih h with h|h
   ·exact .inl h
   exact .inr (.tail _ h)
  split at h
  ·rcases zzv.1 h with rfl|h
   ·exact .inl rfl
   exact .inr (.tail _ h)
  rcases zzv.1 h with rfl|h
  ·exact .inl rfl
  exact .inr h
def aFa{C:List Cell}(h:wL C)(c:Cell):wL (jo C c):=by
 unfold wL at *
 induction C with
 | nil=>simp[jo]
 | cons y C ih=>
  rw[yyc]at h
  unfold jo;split
  ·rename_i cA;refine yyc.2 ⟨λz hz=>?_,ih h.2⟩;rcases MP hz with rfl|hz
   ·exact cA
   exact h.1 z hz
  split
  ·rename_i he;exact yyc.2 ⟨λz hz=>by have:=h.1 z hz;omega,h.2⟩
  rename_i h1 h2;refine yyc.2 ⟨λz hz=>?_,yyc.2 h⟩;rcases zzv.1 hz with rfl|hz
  ·omega
  have:=h.1 z hz;omega
def Tg(C:List Cell)(c:Cell)(k:Int):py (jo C c) k=if c.key=k then some c else py C k:=by
 unfold py;induction C with
 | nil=>by_cases h:c.key=k<;>simp[jo,h]
 | cons y C ih=>
  unfold jo;split
  ·rw[xxq,xxq,ih];by_cases h1:y.key=k
   ·have:c.key≠k:=by omega
    simp[h1,this]
   simp[h1]
  split
  ·rename_i he;rw[xxq,xxq];by_cases h1:c.key=k
   ·simp[h1]
   have:y.key≠k:=by omega
   simp[h1,this]
  rw[xxq];by_cases h1:c.key=k<;>simp[h1]
def VN(C:List Cell)(c:Cell):(jo C c).length<=C.length+1:=by
 induction C with
 | nil=>simp[jo]
 | cons y C ih=>
  unfold jo;split
  ·simp;omega
  split<;>simp
def NH{ts:List (List Cell)}{t:Nat}{o:fr}(h:o.table=t)(ht:t<ts.length):iZ ts o=(ts.set t (mn ts[t] o).1,(mn ts[t] o).2):=by
 have h0:¬o.table<0:=by omega
 have h1:o.table.toNat=t:=by omega
 unfold iZ;simp[h0,h1,ht]
def AK(ts:List (List Cell))(o:fr):(iZ ts o).1.length=ts.length:=by
 unfold iZ;split
 ·rfl
 split<;>simp
def XQ(l:List fr):∀ts,(dQ ts l).1.length=ts.length:=by
 induction l with
 | nil=>intro ts;rfl
 | cons o l ih=>intro ts;simp only[dQ];rw[ih,AK]
def XP(l:List fr):∀ts,(dQ ts l).2<=l.length:=by
 induction l with
 | nil=>intro ts;simp[dQ]
 | cons o l ih=>intro ts;simp only[dQ,zzg];have:=ih (iZ ts o).1;split<;>omega
def XO(l l':List fr):∀ts,dQ ts (l++l')=((dQ (dQ ts l).1 l').1,(dQ ts l).2+(dQ (dQ ts l).1 l').2):=by
 induction l with
 | nil=>intro ts;simp[dQ]
 | cons o l ih=>intro ts;simp only[zzq,dQ,ih];simp only[ww3]
def small(ts:List (List Cell))(k:Nat):Prop:=∀C∈ts,C.length+k<=1000000
def XW(C:List Cell)(o:fr):(mn C o).1.length<=C.length+1:=by
 unfold mn;have:=VN C (cellOf o);split
 ·split<;>simp_all
 exact this
def aw2{ts:List (List Cell)}{k:Nat}{o:fr}(h:small ts (k+1)):small (iZ ts o).1 k:=by
 unfold iZ;split
 ·intro C hC;have:=h C hC;omega
 split
 ·rename_i C0 h0;intro C hC;rcases vvs hC with hC|rfl
  ·have:=h C hC;omega
  have:=h C0 (xxz h0);have:=XW C0 o;omega
 intro C hC;have:=h C hC;omega
def Oh{ts:List (List Cell)}{j k:Nat}(h:small ts k)(hj:j<=k):small ts j:=λC hC=>by have:=h C hC;omega
def aw0{l:List fr}:∀{ts:List (List Cell)} {k:Nat},small ts (k+l.length)->small (dQ ts l).1 k:=by
 induction l with
 | nil=>intro ts k h;simpa [dQ] using h
 | cons o l ih=>intro ts k h;exact ih (aw2 (by rw[zzg]at h;rw[ww3];exact h))
def jL(n:Int):Prop:=-9223372036854775808<=n/\n<=9223372036854775807
def AH(C:List Cell):Prop:=wL C/\∀c∈C,jL c.key
def oa(ts:List (List Cell)):Prop:=∀C∈ts,AH C
def W2{C:List Cell}{o:fr}(h:AH C)(ho:jL o.key):AH (mn C o).1:=by
 have hi:AH (jo C (cellOf o)):=⟨aFa h.1 _,λc hc=>by rcases MP hc with rfl|hc;exact ho;exact h.2 c hc⟩;unfold mn;split
 ·split
  ·exact h
  exact hi
 exact hi
def Nl{ts:List (List Cell)}{o:fr}(h:oa ts)(ho:jL o.key):oa (iZ ts o).1:=by
 unfold iZ;split
 ·exact h
 split
 ·rename_i C0 h0;intro C hC;rcases vvs hC with hC|rfl
  ·exact h C hC
  exact W2 (h C0 (xxz h0)) ho
 exact h
def W4{l:List fr}:∀{ts:List (List Cell)},oa ts->(∀o∈l,jL o.key)->oa (dQ ts l).1:=by
 induction l with
 | nil=>intro ts h _;exact h
 | cons o l ih=>intro ts h ho;exact ih (Nl h (ho o (.head _))) (λo' h'=>ho o' (.tail _ h'))
structure mI(m:List (Int × Cell))(C:List Cell):Prop where
 get:∀k,dM m k=py C k
 nodup:(m.map (·.1)).Nodup
def Wy{α:Type}(m:List (Int × α))(k:Int)(v:α)(k':Int):dM (eH m k v) k'=if k=k' then some v else dM m k':=by
 induction m with
 | nil=>by_cases h:k=k'<;>simp[eH,dM,h]
 | cons p m ih=>
  unfold eH;split
  ·rename_i hp;by_cases h:k=k'
   ·simp[dM,h]
   have:¬p.1=k':=by omega
   simp[dM,h,this]
  by_cases h:p.1=k'
  ·have:¬k=k':=by omega
   simp[dM,h,this]
  simp[dM,h,ih]
def Wv{α:Type}{m:List (Int × α)}{k:Int}{v:α}{x:Int}(h:x∈(eH m k v).map (·.1)):x=k\/x∈m.map (·.1):=by
 induction m with
 | nil=>simpa [eH] using h
 | cons p m ih=>
  unfold eH at h;split at h
  ·simp only[zzj,zzv]at h ⊢;rcases h with h|h
   ·exact .inl h
   exact .inr (.inr h)
  simp only[zzj,zzv]at h ⊢;rcases h with h|h
  ·exact .inr (.inl h)
  rcases ih h with h|h
  ·exact .inl h
  exact .inr (.inr h)
def WN{α:Type}{m:List (Int × α)}(h:(m.map (·.1)).Nodup)(k:Int)(v:α):((eH m k v).map (·.1)).Nodup:=by
 induction m with
 | nil=>simp[eH]
 | cons p m ih=>
  rw[zzj,wwi]at h
  unfold eH;split
  ·rename_i hp;rw[zzj,wwi];exact⟨by rw[<- hp];exact h.1,h.2⟩
  rename_i hp;rw[zzj,wwi];refine⟨λhm=>?_,ih h.2⟩;rcases Wv hm with e|e
  ·exact hp e
  exact h.1 e
def mI.put{m:List (Int × Cell)}{C:List Cell}(h:mI m C)(c:Cell):mI (eH m c.key c) (jo C c):=
 ⟨λk=>by rw[Wy,Tg,h.get],WN h.nodup _ _⟩
def mI.nil:mI [] []:=⟨λk=>rfl,by simp⟩
open Go.RowKit
structure fE where
 kind:Int
 bh:Int
def eE(f:fE):Ξ:=[Γ f.kind,Γ f.bh]
def eY(f:fE):Bool:=decide (((f.kind=1\/f.kind=3)/\f.bh=0)\/(f.kind=2/\0<=f.bh))
def XN(p:List fE):List fE->List fE
 | []=>p
 | f::l=>XN (if eY f=true/\p.length<1024 then p++[f] else p) l
structure c_ where
 g:b6
 d:DS
 ts:List (List Cell)
 plan:List fE
 aR:Int
 reqs:List Rq
def n_(L:List Rq)(n:gD):Option (List Rq):=
 if n.kind=2 then ly L n.id n.cN n.done
 else match rn L n.table n.weight n.at_ with
  | some L'=>if n.id=L'.length then some L' else none
  | none=>none
def kz:List Rq->List gD->Option (List Rq)
 | L,[]=>some L
 | L,n::r=>match n_ L n with
  | some L'=>kz L' r
  | none=>none
def sq(k:Nat)(x:bV):Bool:=x.ops.all λo=>decide (o.table<k)
def ic(k:Nat)(L:List Rq)(x:bV):Option (List Rq):=if fy x=true/\sq k x=true then kz L x.notes else none
def c_.B3(k:c_)(x:bV)(L:List Rq):c_:={k with ts:=(dQ k.ts x.ops).1,reqs:=L,aR:=x.aR}
def uI(x:bV):Φ:=match Sk x with
 | .ok b=>b
 | .error _=>[]
def c_.A4(k:c_)(x:bV)(L:List Rq):c_ × Int:=
 let r:=gk k.g k.d (uI x)
 if r.2.2=0 then (c_.B3 {k with g:=r.1.1,d:=r.1.2} x L,0) else ({k with g:=r.1.1,d:=r.1.2},r.2.2)
def c_.Er(k:c_)(x:bV)(n:Int):c_ × Int:=
 let r:=aIe k.g k.d (uI x) n
 ({k with g:=r.1.1,d:=r.1.2},r.2)
def c_.sM(k:c_)(x:bV):c_ × Int:=
 if fy x=false\/(k.aR<x.aR/\ic k.ts.length k.reqs x=none) then (k,1)
 else if k.d.off=true then (k,8)
 else
  let L:=(ic k.ts.length k.reqs x).getD []
  match k.plan with
  | []=>if k.aR<x.aR then k.A4 x L else (k,0)
  | f::r=>
   let k':c_:={k with plan:=r}
   if f.kind=3 then (if k.aR<x.aR then ((k'.A4 x L).1,if (k'.A4 x L).2=0 then 9 else (k'.A4 x L).2) else (k',9))
   else if f.kind=2/\k.aR<x.aR then ((k'.Er x f.bh).1,if (k'.Er x f.bh).2=0 then 9 else (k'.Er x f.bh).2)
   else (k',9)
abbrev Tr:=List (List Cell) × List Rq × Int
def stepT(cV:Nat)(t:Tr)(x:bV):Option Tr:=match ic cV t.2.1 x with
 | some L=>if t.2.2<x.aR then some ((dQ t.1 x.ops).1,L,x.aR) else none
 | none=>none
def pX(cV:Nat):List (Φ)->Tr->Option Tr
 | [],t=>some t
 | b::r,t=>match lX b with
  | .ok x=>match stepT cV t x with
   | some t'=>pX cV r t'
   | none=>none
  | .error _=>none
def nz(cV:Nat):Tr:=(List.replicate cV [],[],0)
def c_.tr(k:c_):Tr:=(k.ts,k.reqs,k.aR)
def mj(d:DS)(cV size:Int):DS × Except Int c_:=
 if cV<1\/8<cV then (d,.error 1)
 else match eO d 8192 size with
  | (d',.error e)=>(d',.error e)
  | (d',.ok g)=>
   if cX g.a_≠1/\cX g.a_<=bF g.a_ then (d',.error 3)
   else match pX cV.toNat (cr g.a_) (nz cV.toNat) with
    | none=>(d',.error 3)
    | some t=>(d',.ok ⟨g,d',t.1,[],t.2.2,t.2.1⟩)
set_option maxRecDepth 100000
def kE(p:Nat)(L:List fE):zw:=gi λv:Ε=>zG True [.pt p [v] 310,.ob (bP v 26 2 L.length (L.map eE).flatten)]
def kE.iff{W w:Ζ}{p:Nat}{L:List fE}{l:Β}:SL W (.ob (kE p L)::l) w↔∃v,SL W (.pt p [v] 310::.ob (bP v 26 2 L.length (L.map eE).flatten)::l) w:=by
 unfold kE;simp only[SL.ex,SL.fact,zzq,zzp,vv7]
def Qv:SP 146 [] [] (λv post=>∃p:Nat,v= Δ p/\post=[.ob (kE p [])]):=by
 refine Enzz λW F w hS=>?_;apply aR1;delta aZ;refine Gp ?_;refine zu hS λb w hS=>?_;have hS:=(kE.iff (L:=[])).2 ⟨_,SL.bA (bP.lP (a:=none) (t:=26) (sz:=2) hS) (t:=.pt b [Θ] 310::.ob (bP Θ 26 2 0 [])::F) Xi⟩;exact⟨_,⟨b,rfl,rfl⟩,hS⟩
def Qu(f:fE):SP 59 [agg (eE f)] [] (bj (.bool (eY f)) []):=by
 refine Enzz λW F w hS=>?_;apply a_b;delta aF aW bc ai;refine zu hS λb w hS=>?_;unfold eE at hS;refine bw (λh=>?_) (λh=>?_)
 ·refine Gp ?_;have e:eY f=decide (f.bh=0):=by unfold eY;rw[yyd];omega
  rw[e];(exact bt hS)
 refine bw (λh2=>?_) (λh2=>?_)
 ·refine Gp ?_;have e:eY f=decide (f.bh=0):=by unfold eY;rw[yyd];omega
  rw[e];(exact bt hS)
 refine bw (λh3=>?_) (λh3=>?_)
 ·refine Gp ?_;have e:eY f=decide (0<=f.bh):=by unfold eY;rw[yyd];omega
  rw[e];(exact bt hS)
 have e:eY f=false:=by unfold eY;rw[yyq];omega
 rw[e];(exact bt hS)
def Y6(f:fE):SP 63 [agg (eE f)] [] (bj (.bool (eY f)) []):=by
 refine Enzz λW F w hS=>?_;apply a_g;delta aF aW bc wV ai;refine zu hS λb w hS=>?_;unfold eE at hS;have hT:∀{w:Ζ},eY f=true->SL W (.pt b [Γ f.kind,Γ f.bh] 26::F) w->∃post,bj (.bool (eY f)) [] (.bool true) post/\SL W (app post F) w:=λh hS=>⟨_,⟨by rw[h],rfl⟩,aI hS⟩;have hX:∀{w:Ζ},¬((f.kind=1\/f.kind=3)/\f.bh=0)->SL W (.pt b [Γ f.kind,Γ f.bh] 26::F) w->(f.kind=2->∃post,bj (.bool (eY f)) [] (.bool (decide (0<=f.bh))) post/\SL W (app post F) w)/\(f.kind≠2->∃post,bj (.bool (eY f)) [] (.bool false) post/\SL W (app post F) w):=λh hS=>
  ⟨λh2=>⟨_,⟨by rw[show eY f=decide (0<=f.bh) by unfold eY;rw[yyd];omega],rfl⟩,aI hS⟩,λh2=>⟨_,⟨by rw[show eY f=false by unfold eY;rw[yyq];omega],rfl⟩,aI hS⟩⟩
 repeat first|refine Gp ?_|refine Gw λw hS=>?_|refine Gb λb w hS=>?_
 refine za (λh=>?_) (λh=>?_)
 ·repeat first|refine Gp ?_|refine Gw λw hS=>?_|refine Gb λb w hS=>?_
  refine za (λh2=>hT (by unfold eY;rw[zzo];omega) hS) (λh2=>?_);repeat first|refine Gp ?_|refine Gw λw hS=>?_|refine Gb λb w hS=>?_
  refine za (λh3=>?_) (λh3=>(hX (by omega) hS).2 h3);repeat first|refine Gp ?_|refine Gw λw hS=>?_|refine Gb λb w hS=>?_
  exact (hX (by omega) hS).1 h3
 repeat first|refine Gp ?_|refine Gw λw hS=>?_|refine Gb λb w hS=>?_
 refine za (λh1=>?_) (λh1=>?_)
 ·repeat first|refine Gp ?_|refine Gw λw hS=>?_|refine Gb λb w hS=>?_
  refine za (λh2=>hT (by unfold eY;rw[zzo];omega) hS) (λh2=>?_);repeat first|refine Gp ?_|refine Gw λw hS=>?_|refine Gb λb w hS=>?_
  refine za (λh3=>?_) (λh3=>(hX (by omega) hS).2 h3);repeat first|refine Gp ?_|refine Gw λw hS=>?_|refine Gb λb w hS=>?_
  exact (hX (by omega) hS).1 h3
 repeat first|refine Gp ?_|refine Gw λw hS=>?_|refine Gb λb w hS=>?_
 refine za (λh3=>?_) (λh3=>(hX (by omega) hS).2 h3);repeat first|refine Gp ?_|refine Gw λw hS=>?_|refine Gb λb w hS=>?_
 exact (hX (by omega) hS).1 h3
def oM(f:fE):fE:=if md f.kind 3=1 then ⟨2,md f.bh 300⟩ else ⟨1+md f.kind 3,0⟩
def S'(f:fE):eY (oM f)=true:=by
 have:=iX f.kind 3 (by decide);unfold oM eY;rw[zzo];split
 ·exact .inr ⟨rfl,wwb _⟩
 refine .inl ⟨?_,rfl⟩;show 1+(md f.kind 3:Int)=1\/1+(md f.kind 3:Int)=3;omega
def YR(f:fE):SP 51 [agg (eE f)] [] (bj (agg (eE (oM f))) []):=by
 refine Enzz λW F w hS=>?_;apply aZ3;delta aF aW ai;refine zu hS λb w hS=>?_;unfold eE at hS;refine Gm λb w hS=>?_;have hm:=iX f.kind 3 (by decide);refine Cg (yt f.kind 3 (by decide) (by decide)) λw hS=>?_;refine za (λh=>?_) (λh=>?_)
 ·refine Gp ?_;refine Cg (yt f.bh 300 (by decide) (by decide)) λw hS=>?_;have e:oM f=⟨2,md f.bh 300⟩:=zzd (by omega);rw[e];have e2:(1:Int)+md f.kind 3=2:=h;rw[e2]at hS ⊢
  (exact bt hS)
 refine Gn λw hS=>?_;have e:oM f=⟨1+md f.kind 3,0⟩:=zzb (by omega);rw[e];(exact bt hS)
