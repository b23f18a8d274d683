/- Part. -/
import Derived.Test.YtlngdcpffiklgaaGreatJ2
import Derived.Test.YtlngdcpffiklgaaGreatQLay
import Derived.Test.YtlngdcpffiklgaaGreatQVcA
namespace Go.Proofs.YtlngdcpffiklgaaGreat
set_option linter.all false
open Go.RowKit Go.Maps Go.Sort Go.Shelf Go.Proofs.Tryz
def yy1:=@congrArg
def uul:=@callsIn_wide
def yyp:=@List.length_filter_le
def vvn:=@List.filter_cons_of_pos
def vvp:=@List.filter_eq_nil_iff
def vvo:=@List.filter_cons_of_neg
def zzh:=@List.getElem_mem
def xxt:=@List.pairwise_iff_getElem
def xxa:=@List.mem_iff_getElem
def xxi:=@List.set_eq_take_append_cons_drop
def yyh:=@List.length_set
def xxr:=@List.getElem_set
def uum:=@List.getElem_take
def zz6:=@List.mem_append
def ww4:=@List.pairwise_map
def ttc:=@List.Pairwise.imp
def vvq:=@List.getElem_cons_zero
def uui:=@List.eraseIdx_cons_succ
def zzn:=@List.length_map
def ww5:=@List.getElem?_map
def yys:=@List.mem_of_mem_take
def vvz:=@List.mem_of_mem_drop
def vvl:=@List.mem_of_mem_eraseIdx
def ww8:=@List.nodup_cons
def ttd:=@Option.some.injEq
def uuu:=@true_and
def vvx:=@List.perm_append_comm
def vvr:=@List.map_set
def uun:=@List.ext_getElem?
def zz4:=@Nat.zero_le
def yyw:=@Nat.le_trans
def yyf:=@Int.le_refl
def tto:=@enters_of
def yyr:=@underlying2
def yyd:=@underlying3
def vvh:=@Int.emod_nonneg
def uud:=@Int.emod_lt_of_pos
def vva:=@IntKind.wrap_u64
def zzv:=@List.cons_append
def zzq:=@List.nil_append
def wwu:=@underlying164
def vvw:=@Option.map_none
def vvb:=@Option.getD_none
def yyi:=@Option.map_some
def xxj:=@Option.getD_some
def ww1:=@List.set_append_left
def vvy:=@List.set_append_right
def yyc:=@List.length_singleton
def vv0:=@Int.fdiv_eq_ediv_of_nonneg
def uue:=@List.getElem?_take
def ww2:=@List.drop_left
def ww3:=@List.take_left
def zz2:=@List.append_nil
def ww6:=@List.foldl_append
def ttm:=@List.foldl_nil
def uu3:=@List.take_zero
def wwv:=@Nat.not_lt
def xx3:=@List.mem_of_getLast?
def ww0:=@List.getElem_append_left
def vvs:=@List.getElem_cons_succ
def xxb:=@List.getLast?_concat
def xxg:=@List.take_append_of_le_length
def zz7:=@List.take_of_length_le
def zzt:=@List.map_append
def yy8:=@List.map_nil
def tth:=@List.isEmpty_nil
def ttn:=@List.take_take
def xxw:=@Nat.min_eq_left
def zzz:=@Int.toNat_natCast
def xx6:=@Nat.lt_or_ge
def zz8:=@List.mem_singleton
def uu4:=@List.mapIdx_append
def xxy:=@List.ext_getElem
def vv7:=@List.getElem_mapIdx
def wwb:=@List.length_pos_iff
def vvt:=@List.append_eq_nil_iff
def vv8:=@List.mem_map_of_mem
def zz3:=@decide_eq_false
def uuj:=@List.getLast?_cons_cons
def xxx:=@List.find?_cons
def vv6:=@List.mem_or_eq_of_mem_set
def yyj:=@decide_eq_decide
def rl{α:Type}(m:List (Int × α)):Ω:=(m.map (·.1)).mergeSort (λx y=>decide (x<=y))
section
variable {W w:Ζ} {l:Β} {P:Program} {ρ σ:Ren} {b:Nat} {α:Type} {val:α->Ε} {m:List (Int × α)}
def SL.kept{w':Ζ}(h:SL W l w)(hb:Below w.heap.size w w'):SL W l w':=by
 obtain⟨a1,a2,a3,k,s,x⟩:=h;refine⟨hb.os.trans a1,hb.tape.trans a2,hb.output.trans a3,k,s,λb o e=>?_⟩;have e1:=x b o e;rw[hb.block b (yy9.1 e1).1];exact e1
def SL.czs{w':Ζ}{g:Nat}{cs:Ξ}{t:Ι}(h:SL W l w)(hb:Below w.heap.size w w')(hg:w.heap.size<=g)(he:w'.heap[g]?=some (.cells cs.toArray t (0,0))):SL W (.pt g cs t::l) w':=by
 obtain⟨a1,a2,a3,k,s,x⟩:=h;have hk:k g=none:=by
  cases hx:k g with
  | none=>rfl
  | some y=>have:=(yy9.1 (x g y hx)).1;omega
 refine⟨hb.os.trans a1,hb.tape.trans a2,hb.output.trans a3,λy=>if y=g then some (.cells cs.toArray t (0,0)) else k y,⟨bw.one g (.cells cs.toArray t (0,0)),k,λy=>?_,⟨(0,0),.inl rfl,rfl⟩,s⟩,λy o e=>?_⟩
 ·by_cases hy:y=g
  ·subst hy;exact .inr ⟨hk,by simp[bw.one]⟩
  exact .inl ⟨by simp[bw.one,hy],by simp[hy]⟩
 by_cases hy:y=g
 ·subst hy;simp at e;rw[he,e]
 simp[hy]at e
 have e1:=x y o e;rw[hb.block y (yy9.1 e1).1];exact e1
def SL.czt{w':Ζ}{v:Ε}{n:Nat}{t:Ι}{xs:Ξ}(h:SL W l w)(hb:Below w.heap.size w w')(hr:w'.ownsRow w.heap.size t 1 v n xs):SL W (.ob (bF v t 1 n xs)::l) w':=by
 obtain⟨hx,h2⟩:=hr;rcases h2 with ⟨rfl,rfl⟩|⟨g,cap,cur,rfl,hg,he,h3,h4,h5,h6⟩
 ·obtain rfl:xs=[]:=zzl (by simpa using hx);exact bF.nil (h.kept hb)
 refine bF.mk (rest:=cur.toList.drop (n*1)) h3 hx ?_ (h.czs hb hg ?_)
 ·rw[zzs,Array.length_toList,h5,wws]
 rw[<- h6,yyk];exact he
def cDt{H:Type}{kt:Ι}(Jm:P.underlying kt=some (.int .i64))(hS:SL W l w)(hm:Has (.ob (eJ (Value.int .i64) val b m)) l)(hlen:m.length<=maxLen)(x8:∀p∈m,(Lit.int .i64 p.1).wf=true):
  ∃D:DataW H,w.ownsMap P kt (λ_=>some (.nil,[])) b m.length D/\(intKeys D).Perm (m.map (·.1))/\Maps.size D=m.length:=by
 obtain⟨es,c,e1,e2,hb⟩:=hS.z_ hm;have hl:es.length=m.length:=by simpa using yy1 List.length e1
 have xI:∀x∈es,∃p∈m,x.key= .int .i64 p.1:=λx hx=>by
  have:kv x∈es.map kv:=zzx.2 ⟨x,hx,rfl⟩;rw[e1]at this
  obtain⟨p,hp,hq⟩:=zzx.1 this;exact⟨p,hp,(Prod.mk.inj hq).1.symm⟩
 have dQ:∀x∈es,∀a,x.key= .int .i64 a->WideElems.rd P kt (λ_=>some ((.nil:DataW H),[])) x=some (.int .i64 a,.nil):=λx hx a ha=>by
  obtain⟨p,hp,hq⟩:=xI x hx;rw[ha]at hq;cases hq
  have hw:=x8 p hp;simp[WideElems.rd,keyOf,Jm,mapKey,ha,hw]
 refine⟨_,⟨es.toArray,c,hb,⟨by simpa [hl] using hlen,e2,λx hx=>?_⟩,by simp[hl],rfl⟩,?_,?_⟩
 ·obtain⟨p,hp,hq⟩:=xI x (by simpa using hx);exact⟨_,dQ x (by simpa using hx) _ hq⟩
 ·show (List.map (λp:Lit × DataW H=>Go.intOf p.1) _).Perm _;refine ((WideShapes.sorted_perm _).map _).trans ?_;rw[xxk];have:es.map ((λp:Lit × DataW H=>Go.intOf p.1)∘WideElems.rg P kt (λ_=>some ((.nil:DataW H),[])))=m.map (·.1):=by
   have h1:es.map ((λp:Lit × DataW H=>Go.intOf p.1)∘WideElems.rg P kt (λ_=>some ((.nil:DataW H),[])))=(es.map kv).map λq=>match q.1 with | .int _ a=>a|_=>0:=by
    rw[xxk];refine List.map_congr_left λx hx=>?_;obtain⟨p,hp,hq⟩:=xI x hx;simp[WideElems.rg_of (dQ x hx _ hq),kv,hq,Go.intOf]
   rw[h1,e1,xxk];rfl
  simpa using this▸List.Perm.refl _
 rw[Maps.size_eq,(WideShapes.sorted_perm _).length_eq];simp[hl]
def VM(L7:SlLaysZI.n7 P ρ)(L6:SlLaysZI.n6 P σ)(cw1:∀m,AnyZI.SortsIn P σ Fence.wide m)(e9:∀args w,(callFunc (σ.f 9) args).run P w= .ok (.enter (σ.f 9) args) w)(e10:∀args w,(callFunc (ρ.f 10) args).run P w= .ok (.enter (ρ.f 10) args) w)
  (Jm:P.underlying (ρ.t 26)=some (.int .i64)) (hS:SL W l w) (hm:Has (.ob (eJ (Value.int .i64) val b m)) l) (hlen:m.length*8<=140737488355328) (x8:∀p∈m,(Lit.int .i64 p.1).wf=true) {K:Ε->Ζ->Prop}
  (h:∀v w',SL W (.ob (bF v (σ.t 26) 1 m.length ((rl m).map (Value.int .i64)))::l) w'->K v w') :
  zB P (ρ.f 7) [.map (some b)] w λv1 w1=>zB P (σ.f 6) [v1] w1 K:=by
 obtain⟨D,UM,Dq,f_⟩:=cDt (H:=Unit) Jm hS hm (by unfold maxLen;omega) x8;refine (uul (n:=5)).1 ((AnyZI.keys_in L7 Fence.wide 5 trivial rfl (some b) w).mono ?_);rintro e w1 ⟨rfl,rfl⟩;refine⟨_,rfl,?_⟩;have p5:=UM.lt;have JH:SeqGives Fence.wide 2 P (ρ.f 10) #[.pointer (some ⟨w.heap.size,0,none⟩)] encZ (λss=>ss.Perm (intKeys D)) (Maps.size D) (w.alloc (.cells #[.map (some b)] (ρ.t 23))):=
  AnyZI.keys_gives (ρ:=ρ) {L7 with} Fence.wide _ trivial rfl (by omega) w.heap.size b m.length D _ (by simp) (by simp) (by
   obtain⟨es,clock,hb,Ft,hs,hD⟩:=UM;exact⟨es,clock,(Below.heap_alloc _ _ b p5).trans hb,Ft,hs,hD⟩)
 have cS:=AnyZI.sorted_in L6 Fence.wide 5 trivial trivial trivial trivial rfl (by omega) (cw1 _) e9 (ρ.f 10) #[.pointer (some ⟨w.heap.size,0,none⟩)] trivial e10 _ _ (by rw[f_];unfold maxLen;omega) (by rw[f_];exact hlen) _ JH;refine (uul (n:=5)).1 (cS.mono ?_);rintro e w' ⟨v,ss,rfl,Bp,rJ,Ju,hb⟩;refine⟨v,rfl,h v w' ?_⟩;have hp:=Bp.trans Dq;have cn7:ss.length=m.length:=by simpa using hp.length_eq
 have nD:ss.mergeSort (λx y=>decide (x<=y))=rl m:=mergeSort_of_perm_i hp;rw[cn7,nD]at rJ
 have nu:Below w.heap.size w w':=((Below.refl _ w).alloc (zzi _) _).trans (hb.mono (by simp));exact hS.czt nu (ownsRow_base_a rJ (by simp))
end
section
variable {α:Type} (key:α->Int)
def fN(L:List α):Prop:=L.Pairwise λa b=>key a<key b
def fz(L:List α)(k:Int):Nat:=(L.filter λx=>decide (key x<k)).length
variable {key}
def EX(L:List α)(k:Int):fz key L k<=L.length:=yyp _ _
def Ia{L:List α}(hs:fN key L)(k:Int):∀j (h:j<L.length),key L[j]<k↔j<fz key L k:=by
 unfold fN at hs;unfold fz;induction L with
 | nil=>intro j h;simp at h
 | cons x L ih=>
  rw[yyg]at hs
  intro j h;by_cases hx:key x<k
  ·rw[vvn (by simpa using hx)];cases j with
   | zero=>simp[hx]
   | succ j=>simpa using ih hs.2 j (by simpa using h)
  have e:L.filter (λr=>decide (key r<k))=[]:=by
   rw[vvp];intro y hy;have:=hs.1 y hy;simp;omega
  rw[vvo (by simpa using hx),e];cases j with
  | zero=>simpa using hx
  | succ j=>
   have hm:L[j]'(by simpa using h)∈L:=zzh _;have:=hs.1 _ hm;simp;omega
def bwf{L:List α}(hs:fN key L)(k:Int){i:Nat}(hi:i<=L.length)(h1:∀j (h:j<L.length),j<i->key L[j]<k)(h2:∀h:i<L.length,¬key L[i]<k):fz key L k=i:=by
 have hle:=EX (key:=key) L k;rcases Nat.lt_trichotomy (fz key L k) i with h|h|h
 ·have:=(Ia hs k _ (by omega)).1 (h1 (fz key L k) (by omega) h);omega
 ·exact h
 have:=h2 (by omega);have h3:=(Ia hs k i (by omega)).2 h;exact absurd h3 this
def CE{L:List α}(hs:fN key L){k:Int}{j:Nat}(hj:j<L.length)(h:key L[j]=k):fz key L k=j:=by
 refine bwf hs k (by omega) (λi hi sJ=>?_) (λ_=>by omega);have:=xxt.1 hs i j hi hj sJ;omega
def iE(key:α->Int)(L:List α)(k:Int):Bool:=match L[fz key L k]? with
 | some x=>decide (key x=k)
 | none=>false
def x'{L:List α}(hs:fN key L){k:Int}:iE key L k=true↔∃x∈L,key x=k:=by
 unfold iE;constructor
 ·intro h;split at h
  ·rename_i x e;exact⟨x,yy5 e,zzp h⟩
  cases h
 rintro ⟨x,hx,rfl⟩;obtain⟨j,hj,rfl⟩:=xxa.1 hx;rw[CE hs hj rfl,zzc hj];simp
def tT{L:List α}{k:Int}(h:iE key L k=true):∃hl:fz key L k<L.length,key L[fz key L k]=k:=by
 unfold iE at h;split at h
 ·rename_i x e;obtain⟨hl,rfl⟩:=zzf.1 e;exact⟨hl,zzp h⟩
 cases h
def J4{L:List α}(hs:fN key L){k:Int}(h:iE key L k=false):∀x∈L,key x≠k:=λx hx e=>by
 have:=(x' hs).2 ⟨x,hx,e⟩;rw[h]at this;cases this
def dS(key:α->Int)(L:List α)(k:Int):Option α:=if iE key L k then L[fz key L k]? else none
def gb(key:α->Int)(L:List α)(x:α):List α:=L.take (fz key L (key x))++[x]++L.drop (if iE key L (key x) then fz key L (key x)+1 else fz key L (key x))
def jN(key:α->Int)(L:List α)(k:Int):List α:=if iE key L k then L.eraseIdx (fz key L k) else L
def GA{L:List α}{x:α}(h:iE key L (key x)=true):gb key L x=L.set (fz key L (key x)) x:=by
 obtain⟨hl,_⟩:=tT h;unfold gb;rw[zzd h,xxi,zzd hl];simp
def uA{L:List α}{k:Int}{x:α}(h:dS key L k=some x):x∈L/\key x=k:=by
 unfold dS at h;split at h
 ·rename_i hi;obtain⟨hl,e⟩:=tT hi;rw[zzc hl]at h
  cases h;exact⟨zzh hl,e⟩
 cases h
def tw{L:List α}(hs:fN key L){x:α}(h:x∈L):dS key L (key x)=some x:=by
 unfold dS;rw[zzd ((x' hs).2 ⟨x,h,rfl⟩)];obtain⟨j,hj,rfl⟩:=xxa.1 h;rw[CE hs hj rfl,zzc hj]
def IH{L:List α}(hs:fN key L){k:Int}:dS key L k=none↔∀x∈L,key x≠k:=by
 constructor
 ·intro h x hx e;subst e;rw[tw hs hx]at h;cases h
 intro h;cases hg:dS key L k with
 | none=>rfl
 | some x=>obtain⟨h1,h2⟩:=uA hg;exact absurd h2 (h x h1)
def X4{L:List α}(hs:fN key L){i:Nat}(hi:i<L.length){x:α}(hx:key x=key L[i]):fN key (L.set i x):=by
 unfold fN at *
 rw[xxt]at *
 intro a b ha hb p4;rw[yyh]at ha hb
 rw[xxr,xxr];have h1:=hs a b ha hb p4;split<;>split
 ·omega
 ·rename_i e _;subst e;omega
 ·rename_i e;subst e;omega
 exact h1
def KL{L:List α}(hs:fN key L){x:α}(h:iE key L (key x)=false):(gb key L x).Perm (x::L):=by
 unfold gb;rw[zzb (by rw[h];decide)];have:L=L.take (fz key L (key x))++L.drop (fz key L (key x)):=by simp
 conv=>rhs;rw[this]
 rw[zzk];exact vv4
def GB{L:List α}(hs:fN key L)(x:α):fN key (gb key L x):=by
 cases h:iE key L (key x) with
 | true=>
  rw[GA h];obtain⟨hl,e⟩:=tT h;exact X4 hs hl e.symm
 | false=>
  have hn:=J4 hs h;unfold gb;rw[zzb (by rw[h];decide)];have dj:=Ia hs (key x);have hle:=EX (key:=key) L (key x);unfold fN at *
  rw[zzk,List.pairwise_append];refine⟨hs.sublist (List.take_sublist _ _),?_,λa ha b hb=>?_⟩
  ·rw[List.singleton_append,yyg];refine⟨λb hb=>?_,hs.sublist (List.drop_sublist _ _)⟩;obtain⟨j,hj,rfl⟩:=xxa.1 hb;rw[List.getElem_drop];have oL:fz key L (key x)+j<L.length:=by simp at hj;omega
   have h1:=(not_congr (dj _ oL)).2 (by omega);have h2:=hn _ (zzh oL);omega
  obtain⟨j,hj,rfl⟩:=xxa.1 ha;rw[uum];have oL:j<fz key L (key x)/\j<L.length:=by simp at hj;omega
  have h1:=(dj j oL.2).2 oL.1;rcases zz6.1 hb with hb|hb
  ·simp at hb;subst hb;exact h1
  obtain⟨i,hi,rfl⟩:=xxa.1 hb;rw[List.getElem_drop];have mu:fz key L (key x)+i<L.length:=by simp at hi;omega
  have h3:=(not_congr (dj _ mu)).2 (by omega);omega
def SN{L:List α}(hs:fN key L)(k:Int):fN key (jN key L k):=by
 unfold jN;split
 ·exact hs.sublist (List.eraseIdx_sublist _ _)
 exact hs
def cB9{L:List α}(hs:fN key L):(L.map key).Nodup:=by
 refine ww4.2 (ttc (R:=λa b=>key a<key b) (λ{a b} p4=>?_) hs);omega
def bFs{L:List α}(hs:fN key L)(k:Int):jN key L k=L.filter λx=>decide (key x≠k):=by
 unfold jN;split
 ·rename_i h;obtain⟨hl,e⟩:=tT h;generalize fz key L k=i at *
  have lQ:=hs;unfold fN at lQ;clear h hs;induction L generalizing i with
  | nil=>simp at hl
  | cons y L ih=>
   rw[yyg]at lQ
   cases i with
   | zero=>
    simp only[vvq]at e;rw[List.eraseIdx_cons_zero,vvo (by simp[e])];symm;rw[yy4];intro z hz;have:=lQ.1 z hz;simp;omega
   | succ i=>
    have rG:i<L.length:=by simpa using hl
    have e':key L[i]=k:=by simpa using e
    have:=lQ.1 _ (zzh rG);rw[uui,vvn (by simp;omega),ih i rG e' lQ.2]
 rename_i h;have hn:=J4 hs (by simpa using h);symm;rw[yy4];intro x hx;simpa using hn x hx
def CF{β:Type}{kb:β->Int}{f:β->α}(hf:∀b,key (f b)=kb b)(L:List β)(k:Int):fz key (L.map f) k=fz kb L k:=by
 unfold fz;rw[List.filter_map,zzn];congr 2
 funext b
 simp[hf]
def J5{β:Type}{kb:β->Int}{f:β->α}(hf:∀b,key (f b)=kb b)(L:List β)(k:Int):iE key (L.map f) k=iE kb L k:=by
 unfold iE;rw[CF hf,ww5];cases L[fz kb L k]? with
 | none=>rfl
 | some b=>simp[hf]
def cEl{β:Type}{kb:β->Int}{f:β->α}(hf:∀b,key (f b)=kb b)(L:List β)(b:β):(gb kb L b).map f=gb key (L.map f) (f b):=by
 unfold gb;rw[J5 hf,CF hf,hf];simp
def V2{α β:Type}(f:β->α):∀(L:List β) (i:Nat),(L.eraseIdx i).map f=(L.map f).eraseIdx i
 | [],_=>rfl
 | x::L,0=>rfl
 | x::L,i+1=>by simp only[uui,zzr,V2 f L i]
def bFt{β:Type}{kb:β->Int}{f:β->α}(hf:∀b,key (f b)=kb b)(L:List β)(k:Int):(jN kb L k).map f=jN key (L.map f) k:=by
 unfold jN;rw[J5 hf,CF hf];split
 ·exact V2 f L _
 rfl
def BF{L:List α}{x y:α}(h:y∈gb key L x):y=x\/y∈L:=by
 unfold gb at h;rcases zz6.1 h with h|h
 ·rcases zz6.1 h with h|h
  ·exact .inr (yys h)
  exact .inl (by simpa using h)
 exact .inr (vvz h)
def Gr{L:List α}{k:Int}{y:α}(h:y∈jN key L k):y∈L:=by
 unfold jN at h;split at h
 ·exact vvl h
 exact h
end
section
variable {α β:Type} {key:α->Int} {val:α->β} {m:List (Int × β)} {L:List α}
def ky(key:α->Int)(val:α->β)(m:List (Int × β))(L:List α):Prop:=m.Perm (L.map λx=>(key x,val x))/\fN key L
def ky.nodup(h:ky key val m L):(m.map (·.1)).Nodup:=by
 have:=h.1.map (·.1);rw[xxk]at this
 exact this.nodup_iff.2 (cB9 h.2)
def Wf(hn:(m.map (·.1)).Nodup)(k:Int)(v:β):fT m k=some v↔(k,v)∈m:=by
 induction m with
 | nil=>simp[fT]
 | cons p m ih=>
  rw[zzr,ww8]at hn
  obtain⟨a,b⟩:=p;by_cases ha:a=k
  ·subst ha;simp only[fT,wwm,ttd,zz1,wwl,uuu];constructor
   ·rintro rfl;exact .inl rfl
   rintro (h|h)
   ·exact h.symm
   exact absurd (zzx.2 ⟨_,h,rfl⟩) hn.1
  have J0:=ih hn.2;have dO:¬(k=a):=λe=>ha e.symm;simp only[fT,ha,wwd,J0,zz1,wwl,dO,false_and,false_or]
def ky.get(h:ky key val m L)(k:Int):fT m k=(dS key L k).map val:=by
 cases hg:dS key L k with
 | some x=>
  obtain⟨hx,rfl⟩:=uA hg;exact (Wf h.nodup _ _).2 (h.1.symm.subset (zzx.2 ⟨x,hx,rfl⟩))
 | none=>
  cases hm:fT m k with
  | none=>rfl
  | some v=>
   obtain⟨x,hx,e⟩:=zzx.1 (h.1.subset ((Wf h.nodup _ _).1 hm));cases e;exact absurd rfl ((IH h.2).1 hg x hx)
def cBg(hn:(m.map (·.1)).Nodup)(k:Int):rO m k=m.filter λp=>decide (p.1≠k):=by
 induction m with
 | nil=>rfl
 | cons p m ih=>
  rw[zzr,ww8]at hn
  unfold rO;split
  ·rename_i e;rw[vvo (by simp[e])];symm;rw[yy4];intro q hq;have:q.1≠p.1:=λe2=>hn.1 (by rw[<- e2];exact zzx.2 ⟨q,hq,rfl⟩);simp;omega
  rename_i e;rw[vvn (by simpa using e),ih hn.2]
def ky.del(h:ky key val m L)(k:Int):ky key val (rO m k) (jN key L k):=by
 refine⟨?_,SN h.2 k⟩;rw[cBg h.nodup,bFs h.2];have:=h.1.filter λp=>decide (p.1≠k)
 rwa [List.filter_map]at this
def cBx{k:Int}(hn:fT m k=none)(v:β):gM m k v=m++[(k,v)]:=by
 induction m with
 | nil=>rfl
 | cons p m ih=>
  unfold fT at hn;split at hn
  ·cases hn
  rename_i e;unfold gM;rw[zzb e,ih hn];rfl
def ky.add(h:ky key val m L){x:α}(hn:iE key L (key x)=false):ky key val (gM m (key x) (val x)) (gb key L x):=by
 refine⟨?_,GB h.2 x⟩;have hg:dS key L (key x)=none:=(IH h.2).2 (J4 h.2 hn);rw[cBx (by rw[h.get,hg];rfl)];have h1:=(KL h.2 hn).map λx=>(key x,val x);refine (vvx.trans ?_).trans h1.symm;rw[zzr];exact h.1.cons _
def ky.rX(h:ky key val m L){i:Nat}(hi:i<L.length){x:α}(h1:key x=key L[i])(h2:val x=val L[i]):ky key val m (L.set i x):=by
 refine⟨?_,X4 h.2 hi h1⟩;have e:(L.set i x).map (λx=>(key x,val x))=L.map λx=>(key x,val x):=by
  rw[vvr,h1,h2];refine uun λj=>?_;rw[List.getElem?_set];split
  ·rename_i sJ;subst sJ;rw[zzd (by simpa using hi),ww5,zzc hi];rfl
  rfl
 rw[e];exact h.1
def ky.rl(h:ky key val m L):rl m=L.map key:=by
 have hp:(m.map (·.1)).Perm (L.map key):=by
  have:=h.1.map (·.1)
  rwa [xxk]at this
 have e:YtlngdcpffiklgaaGreat.rl m=(L.map key).mergeSort (λx y=>decide (x<=y)):=Go.mergeSort_of_perm_i hp;rw[e];refine List.mergeSort_of_pairwise ?_;refine ww4.2 (ttc (R:=λa b:α=>key a<key b) (λ{a b} p4=>?_) h.2);simp only[zzw];omega
def ky.len(h:ky key val m L):m.length=L.length:=by simpa using h.1.length_eq
def ky.nil:ky key val [] []:=⟨.refl _,.nil⟩
end
structure PF where
 id:Int
 safe:Nat
 b:Φ
def dd(x:Κ):Ε:=.int .u8 (x.toNat:Int)
structure DS where
 R:List PF
 off:Bool
 arm:Int
 ops:Nat
def Af(f:Int):PF:=⟨f,0,[]⟩
def kP(R:List PF)(f:Int)(b:Φ):List PF:=gb PF.id R ⟨f,((dS PF.id R f).getD (Af f)).safe,((dS PF.id R f).getD (Af f)).b++b⟩
def ku(R:List PF)(f:Int)(g:PF->PF):List PF:=match dS PF.id R f with
 | some x=>gb PF.id R {g x with id:=f}
 | none=>R
def may(s:DS)(f:Int):Int:=if s.off=true then 8 else if f<0\/16384<=f then 1 else 0
def DS.cK(s:DS):DS:={s with off:=decide (s.arm=1),arm:=if 0<s.arm then s.arm-1 else s.arm,ops:=s.ops+1}
def DS.err(s:DS):Int:=if s.off=true then 8 else 0
def DS.find(s:DS)(f:Int):Int:=if may s f≠0 then may s f else if iE PF.id s.R f=true then 0 else 5
def DS.append(s:DS)(f:Int)(b:Φ):DS × Int:=if may s f≠0 then (s,may s f) else ({s.cK with R:=kP s.R f b},s.cK.err)
def DS.sync(s:DS)(f:Int):DS × Int:=if s.find f≠0 then (s,s.find f) else if s.cK.off=true then (s.cK,8) else ({s.cK with R:=ku s.R f λx=>{x with safe:=x.b.length}},0)
def gH(R:List PF)(f:Int):Int:=match dS PF.id R f with
 | some x=>x.b.length
 | none=>-1
def jr(n:Nat)(x:PF):PF:={x with b:=x.b.take n,safe:=min x.safe n}
def DS.cut(s:DS)(f n:Int):DS × Int:=if s.find f≠0 then (s,s.find f) else if n<0\/gH s.R f<n then (s,1) else if s.cK.off=true then (s.cK,8) else ({s.cK with R:=ku s.R f (jr n.toNat)},0)
def DS.remove(s:DS)(f:Int):DS × Int:=if s.find f≠0 then (s,s.find f) else if s.cK.off=true then (s.cK,8) else ({s.cK with R:=jN PF.id s.R f},0)
def DS.rA(s:DS)(n:Int):DS:={s with arm:=max n 0}
def j6(keep:Ω)(i:Nat)(x:PF):Nat:=match keep[i]? with
 | some k=>if 0<k then k.toNat % (x.b.length-x.safe+1) else 0
 | none=>0
def jh(keep:Ω)(i:Nat)(x:PF):PF:=⟨x.id,min (x.safe+j6 keep i x) x.b.length,x.b.take (x.safe+j6 keep i x)⟩
def e_(R:List PF)(keep:Ω):List PF:=R.mapIdx (jh keep)
def DS.eO(s:DS)(keep:Ω):DS:={s with R:=e_ s.R keep,off:=false,arm:=0}
structure DS.Ok(s:DS)(N:Nat):Prop where
 sorted:fN PF.id s.R
 ids:∀x∈s.R,0<=x.id/\x.id<16384
 safe:∀x∈s.R,x.safe<=x.b.length
 len:∀x∈s.R,x.b.length<=N
 pM:0<=s.arm
 rz:s.arm<=9223372036854775807
def Ad{keep:Ω}{i:Nat}{x:PF}(h:x.safe<=x.b.length):x.safe+j6 keep i x<=x.b.length:=by
 unfold j6;split
 ·split
  ·have:=vvj (Int.toNat ‹Int›) (show 0<x.b.length-x.safe+1 by omega);omega
  omega
 omega
def CG{keep:Ω}{i:Nat}{x:PF}(h:x.safe<=x.b.length):(jh keep i x).b.length=x.safe+j6 keep i x:=by
 have:=Ad (keep:=keep) (i:=i) h;simp[jh];omega
def EZ{keep:Ω}{i:Nat}{x:PF}(h:x.safe<=x.b.length):(jh keep i x).safe=x.safe+j6 keep i x:=by
 have:=Ad (keep:=keep) (i:=i) h;simp[jh];omega
def Gs{R:List PF}{f:Int}{g:PF->PF}{y:PF}(h:y∈ku R f g):y∈R\/∃x∈R,x.id=f/\y={g x with id:=f}:=by
 unfold ku at h;split at h
 ·rename_i x e;obtain⟨h1,h2⟩:=uA e;rcases BF h with h|h
  ·exact .inr ⟨x,h1,h2,h⟩
  exact .inl h
 exact .inl h
def Tx{R:List PF}{f:Int}{N:Nat}(h:∀x∈R,x.b.length<=N):((dS PF.id R f).getD (Af f)).b.length<=N:=by
 cases e:dS PF.id R f with
 | none=>exact zz4 _
 | some x=>exact h x (uA e).1
def bWl{R:List PF}{f:Int}(h:∀x∈R,x.safe<=x.b.length):((dS PF.id R f).getD (Af f)).safe<=((dS PF.id R f).getD (Af f)).b.length:=by
 cases e:dS PF.id R f with
 | none=>exact zz4 _
 | some x=>exact h x (uA e).1
def DS.Ok.mono{s:DS}{N M:Nat}(h:s.Ok N)(hm:N<=M):s.Ok M:=⟨h.sorted,h.ids,h.safe,λx hx=>yyw (h.len x hx) hm,h.pM,h.rz⟩
def DS.Ok.cK{s:DS}{N:Nat}(h:s.Ok N):s.cK.Ok N:=by
 have h0:=h.pM;have h1:=h.rz;refine⟨h.sorted,h.ids,h.safe,h.len,?_,?_⟩<;>simp only[DS.cK]<;>split<;>omega
def DS.Ok.Lu{s:DS}{N:Nat}(h:s.Ok N){R:List PF}(h1:fN PF.id R)(h2:∀x∈R,0<=x.id/\x.id<16384)(h3:∀x∈R,x.safe<=x.b.length)(h4:∀x∈R,x.b.length<=N):({s with R:=R}:DS).Ok N:=
 ⟨h1,h2,h3,h4,h.pM,h.rz⟩
def DP{s:DS}{f:Int}(h:may s f=0):s.off=false/\0<=f/\f<16384:=by
 unfold may at h;split at h
 ·cases h
 split at h
 ·cases h
 rename_i h1 h2;refine⟨by simpa using h1,by omega,by omega⟩
def DS.Ok.append{s:DS}{N:Nat}(h:s.Ok N)(f:Int)(b:Φ):(s.append f b).1.Ok (N+b.length):=by
 unfold DS.append;split
 ·exact h.mono (by omega)
 rename_i hm;have hm:may s f=0:=by simpa using hm
 obtain⟨_,f0,f1⟩:=DP hm;have hl:=Tx (f:=f) h.len;have hs:=bWl (f:=f) h.safe;refine (h.cK.mono (Nat.le_add_right N b.length)).Lu (GB h.sorted _) ?_ ?_ ?_
 ·intro x hx;rcases BF hx with rfl|hx
  ·exact⟨f0,f1⟩
  exact h.ids x hx
 ·intro x hx;rcases BF hx with rfl|hx
  ·simp only[zza];omega
  exact h.safe x hx
 intro x hx;rcases BF hx with rfl|hx
 ·simp only[zza];omega
 have:=h.len x hx;omega
def cKs{R:List PF}(h:fN PF.id R)(f:Int)(g:PF->PF):fN PF.id (ku R f g):=by
 unfold ku;split
 ·exact GB h _
 exact h
def DS.Ok.rX{s:DS}{N:Nat}(h:s.Ok N)(f:Int)(g:PF->PF)(h1:∀x,x.safe<=x.b.length->(g x).safe<=(g x).b.length)(h2:∀x,(g x).b.length<=x.b.length):({s.cK with R:=ku s.R f g}:DS).Ok N:=by
 refine h.cK.Lu (cKs h.sorted f g) ?_ ?_ ?_
 ·intro x hx;rcases Gs hx with hx|⟨y,hy,rfl,rfl⟩
  ·exact h.ids x hx
  exact h.ids y hy
 ·intro x hx;rcases Gs hx with hx|⟨y,hy,rfl,rfl⟩
  ·exact h.safe x hx
  exact h1 y (h.safe y hy)
 intro x hx;rcases Gs hx with hx|⟨y,hy,rfl,rfl⟩
 ·exact h.len x hx
 exact yyw (h2 y) (h.len y hy)
def DS.Ok.sync{s:DS}{N:Nat}(h:s.Ok N)(f:Int):(s.sync f).1.Ok N:=by
 unfold DS.sync;split
 ·exact h
 split
 ·exact h.cK
 exact h.rX f _ (λx _=>zzi _) (λx=>zzi _)
def DS.Ok.cut{s:DS}{N:Nat}(h:s.Ok N)(f n:Int):(s.cut f n).1.Ok N:=by
 unfold DS.cut;split
 ·exact h
 split
 ·exact h
 split
 ·exact h.cK
 exact h.rX f _ (λx hx=>by simp only[jr,zzg];omega) (λx=>by simp only[jr,zzg];omega)
def DS.Ok.remove{s:DS}{N:Nat}(h:s.Ok N)(f:Int):(s.remove f).1.Ok N:=by
 unfold DS.remove;split
 ·exact h
 split
 ·exact h.cK
 exact h.cK.Lu (SN h.sorted _) (λx hx=>h.ids x (Gr hx)) (λx hx=>h.safe x (Gr hx)) (λx hx=>h.len x (Gr hx))
def DS.Ok.eO{s:DS}{N:Nat}(h:s.Ok N)(keep:Ω):(s.eO keep).Ok N:=by
 have hm:∀y∈e_ s.R keep,∃x∈s.R,∃i,y=jh keep i x:=λy hy=>by
  obtain⟨i,hi,rfl⟩:=xxa.1 hy;unfold e_ at *
  simp only[List.length_mapIdx]at hi;exact⟨s.R[i],zzh hi,i,by simp⟩
 refine⟨?_,?_,?_,?_,yyf _,by simp[DS.eO]⟩
 ·show fN PF.id (e_ s.R keep);have:=h.sorted;unfold fN at *
  rw[xxt]at *
  intro i j hi hj sJ;unfold e_ at *
  simp only[List.length_mapIdx]at hi hj;simpa [jh] using this i j hi hj sJ
 ·intro y hy;obtain⟨x,hx,i,rfl⟩:=hm y hy;exact h.ids x hx
 ·intro y hy;obtain⟨x,hx,i,rfl⟩:=hm y hy;rw[CG (h.safe x hx),EZ (h.safe x hx)];exact zzi _
 intro y hy;obtain⟨x,hx,i,rfl⟩:=hm y hy;rw[CG (h.safe x hx)];exact yyw (Ad (h.safe x hx)) (h.len x hx)
def gU:DS:=⟨[],false,0,0⟩
def D6(N:Nat):gU.Ok N:=⟨.nil,by simp[gU],by simp[gU],by simp[gU],by simp[gU],by simp[gU]⟩
set_option maxRecDepth 100000
open Go.RowKit Go.Maps Go.Sort Go.Shelf
def cIh(m:Nat):AnyZI.SortsIn prog X0 Fence.wide m:=
 ⟨λo8 off cap ss W hH hblk f_=>uul.2 (AnyM.slices_Sort_int XW o8 off cap ss W hH hblk f_),
  λp cap W=>uul.2 (AnyM.slices_Sort_int_none XW p cap W)⟩
def cIi(m:Nat):AnyZI.SortsIn prog X1 Fence.wide m:=
 ⟨λo8 off cap ss W hH hblk f_=>uul.2 (AnyM.slices_Sort_int XX o8 off cap ss W hH hblk f_),
  λp cap W=>uul.2 (AnyM.slices_Sort_int_none XX p cap W)⟩
section
variable {W w:Ζ} {l:Β} {b:Nat} {α:Type} {val:α->Ε} {m:List (Int × α)}
def cGy(hS:SL W l w)(hm:Has (.ob (eJ (Value.int .i64) val b m)) l)(hlen:m.length*8<=140737488355328)(x8:∀p∈m,(Lit.int .i64 p.1).wf=true){K:Ε->Ζ->Prop}
  (h:∀v w',SL W (.ob (bF v 2 1 m.length ((rl m).map (Value.int .i64)))::l) w'->K v w') :
  aF 51 [.map (some b)] w λv1 w1=>aF 50 [v1] w1 K:=
 VM czv cId cIh (tto func119 (by kernel_rfl) rfl) (tto func120 (by kernel_rfl) rfl) yyr hS hm hlen x8 h
def cGz(hS:SL W l w)(hm:Has (.ob (eJ (Value.int .i64) val b m)) l)(hlen:m.length*8<=140737488355328)(x8:∀p∈m,(Lit.int .i64 p.1).wf=true){K:Ε->Ζ->Prop}
  (h:∀v w',SL W (.ob (bF v 3 1 m.length ((rl m).map (Value.int .i64)))::l) w'->K v w') :
  aF 246 [.map (some b)] w λv1 w1=>aF 245 [v1] w1 K:=
 VM czx cIe cIi (tto func306 (by kernel_rfl) rfl) (tto func307 (by kernel_rfl) rfl) yyd hS hm hlen x8 h
end
set_option maxRecDepth 100000
open Go.RowKit
abbrev SP := Spec prog
def md(v:Int)(n:Nat):Nat:=((IntKind.u64.wrap v) % (n:Int)).toNat
def ix(v:Int)(n:Nat)(hn:0<n):md v n<n:=by
 unfold md;have h1:=vvh (IntKind.u64.wrap v) (show (n:Int)≠0 by omega);have h2:=uud (IntKind.u64.wrap v) (show (0:Int)<n by omega);omega
def yl(v:Int)(n:Nat)(h1:0<n)(h2:n<=9223372036854775807):SP 32 [Γ v,Γ (n:Int)] [] (cE (Γ (md v n:Int)) []):=by
 refine Enzz λW F w hS=>?_;apply cQr;have hn:IntKind.u64.wrap (n:Int)=n:=by rw[vva];omega
 have hv:0<=IntKind.u64.wrap v:=by rw[vva];omega
 refine zW (zW ?_);rw[hn];refine Zt (by omega) ?_;have e:(IntKind.u64.wrap v).tmod (n:Int)=(md v n:Int):=by
  rw[xx2 hv];unfold md;have:=vvh (IntKind.u64.wrap v) (show (n:Int)≠0 by omega);omega
 rw[e];have:=ix v n h1;refine yA (by omega) ?_;(exact cF hS)
def zQ(v:Int)(n:Nat)(h1:0<n)(h2:n<=9223372036854775807):SP 33 [Γ v,Γ (n:Int)] [] (cE (Γ (md v n:Int)) []):=by
 refine Enzz λW F w hS=>?_;apply cQ2;have hn:IntKind.u64.wrap (n:Int)=n:=by rw[vva];omega
 have hv:0<=IntKind.u64.wrap v:=by rw[vva];omega
 refine zW (zW ?_);rw[hn];refine Zt (by omega) ?_;have e:(IntKind.u64.wrap v).tmod (n:Int)=(md v n:Int):=by
  rw[xx2 hv];unfold md;have:=vvh (IntKind.u64.wrap v) (show (n:Int)≠0 by omega);omega
 rw[e];have:=ix v n h1;refine yA (by omega) ?_;(exact cF hS)
section
variable {W w:Ζ} {l:Β}
def zh.perm{α:Type}{A:α->zC}{xs ys:List α}(h:SL W (.ob (zh A xs)::l) w)(p:xs.Perm ys):SL W (.ob (zh A ys)::l) w:=
 zh.iff.2 ((zh.iff.1 h).perm ((p.map _).append_right l))
def SL.rQ{v:Ε}{t:Ι}{sz n:Nat}{cells:Ξ}(h:SL W l w)(m:Has (.ob (bF v t sz n cells)) l):v.oneCell'=true:=by
 obtain⟨a,cap,rfl,_⟩:=bF.at h m;rfl
def XA{t:Ι}{a:Option Addr}{n c:Nat}{K:Ε->Prop}(h:K (.bool a.isNone)):HEq (.slice t) false (.slice a n c) Θ K:=⟨a.isNone,by cases a<;>rfl,h⟩
end
def bWk{α β:Type}{key:α->Int}{kb:β->Int}{f:β->α}(hf:∀b,key (f b)=kb b)(L:List β)(k:Int):dS key (L.map f) k=(dS kb L k).map f:=by
 unfold dS;rw[J5 hf,CF hf];split
 ·rw[ww5]
 rfl
def vH{α:Type}{key:α->Int}{L:List α}{k:Int}{x:α}(h:dS key L k=some x):L[fz key L k]?=some x/\fz key L k<L.length/\key x=k:=by
 unfold dS at h;split at h
 ·rename_i hi;obtain⟨hl,e⟩:=tT hi;refine⟨h,hl,?_⟩;rw[zzc hl]at h
  cases h;exact e
 cases h
def CY{α:Type}{key:α->Int}{L:List α}{k:Int}:(dS key L k).isSome=iE key L k:=by
 cases h:iE key L k with
 | true=>
  obtain⟨hl,_⟩:=tT h;unfold dS;rw[zzd h,zzc hl];rfl
 | false=>unfold dS;rw[zzb (by rw[h];decide)];rfl
def gu(b:Nat):Ε:=Δ b
abbrev EF:=PF × Nat
def fR(x:EF):Int:=x.1.id
def F6(x:EF):PF.id (Prod.fst x)=fR x:=rfl
abbrev LB(x:EF)(v:Ε):Β:=[.pt x.2 [v,Γ x.1.safe] 284,.ob (bF v 5 1 x.1.b.length (x.1.b.map dd))]
def eM(x:EF):zC:=jT λv:Ε=>zH True (LB x v)
def eM.iff{W w:Ζ}{x:EF}{l:Β}:SL W (.ob (eM x)::l) w↔∃v,SL W (.pt x.2 [v,Γ x.1.safe] 284::.ob (bF v 5 1 x.1.b.length (x.1.b.map dd))::l) w:=by
 unfold eM LB;simp only[SL.ex,SL.fact,zzv,zzq,uuu]
abbrev iN(mb:Nat)(s:DS):Ξ:=[.map (some mb),.bool s.off,Γ s.arm,Γ s.ops]
abbrev LA(dp:Nat)(s:DS)(mb:Nat)(m:List (Int × Nat)):Β:=[.pt dp (iN mb s) 166,.ob (eJ (Value.int .i64) gu mb m)]
structure l9(m:List (Int × Nat))(L:List EF)(R:List PF):Prop where
 rel:ky fR Prod.snd m L
 eq:L.map Prod.fst=R
def cw(dp:Nat)(s:DS):zC:=jT λx:Nat × List (Int × Nat) × List EF=>zH (l9 x.2.1 x.2.2 s.R) [.pt dp (iN x.1 s) 166,.ob (eJ (Value.int .i64) gu x.1 x.2.1),.ob (zh eM x.2.2)]
def cw.iff{W w:Ζ}{dp:Nat}{s:DS}{l:Β}:SL W (.ob (cw dp s)::l) w↔∃mb m L,l9 m L s.R/\SL W (.pt dp (iN mb s) 166::.ob (eJ (Value.int .i64) gu mb m)::.ob (zh eM L)::l) w:=by
 unfold cw;simp only[SL.ex,SL.fact,zzv,zzq];exact⟨λ⟨x,h1,h2⟩=>⟨x.1,x.2.1,x.2.2,h1,h2⟩,λ⟨mb,m,L,h1,h2⟩=>⟨(mb,m,L),h1,h2⟩⟩
def l9.get{m:List (Int × Nat)}{L:List EF}{R:List PF}(h:l9 m L R)(f:Int):fT m f=(dS fR L f).map Prod.snd:=h.rel.get f
def l9.fe{m:List (Int × Nat)}{L:List EF}{R:List PF}(h:l9 m L R)(f:Int):dS PF.id R f=(dS fR L f).map Prod.fst:=by
 rw[<- h.eq];exact bWk F6 L f
def l9.len{m:List (Int × Nat)}{L:List EF}{R:List PF}(h:l9 m L R):L.length=R.length:=by rw[<- h.eq,zzn]
def l9.set{m:List (Int × Nat)}{L:List EF}{R:List PF}(h:l9 m L R){f:Int}{x:EF}(hx:dS fR L f=some x){y:PF}(hy:y.id=f):l9 m (L.set (fz fR L f) (y,x.2)) (gb PF.id R y):=by
 obtain⟨h1,h2,h3⟩:=vH hx;obtain⟨h4,h5⟩:=zzf.1 h1;refine⟨h.rel.rX h2 (by rw[h5,h3];exact hy) (by rw[h5]),?_⟩;have hi:iE PF.id R y.id=true:=by
  rw[<- CY,hy,h.fe,hx];rfl
 rw[GA hi,hy,<- h.eq,CF F6,vvr]
def l9.new{m:List (Int × Nat)}{L:List EF}{R:List PF}(h:l9 m L R){f:Int}(hx:dS fR L f=none){y:PF}(hy:y.id=f)(p:Nat):l9 (gM m f p) (gb fR L (y,p)) (gb PF.id R y):=by
 have hi:iE fR L (fR (y,p))=false:=by
  rw[<- CY,show fR (y,p)=f from hy,hx];rfl
 have:=h.rel.add (x:=(y,p)) hi;refine⟨by rw[<- hy];exact this,?_⟩;rw[<- h.eq];exact cEl F6 L (y,p)
def l9.del{m:List (Int × Nat)}{L:List EF}{R:List PF}(h:l9 m L R)(f:Int):l9 (rO m f) (jN fR L f) (jN PF.id R f):=by
 refine⟨h.rel.del f,?_⟩;rw[<- h.eq];exact bFt F6 L f
def cB3:SP 35 [] [] (λv post=>∃dp:Nat,v= Δ dp/\post=[.ob (cw dp gU)]):=by
 refine Enzz λW F w hS=>?_;apply cRe;delta ai;refine yZ rfl ?_;refine⟨_,rfl,zE (cs:=[.map (some w.heap.size),.bool false,Γ 0,Γ 0]) (SL.Kb (key:=Value.int .i64) (val:=gu) hS) ?_⟩;intro dp w' fY;refine⟨_,⟨dp,rfl,rfl⟩,cw.iff.2 ⟨w.heap.size,[],[],⟨ky.nil,rfl⟩,?_⟩⟩;have pZ:SL W (.pt dp (iN w.heap.size gU) 166::.ob (eJ (Value.int .i64) gu w.heap.size [])::F) w':=fY;have h2:=zh.nil (A:=eM) pZ;exact SL.cD h2 Xi
def YQ(dp mb:Nat)(s:DS)(f:Int):SP 281 [Δ dp,Γ f] [.pt dp (iN mb s) 166] (cE (Γ (may s f)) [.pt dp (iN mb s) 166]):=by
 refine Enzz λW F w hS=>?_;apply cPv;delta aI bW ai;refine Gp ?_;unfold may;refine yU (λh=>?_) (λh=>?_)
 ·rw[zzd h];(exact cF hS)
 rw[zzb (by rw[h];decide)];refine cA (λh2=>?_) (λh2=>?_)
 ·rw[zzd (.inl h2)];(exact cF hS)
 refine cA (λh3=>?_) (λh3=>?_)
 ·rw[zzd (.inr h3)];(exact cF hS)
 rw[zzb (by omega)];(exact cF hS)
def CR(s:DS)(m:List (Int × Nat))(f:Int):Ε:=if may s f≠0 then .tuple #[.pointer none,Γ (may s f)] else match fT m f with
 | none=>.tuple #[.pointer none,Γ 5]
 | some p=>.tuple #[gu p,Γ 0]
def Za(dp mb:Nat)(s:DS)(m:List (Int × Nat))(f:Int):SP 283 [Δ dp,Γ f] (LA dp s mb m) (cE (CR s m f) (LA dp s mb m)):=by
 refine Enzz λW F w hS=>?_;apply cPx;delta aI bW ai cY;refine Cg (YQ dp mb s f) λw hS=>?_;unfold CR;refine za (λh=>?_) (λh=>?_)
 ·rw[zzd h];(exact cF hS)
 rw[zzb h];refine Gp ?_;refine yO hS Xh (py .i64) wwu yyd (λ_=>rfl) ?_;cases hm:fT m f with
 | none=>
  simp only[vvw,vvb];refine Ym (zq ?_);(exact cF hS)
 | some p=>
  simp only[yyi,xxj];unfold gu;refine Ym (zp ?_);(exact cF hS)
def yj(dp mb:Nat)(s:DS)(h0:s.off=false)(h1:0<=s.arm)(h2:s.arm<=9223372036854775807)(h3:s.ops<=100000):SP 282 [Δ dp] [.pt dp (iN mb s) 166]
  (cE (Γ s.cK.err) [.pt dp (iN mb s.cK) 166]):=by
 refine Enzz λW F w hS=>?_;apply cPw;delta aI bW c_ ai;refine Gn λw hS=>?_;refine za (λh=>?_) (λh=>?_)
 ·refine Gn λw hS=>?_;have e:decide (s.arm-1=0)=decide (s.arm=1):=by congr 1;exact propext ⟨λ_=>by omega,λ_=>by omega⟩
  rw[e];rw[e]at hS
  have hS:SL W (.pt dp (iN mb s.cK) 166::F) w:=by
   simp only[iN,DS.cK,zzd h];exact hS
  unfold DS.err;refine za (λh4=>?_) (λh4=>?_)
  ·rw[zzd (by simp[DS.cK,h4])];(exact cF hS)
  rw[zzb (by simp[DS.cK,h4])];(exact cF hS)
 refine Gp ?_;have ha:¬s.arm=1:=by omega
 have hS:SL W (.pt dp (iN mb s.cK) 166::F) w:=by
  simp only[iN,DS.cK,zzb h,ha,wwz];rw[h0]at hS
  exact hS
 rw[h0];refine zp ?_;have:s.cK.err=0:=by simp[DS.err,DS.cK,ha]
 rw[this];(exact cF hS)
def ID{α:Type}{enc:α->Ξ}{n:Nat}(hn:∀x,(enc x).length=n):∀(xs:List α) (j k:Nat) (hj:j<xs.length) (x:α) (v:Ε),k<n->(enc xs[j]).set k v=enc x->((xs.map enc).flatten).set (j*n+k) v=((xs.set j x).map enc).flatten
 | y::xs,0,k,_,x,v,hk,h=>by
  simp only[zzr,zz9,List.set_cons_zero,uuk,yya];rw[ww1 _ _ (by rw[hn];exact hk)];rw[show (enc y).set k v=enc x from h]
 | y::xs,j+1,k,hj,x,v,hk,h=>by
  simp only[zzr,zz9,List.set_cons_succ];rw[vvy _ _ (by rw[hn,yyu];omega),hn,show (j+1)*n+k-n=j*n+k by rw[yyu];omega,ID hn xs j k (by simpa using hj) x v hk (by simpa using h)]
def Cm(sz gn:Nat)(z:Ξ)(t ts:Ι)(v0:Ε)(w:Ζ)(R:Ε->Ζ->Prop):Prop:=
 HEq (.slice ts) false v0 (.slice Option.none 0 0) λv4=>
 df v4
 (R (.slice Option.none 0 0) w)
 (zm (cQ z 0) [] t 0 w λv5 iI=>
 zx sz gn z t v5 v0 iI λv7 iz=>
 R v7 iz)
def H0{W w:Ζ}{F:Β}{sz gn n:Nat}{z cs:Ξ}{t ts:Ι}{v:Ε}{K:Ε->Ζ->Prop}(hv:∃a c,v= .slice a n c)(iD:∀w' c,SL W (c::F) w'->kL w' sz v n cs)(hl:cs.length=n*sz)(hz:z.length=sz)(h0:0<sz)(h1:∀v∈cs,v.oneCell'=true)(hb:n*gn<=140737488355328)(hn:n<=140737488355328)
  (hS:SL W F w) (h:∀u w',SL W (.ob (bF u t sz n cs)::F) w'->K u w'):Cm sz gn z t ts v w K:=by
 obtain⟨a,c,rfl⟩:=hv;unfold Cm;refine XA ?_;cases a with
 | none=>
  refine zq ?_;have hs:=iD _ _ (bF.nil (t:=t) (sz:=sz) hS);obtain rfl:cs=[]:=hs.2;obtain rfl:n=0:=by
   rw[yym]at hl
   rcases Nat.mul_eq_zero.1 hl.symm with h|h
   ·exact h
   omega
  exact h _ _ (bF.nil hS)
 | some p=>
  refine zp ?_;refine zM hS rfl ?_;intro b w' fY;have pZ:SL W (.ob (bF (.slice (some ⟨b,0,none⟩) 0 0) t sz 0 [])::F) w':=bF.full (by simp) (by simpa [cQ] using fY);refine zJ pZ .hd (iD _ _ pZ) hl hz h1 (by rw[yya];exact hb) (by omega) ?_;intro u w2 A7;rw[yya,zzq]at A7
  exact h u w2 A7
section
variable {P:Program} {f:FuncId} {sz gn n:Nat} {z cs:Ξ} {t ts:Ι}
def Sn(vc:∀v0 w R,Cm sz gn z t ts v0 w R->zB P f [v0] w R)(hz:z.length=sz)(h0:0<sz){H:bw}{v:Ε}(hv:de H sz v n cs)(h1:∀v∈cs,v.oneCell'=true)(hb:n*gn<=140737488355328)(hn:n<=140737488355328):
  Spec P f [v] [.mem H] (λu post=>post=[.ob (bF u t sz n cs),.mem H]):=by
 intro W F w hS;have hS:SL W (.mem H::F) w:=hS;exact vc _ _ _ (H0 (let ⟨_,a,c,e,_⟩:=hv;⟨a,c,e⟩) (λw' c h=>D_ h (.tl .hd) hv) hv.1 hz h0 h1 hb hn hS λu w' hS=>⟨_,rfl,hS⟩)
def a_6(vc:∀v0 w R,Cm sz gn z t ts v0 w R->zB P f [v0] w R)(hz:z.length=sz)(h0:0<sz){v:Ε}(h1:∀v∈cs,v.oneCell'=true)(hl:cs.length=n*sz)(hb:n*gn<=140737488355328)(hn:n<=140737488355328):
  Spec P f [v] [.ob (bF v t sz n cs)] (λu post=>post=[.ob (bF u t sz n cs),.ob (bF v t sz n cs)]):=by
 intro W F w hS;have hS:SL W (.ob (bF v t sz n cs)::F) w:=hS;exact vc _ _ _ (H0 (let ⟨a,c,e,_⟩:=bF.at hS .hd;⟨a,c,e⟩) (λw' c h=>nG h (.tl .hd)) hl hz h0 h1 hb hn hS λu w' hS=>⟨_,rfl,hS⟩)
end
section
variable {W w:Ζ} {l F:Β} {α:Type} {enc:α->Ξ} {t:Ι} {sz:Nat}
def zu{cs:Ξ}{K:Ε->Ζ->Prop}(hS:SL W l w)(h:∀b w,SL W (.pt b cs t::l) w->K (Δ b) w):∃pQ:Ξ,Value.agg cs.toArray= .agg pQ.toArray/\zg pQ t w K:=⟨cs,rfl,zE hS h⟩
def qZ{v:Ε}{n j:Nat}{k:IntKind}{xs:List α}{x:α}{K:Ε->Prop}(h:SL W l w)(m:Has (.ob (dB v t sz n (xs.map enc).flatten)) l)(hn:∀x,(enc x).length=sz)(hx:xs[j]?=some x)(hj:j<n)(hK:K (agg (enc x))):
  zk sz v (.int k (j:Int)) λp=>ze sz p w K:=by
 refine y5 h m hj λb o hb=>⟨⟨b,o,none⟩,enc x,rfl,hn x,λi u hu=>?_,hK⟩;rw[yye];have hi:i<sz:=by rw[<- hn x];exact (zzf.1 hu).1
 exact hb i u hi (pX hn xs j i x u hx hu)
def qY{x:Ε}{gn n b:Nat}{z:Ξ}{xs:List α}{y:α}{K:Ε->Ζ->Prop}(hS:SL W l w)(hr:fq (.ob (dB x t sz n (xs.map enc).flatten)) l F)(hm:Has (.pt b (enc y) t) l)(hn:∀x,(enc x).length=sz)(h1:∀x,∀v∈enc x,v.oneCell'=true)(hz:z.length=sz)(hl:xs.length=n)(hb:(n+1)*gn<=140737488355328)(Jr:n+1<=140737488355328)
  (h:∀v' w',SL W (.ob (dB v' t sz (n+1) ((xs++[y]).map enc).flatten)::F) w'->K v' w'):zx sz gn z t x (.slice (some ⟨b,0,none⟩) 1 1) w K:=
 ZZ hS hr (jR hS hm (by rw[hn,wwp])) (by rw[hn,wwp]) hz (h1 y) hb Jr λv' w' hS=>h v' w' (by rw[vF];exact hS)
def yz{x:Ε}{gn n b:Nat}{z:Ξ}{xs:List α}{y:α}{K:Ε->Ζ->Prop}(hS:SL W l w)(hr:fq (.ob (bF x t sz n (xs.map enc).flatten)) l F)(hm:Has (.pt b (enc y) t) l)(hn:∀x,(enc x).length=sz)(h1:∀x,∀v∈enc x,v.oneCell'=true)(hz:z.length=sz)(hb:(n+1)*gn<=140737488355328)(Jr:n+1<=140737488355328)
  (h:∀v' w',SL W (.ob (bF v' t sz (n+1) ((xs++[y]).map enc).flatten)::F) w'->K v' w'):zx sz gn z t x (.slice (some ⟨b,0,none⟩) 1 1) w K:=
 zJ hS hr (jR hS hm (by rw[hn,wwp])) (by rw[hn,wwp]) hz (h1 y) hb Jr λv' w' hS=>h v' w' (by rw[vF];exact hS)
def SL.rm{v:Ε}{cs:Ξ}{xs:List α}{x:α}(hS:SL W (.ob (bF v t sz (xs.length+1) cs)::l) w):SL W (.ob (bF v t sz (xs++[x]).length cs)::l) w:=by
 rw[zza,yyc];exact hS
def SL.KQ{H:bw}{b n:Nat}{cs:Ξ}(hS:SL W l w)(hp:gE [.mem H,.pt b cs t] l F)(hl:cs.length=n*sz):∃H',H.le H'/\de H' sz (.slice (some ⟨b,0,none⟩) n n) n cs/\SL W (.mem H'::F) w:=by
 have hS:=hS.pick hp;exact bF.freeze ((bF.full hl (hS.perm (.swap _ _ _))).perm (.swap _ _ _))
end
def B3(a b:Int):Int:=IntKind.u32.wrap ((BitVec.ofInt IntKind.u32.bits a ^^^ BitVec.ofInt IntKind.u32.bits b).toNat)
def RQ(a b:Int):Int:=IntKind.u32.wrap ((BitVec.ofInt IntKind.u32.bits a &&& BitVec.ofInt IntKind.u32.bits b).toNat)
def EY(a:Int):Int:=IntKind.u32.wrap ((BitVec.ofInt IntKind.u32.bits IntKind.u32.max ^^^ BitVec.ofInt IntKind.u32.bits a).toNat)
def EP(c:Int):Int:=if RQ c 1=1 then B3 (c.fdiv (2 ^ 1)) 3988292384 else c.fdiv (2 ^ 1)
def Cw:Nat->Int->Int
 | 0,c=>c
 | n+1,c=>EP (Cw n c)
def K8(c:Int)(b:Κ):Int:=Cw 8 (B3 c (b.toNat:Int))
def wj(s:Int)(b:Φ):Int:=EY (b.foldl K8 (EY s))
def gY(n:Int):Κ:=UInt8.ofNat (n % 256).toNat
def cAo(n:Int):dd (gY n)= .int .u8 (IntKind.u8.wrap n):=by
 unfold dd gY;congr 1;rw[UInt8.toNat_ofNat'];simp only[IntKind.wrap,IntKind.bits,IntKind.signed];have h1:=vvh n (show (256:Int)≠0 by omega);have h2:=uud n (show (0:Int)<256 by omega);simp;omega
def four(x:Int):Φ:=[gY (x.fdiv (2 ^ 24)),gY (x.fdiv (2 ^ 16)),gY (x.fdiv (2 ^ 8)),gY x]
def A1(x:Int):(four x).length=4:=rfl
def sumOf(p:Φ):Int:=wj (wj 0 (four p.length)) p
def dm(p:Φ):Φ:=four p.length++four (sumOf p)++p
def kJ(p:Φ):(dm p).length=8+p.length:=by simp[dm,A1];omega
def jq(b:Φ):Nat:=((b.getD 0 0).toNat*16777216+(b.getD 1 0).toNat*65536)+(b.getD 2 0).toNat*256+(b.getD 3 0).toNat
def gZ(b:Φ):Except Int (Φ × Nat):=
 if b.length<8 then .error 2
 else if 1048576<jq b then .error 3
 else if b.length<8+jq b then .error 2
 else if four (sumOf ((b.drop 8).take (jq b)))≠(b.drop 4).take 4 then .error 4
 else .ok ((b.drop 8).take (jq b),8+jq b)
def rT:Nat->Φ->List Φ × Nat
 | 0,_=>([],0)
 | f+1,b=>match gZ b with
  | .ok (p,n)=>(p::(rT f (b.drop n)).1,n+(rT f (b.drop n)).2)
  | .error _=>([],0)
def cCk(b:Φ):jq b<4294967296:=by
 unfold jq;have h:∀i,(b.getD i 0).toNat<256:=λi=>UInt8.toNat_lt _;have:=h 0;have:=h 1;have:=h 2;have:=h 3;omega
def Ka(n:Nat):(gY (n:Int)).toNat=n % 256:=by
 unfold gY;rw[UInt8.toNat_ofNat'];omega
def CQ(n k:Nat)(hk:0<k):(n:Int).fdiv (k:Int)=((n / k:Nat):Int):=by
 rw[vv0 _ (by omega)];exact (Int.natCast_ediv n k).symm
def cCj(n:Nat)(r:Φ)(h:n<4294967296):jq (four n++r)=n:=by
 unfold jq four;have e1:((n:Int).fdiv (2 ^ 24))=((n / 16777216:Nat):Int):=CQ n 16777216 (by decide);have e2:((n:Int).fdiv (2 ^ 16))=((n / 65536:Nat):Int):=CQ n 65536 (by decide);have e3:((n:Int).fdiv (2 ^ 8))=((n / 256:Nat):Int):=CQ n 256 (by decide);rw[e1,e2,e3];simp only[zzv,zzq,List.getD_cons_zero,List.getD_cons_succ,Ka];omega
def cCl{b:Φ}{k:Nat}(h:4<=k):jq (b.take k)=jq b:=by
 unfold jq;have e:∀i,i<4->(b.take k).getD i 0=b.getD i 0:=λi hi=>by
  rw[vvd,vvd,uue,zzd (by omega)]
 rw[e 0 (by omega),e 1 (by omega),e 2 (by omega),e 3 (by omega)]
def Xc{p r:Φ}(h:p.length<=1048576):jq (dm p++r)=p.length:=by
 unfold dm;rw[zzk,zzk];exact cCj p.length _ (by omega)
def Lg{p r:Φ}(h:p.length<=1048576):gZ (dm p++r)= .ok (p,8+p.length):=by
 have hn:=Xc (r:=r) h;have hl:(dm p++r).length=8+p.length+r.length:=by rw[zza,kJ]
 have hd8:((dm p++r).drop 8).take p.length=p:=by
  unfold dm;rw[show (8:Nat)=(four p.length++four (sumOf p)).length by simp[A1],zzk (four (p.length:Int)++four (sumOf p)) p r,ww2];exact ww3
 have hd4:((dm p++r).drop 4).take 4=four (sumOf p):=by
  unfold dm;rw[zzk,zzk,show (4:Nat)=(four (p.length:Int)).length by simp[A1],ww2,show (four (p.length:Int)).length=(four (sumOf p)).length from rfl];exact ww3
 unfold gZ;rw[hn,zzb (by omega),zzb (by omega),zzb (by omega),hd8,hd4,zzb (by simp)]
def aif{p:Φ}(h:p.length<=1048576){k:Nat}(hk:k<8+p.length):∃e,gZ ((dm p).take k)= .error e/\e≠0:=by
 have hl:((dm p).take k).length=k:=by rw[zzg,kJ];omega
 unfold gZ;rw[hl];by_cases h8:k<8
 ·rw[zzd h8];exact⟨2,rfl,by decide⟩
 rw[zzb h8,cCl (by omega)];have hn:=Xc (r:=[]) h;rw[zz2]at hn
 rw[hn,zzb (by omega),zzd hk];exact⟨2,rfl,by decide⟩
def aii:gZ []= .error 2:=rfl
def GR{f:Nat}{b p:Φ}{n:Nat}(h:gZ b= .ok (p,n)):rT (f+1) b=(p::(rT f (b.drop n)).1,n+(rT f (b.drop n)).2):=by simp only[rT,h]
def GQ{f:Nat}{b:Φ}{e:Int}(h:gZ b= .error e):rT (f+1) b=([],0):=by simp only[rT,h]
def eC(ps:List Φ):Φ:=(ps.map dm).flatten
def nF(p:Φ)(ps:List Φ):eC (p::ps)=dm p++eC ps:=by simp[eC]
def Xe(ps:List Φ)(p:Φ):eC (ps++[p])=eC ps++dm p:=by simp[eC]
def cFu(ps qs:List Φ):eC (ps++qs)=eC ps++eC qs:=by simp[eC]
def XN:∀(ps:List Φ) (r:Φ) (f:Nat),(∀p∈ps,p.length<=1048576)->(∃e,gZ r= .error e)->ps.length<f->rT f (eC ps++r)=(ps,(eC ps).length)
 | [],r,f+1,_,⟨e,he⟩,_=>by
  rw[show eC []++r=r from rfl,GQ he];rfl
 | p::ps,r,f+1,hp,he,hf=>by
  have vX:=hp p (.head _);have ih:=XN ps r f (λq hq=>hp q (.tail _ hq)) he (Nat.lt_of_succ_lt_succ hf);rw[nF,zzk,GR (Lg vX),<- kJ,ww2,ih,zza]
def Ee{b p:Φ}{n:Nat}(h:gZ b= .ok (p,n)):8<=n/\n<=b.length/\p.length<=1048576/\n=8+p.length/\p=(b.drop 8).take p.length:=by
 unfold gZ at h;split at h
 ·cases h
 split at h
 ·cases h
 split at h
 ·cases h
 split at h
 ·cases h
 rename_i h1 h2 h3 h4;have h:=Except.ok.inj h;generalize jq b=k at *
 cases h;have:((b.drop 8).take k).length=k:=by rw[zzg,zzs];omega
 exact⟨by omega,by omega,by omega,by omega,by rw[this]⟩
def aih{b:Φ}{e:Int}(h:gZ b= .error e):e=2\/e=3\/e=4:=by
 unfold gZ at h;split at h
 ·cases h;simp
 split at h
 ·cases h;simp
 split at h
 ·cases h;simp
 split at h
 ·cases h;simp
 cases h
def XM:∀(f g:Nat) (b:Φ),b.length<f->b.length<g->rT f b=rT g b
 | f+1,g+1,b,hf,hg=>by
  cases h:gZ b with
  | error e=>rw[GQ h,GQ h]
  | ok x=>
   obtain⟨p,n⟩:=x;have:=Ee h;rw[GR h,GR h,XM f g (b.drop n) (by rw[zzs];omega) (by rw[zzs];omega)]
def jy(b:Φ):List Φ × Nat:=rT (b.length+1) b
def GP{b p:Φ}{n:Nat}(h:gZ b= .ok (p,n)):jy b=(p::(jy (b.drop n)).1,n+(jy (b.drop n)).2):=by
 have:=Ee h;unfold jy;rw[GR h,XM b.length ((b.drop n).length+1) (b.drop n) (by rw[zzs];omega) (by omega)]
def D8{b:Φ}{e:Int}(h:gZ b= .error e):jy b=([],0):=GQ h
def cHo(f:Nat):∀b:Φ,b.length<f->(jy b).2<=b.length:=by
 induction f with
 | zero=>intro b h;omega
 | succ f ih=>
  intro b hb;cases h:gZ b with
  | error e=>rw[D8 h];exact zz4 _
  | ok x=>
   obtain⟨p,n⟩:=x;have h2:=Ee h;have:=ih (b.drop n) (by rw[zzs];omega);rw[GP h];rw[zzs]at this
   show n+_<=_;omega
def Xd:∀ps:List Φ,ps.length*8<=(eC ps).length
 | []=>by simp
 | p::ps=>by
  have:=Xd ps;rw[nF,zza,kJ,zzj];omega
def cHq(ps:List Φ)(r:Φ)(hp:∀p∈ps,p.length<=1048576)(he:∃e,gZ r= .error e):jy (eC ps++r)=(ps,(eC ps).length):=by
 refine XN ps r _ hp he ?_;have:=Xd ps;rw[zza];omega
structure dK where
 kind:Int
 n:Int
 s:Η
def gk(x:dK):Ξ:=[Γ x.kind,Γ x.n,.string x.s]
def xg:dK:=⟨0,0,⟨#[]⟩⟩
def eZ(x:Int):Nat->Φ
 | 0=>[]
 | n+1=>gY (x.fdiv (2 ^ (8*n)))::eZ x n
def lV(x:Int):∀n,(eZ x n).length=n
 | 0=>rfl
 | n+1=>by simp[eZ,lV x n]
def oU(x:dK):Bool:=if x.kind=1 then decide (x.s=⟨#[]⟩) else if x.kind=2 then decide (x.n=0) && decide (x.s.size<=4096) else false
def wC(n:Int):Int:=n % 18446744073709551616
def fD(x:dK):Φ:=if x.kind=1 then gY x.kind::eZ (wC x.n) 8 else gY x.kind::(eZ x.s.size 2++x.s.data.toList)
def oG(l:List dK):Except Int Φ:=if 32767<l.length then .error 1 else if l.all oU then .ok (eZ l.length 2++(l.map fD).flatten) else .error 1
structure jA where
 b:Φ
 e:Int
def gT(n:Nat)(r:jA):Φ × jA:=if r.e≠0 then ([],r) else if r.b.length<n then ([],{r with e:=2}) else (r.b.take n,{r with b:=r.b.drop n})
def ja(b:Φ):Nat:=b.foldl (λx c=>(x*256+c.toNat) % 18446744073709551616) 0
def fV(n:Nat)(r:jA):Nat × jA:=(ja (gT n r).1,(gT n r).2)
def gS(m:Nat)(r:jA):Nat × jA:=if m<(fV 2 r).1 then (0,{(fV 2 r).2 with e:=3}) else fV 2 r
def sig(n:Nat):Int:=if n<9223372036854775808 then n else (n:Int)-18446744073709551616
def iO(r:jA):dK × jA:=
 if (fV 1 r).1=1 then (⟨1,sig (fV 8 (fV 1 r).2).1,⟨#[]⟩⟩,(fV 8 (fV 1 r).2).2)
 else if (fV 1 r).1=2 then (⟨2,0,⟨(gT (gS 4096 (fV 1 r).2).1 (gS 4096 (fV 1 r).2).2).1.toArray⟩⟩,(gT (gS 4096 (fV 1 r).2).1 (gS 4096 (fV 1 r).2).2).2)
 else (xg,if (fV 1 r).2.e=0 then {(fV 1 r).2 with e:=3} else (fV 1 r).2)
def ir:Nat->jA->List dK × jA
 | 0,r=>([],r)
 | i+1,r=>if r.e=0 then ((iO r).1::(ir i (iO r).2).1,(ir i (iO r).2).2) else ([],r)
def jM(b:Φ):Except Int (List dK):=
 let m:=gS 32767 ⟨b,0⟩
 let x:=ir m.1 m.2
 let e:=if x.2.e=0 then if 0<x.2.b.length then 3 else 0 else x.2.e
 if e=0 then .ok x.1 else .error e
def dZ(n:Nat):Φ:=[0,1,1]++eZ n 8
def A_(n:Nat):(dZ n).length=11:=by simp[dZ,lV]
def aWu(x:Nat)(b:Φ)(c:Κ)(h:ja b=x):ja (b++[c])=(x*256+c.toNat) % 18446744073709551616:=by
 unfold ja at *
 rw[ww6,h];rfl
def Wv{n:Nat}(h:n<1152921504606846976):ja (eZ n 8)=n:=by
 have f:∀k,((n:Int).fdiv (2 ^ (8*k)))=((n / 2 ^ (8*k):Nat):Int):=λk=>by
  have:=CQ n (2 ^ (8*k)) (Nat.two_pow_pos _);rw[<- this];push_cast;rfl
 unfold eZ eZ eZ eZ eZ eZ eZ eZ eZ;simp only[f,ja,xxq,ttm,Ka,show (2:Nat) ^ (8*7)=72057594037927936 from rfl,show (2:Nat) ^ (8*6)=281474976710656 from rfl,show (2:Nat) ^ (8*5)=1099511627776 from rfl,
  show (2:Nat) ^ (8*4)=4294967296 from rfl,show (2:Nat) ^ (8*3)=16777216 from rfl,show (2:Nat) ^ (8*2)=65536 from rfl,show (2:Nat) ^ (8*1)=256 from rfl,show (2:Nat) ^ (8*0)=1 from rfl]
 omega
def cB6{x y:Φ}{n:Nat}(h:x.length=n):gT n ⟨x++y,0⟩=(x,⟨y,0⟩):=by
 subst h;unfold gT;rw[zzb (by simp),zzb (by simp)];simp
def Kn{x y:Φ}{n:Nat}(h:x.length=n):fV n ⟨x++y,0⟩=(ja x,⟨y,0⟩):=by
 unfold fV;rw[cB6 h]
def bFf{n:Nat}(h:n<1152921504606846976):jM (dZ n)= .ok [⟨1,n,⟨#[]⟩⟩]:=by
 have h8:=Wv h;have hl:=lV (n:Int) 8;unfold dZ;generalize eZ (n:Int) 8=y at *
 have e1:gS 32767 ⟨[0,1,1]++y,0⟩=(1,⟨[1]++y,0⟩):=by
  have:fV 2 ⟨[0,1]++([1]++y),0⟩=(1,⟨[1]++y,0⟩):=Kn rfl;unfold gS;rw[show ([0,1,1]++y:Φ)=[0,1]++([1]++y) from rfl,this,zzb (by show ¬32767<1;omega)]
 have e3:fV 1 ⟨[1]++y,0⟩=(1,⟨y,0⟩):=Kn rfl;have e4:fV 8 ⟨y,0⟩=(n,⟨[],0⟩):=by
  have:=Kn (x:=y) (y:=[]) hl;rw[zz2,h8]at this;exact this
 have e2:iO ⟨[1]++y,0⟩=(⟨1,n,⟨#[]⟩⟩,⟨[],0⟩):=by
  unfold iO;rw[e3,zzd rfl,e4,sig,zzd (by omega)]
 have e5:ir 1 ⟨[1]++y,0⟩=([⟨1,n,⟨#[]⟩⟩],⟨[],0⟩):=by
  show (if (0:Int)=0 then _ else _)=_;rw[zzd rfl,e2];rfl
 unfold jM;simp only[e1,e5];rfl
def FC(l:List dK):Option Int:=match l with
 | [f]=>if f.kind=1/\1<=f.n/\f.n<=1099511627776 then some f.n else none
 | _=>none
def pk(b:Φ):Option Int:=match jM b with
 | .ok l=>FC l
 | .error _=>none
def Ua{n:Nat}(h1:1<=n)(h:n<=1099511627776):pk (dZ n)=some (n:Int):=by
 unfold pk;rw[bFf (by omega)];show (if (1:Int)=1/\1<=(n:Int)/\(n:Int)<=1099511627776 then some (n:Int) else none)=_;rw[zzd ⟨rfl,by omega,by omega⟩]
def gN(q:Φ):Option (Int × List Φ × Nat):=match (jy q).1 with
 | []=>none
 | h::l=>(pk h).map λn=>(n,l,(jy q).2)
def o_(l:List dK)(i:Nat)(r:jA):Except Int (List dK):=
 if (ir i r).2.e=0 then (if 0<(ir i r).2.b.length then .error 3 else .ok (l++(ir i r).1)) else .error (ir i r).2.e
def bRv:∀(i:Nat) (r:jA),r.e≠0->ir i r=([],r)
 | 0,r,_=>rfl
 | i+1,r,h=>by rw[ir,zzb h]
def E5{l:List dK}{i:Nat}{r:jA}(h:r.e≠0):o_ l i r= .error r.e:=by
 unfold o_;rw[bRv i r h,zzb h]
def bFi(l:List dK)(b:Φ):o_ l 0 ⟨b,0⟩=if 0<b.length then .error 3 else .ok l:=by
 unfold o_ ir;rw[zzd rfl,zz2]
def SG(l:List dK)(i:Nat)(b:Φ):o_ l (i+1) ⟨b,0⟩=o_ (l++[(iO ⟨b,0⟩).1]) i (iO ⟨b,0⟩).2:=by
 unfold o_;have e:ir (i+1) ⟨b,0⟩=((iO ⟨b,0⟩).1::(ir i (iO ⟨b,0⟩).2).1,(ir i (iO ⟨b,0⟩).2).2):=by rw[ir,zzd rfl]
 rw[e];simp only[zzk,zzv,zzq]
def Wm{b:Φ}{n:Nat}(h:n<=b.length):gT n ⟨b,0⟩=(b.take n,⟨b.drop n,0⟩):=by
 unfold gT;rw[zzb (by simp),zzb (by show ¬b.length<n;omega)]
def Wn{b:Φ}{n:Nat}(h:b.length<n):gT n ⟨b,0⟩=([],⟨b,2⟩):=by
 unfold gT;rw[zzb (by simp),zzd (by show b.length<n;omega)]
def DW{b:Φ}{n:Nat}(h:n<=b.length):fV n ⟨b,0⟩=(ja (b.take n),⟨b.drop n,0⟩):=by unfold fV;rw[Wm h]
def Ww{b:Φ}{n:Nat}(h:b.length<n):fV n ⟨b,0⟩=(0,⟨b,2⟩):=by unfold fV;rw[Wn h];rfl
def bFe{b:Φ}(h:2<=b.length)(hn:ja (b.take 2)<=32767):jM b=o_ [] (ja (b.take 2)) ⟨b.drop 2,0⟩:=by
 have e:gS 32767 ⟨b,0⟩=(ja (b.take 2),⟨b.drop 2,0⟩):=by unfold gS;rw[DW h,zzb (by show ¬32767<ja (b.take 2);omega)]
 unfold jM o_;simp only[e,zzq];by_cases h1:(ir (ja (b.take 2)) ⟨b.drop 2,0⟩).2.e=0
 ·rw[zzd h1,zzd h1];by_cases h2:0<(ir (ja (b.take 2)) ⟨b.drop 2,0⟩).2.b.length
  ·rw[zzd h2,zzd h2,zzb (by decide)]
  rw[zzb h2,zzb h2,zzd rfl]
 rw[zzb h1,zzb h1,zzb h1]
def Wt(k:Κ)(b:Φ):fV 1 ⟨k::b,0⟩=(k.toNat,⟨b,0⟩):=by
 rw[DW (by simp)];have:=k.toNat_lt;simp only[xxz,uu3,uu0,List.drop_zero,ja,xxq,ttm];rw[show (0*256+k.toNat) % 18446744073709551616=k.toNat by omega]
def bFg{l:List dK}{i:Nat}{k:Κ}{b:Φ}(hk:k.toNat=1):o_ l (i+1) ⟨k::b,0⟩=if b.length<8 then .error 2 else o_ (l++[⟨1,sig (ja (b.take 8)),⟨#[]⟩⟩]) i ⟨b.drop 8,0⟩:=by
 rw[SG];unfold iO;rw[Wt,zzd hk];by_cases h:b.length<8
 ·simp only[Ww h];rw[zzd h,E5 (by simp)]
 simp only[DW (wwv.1 h)];rw[zzb h]
def bFh{l:List dK}{i:Nat}{k:Κ}{b:Φ}(hk:k.toNat=2):o_ l (i+1) ⟨k::b,0⟩=if b.length<2 then .error 2 else if 4096<ja (b.take 2) then .error 3 else if b.length-2<ja (b.take 2) then .error 2 else
  o_ (l++[⟨2,0,⟨((b.drop 2).take (ja (b.take 2))).toArray⟩⟩]) i ⟨(b.drop 2).drop (ja (b.take 2)),0⟩:=by
 rw[SG];unfold iO;rw[Wt,zzb (by omega),zzd hk];by_cases h:b.length<2
 ·have e:gS 4096 ⟨b,0⟩=(0,⟨b,2⟩):=by unfold gS;rw[Ww h,zzb (by simp)]
  have e2:gT 0 ⟨b,2⟩=([],⟨b,2⟩):=by unfold gT;rw[zzd (by simp)]
  simp only[e,e2];rw[zzd h,E5 (by simp)]
 rw[zzb h];by_cases h2:4096<ja (b.take 2)
 ·have e:gS 4096 ⟨b,0⟩=(0,⟨b.drop 2,3⟩):=by unfold gS;rw[DW (wwv.1 h),zzd h2]
  have e2:gT 0 ⟨b.drop 2,3⟩=([],⟨b.drop 2,3⟩):=by unfold gT;rw[zzd (by simp)]
  simp only[e,e2];rw[zzd h2,E5 (by simp)]
 have e:gS 4096 ⟨b,0⟩=(ja (b.take 2),⟨b.drop 2,0⟩):=by unfold gS;rw[DW (wwv.1 h),zzb h2]
 simp only[e];rw[zzb h2];by_cases h3:b.length-2<ja (b.take 2)
 ·rw[Wn (by rw[zzs];exact h3),zzd h3,E5 (by simp)]
 rw[Wm (by rw[zzs];omega),zzb h3]
structure Rq where
 id:Int
 table:Int
 weight:Int
 at_:Int
 dG:Int
 chunks:Int
 done:Bool
deriving DecidableEq
def gF(r:Rq):Ξ:=[Γ r.id,Γ r.table,Γ r.weight,Γ r.at_,Γ r.dG,Γ r.chunks,.bool r.done]
def nj(r:Rq):(gF r).length=7:=rfl
def E_(r:Rq):∀v∈gF r,v.oneCell'=true:=by simp[gF,Value.oneCell']
abbrev iZ(H:bw)(v:Ε)(L:List Rq):Prop:=de H 7 v L.length (L.map gF).flatten
def R9(late t:Int):Int:=IntKind.i64.wrap ((BitVec.ofInt IntKind.i64.bits (late.fdiv (2 ^ (min t.toNat IntKind.i64.bits))) &&& BitVec.ofInt IntKind.i64.bits 1).toNat)
def cGd{k:IntKind}{a b:Int}{K:Ε->Prop}(hb:0<=b)(h:K (Γ (R9 a b))):zc .shr (Γ a) (.int k b) λv=>zc .and v (Γ 1) K:=by
 refine⟨Γ (a.fdiv (2 ^ (min b.toNat IntKind.i64.bits))),?_,⟨_,?_,h⟩⟩
 ·simp only[jJ];rw[zzb (by omega)]
 simp only[jJ,wwm];rfl
structure iC where
 kind:Int
 id:Int
 table:Int
 weight:Int
 at_:Int
 dG:Int
 done:Bool
deriving DecidableEq
structure cJ where
 aw:Int
 ops:List gx
 notes:List iC
def kT(n:iC):Ξ:=[Γ n.kind,Γ n.id,Γ n.table,Γ n.weight,Γ n.at_,Γ n.dG,.bool n.done]
def xd(n:iC):(kT n).length=7:=rfl
def emp:Η:=⟨#[]⟩
def kY(o:gx)(aw:Int):Bool:=decide (1<=o.aw/\o.aw<=aw/\0<=o.table/\o.table<8/\1<=o.key/\o.key<=1099511627776/\o.val.size<=32/\(o.gone=true->o.val=emp))
def jx(n:iC)(aw:Int):Bool:=decide (1<=n.id/\n.id<=64 /\
 ((n.kind=1/\0<=n.table/\n.table<8/\1<=n.weight/\n.weight<=8/\1<=n.at_/\n.at_<=aw/\n.dG=0/\n.done=false)\/(n.kind=2/\n.table=0/\n.weight=0/\n.at_=0/\0<=n.dG/\n.dG<=1099511627776)))
def eH(x:cJ):Bool:=decide (1<=x.aw/\x.aw<=1099511627776/\x.ops.length<=4096/\x.notes.length<=256) && x.ops.all (λo=>kY o x.aw) && x.notes.all (λn=>jx n x.aw)
def iF(n:Int):dK:=⟨1,n,emp⟩
def tF(s:Η):dK:=⟨2,0,s⟩
def hU(b:Bool):Int:=if b=true then 1 else 0
def pW(o:gx):List dK:=[iF o.aw,iF o.table,iF o.key,iF (hU o.gone),tF o.val]
def pV(n:iC):List dK:=[iF n.kind,iF n.id,iF n.table,iF n.weight,iF n.at_,iF n.dG,iF (hU n.done)]
def lh(x:cJ):List dK:=[iF x.aw,iF x.ops.length]++(x.ops.map pW).flatten++([iF x.notes.length]++(x.notes.map pV).flatten)
def uw(x:cJ):Except Int Φ:=if eH x=true then oG (lh x) else .error 1
structure dh where
 l:List dK
 bad:Bool
def rh(k:Int)(r:dh):dK × dh:=match r.bad,r.l with
 | false,f::l=>if f.kind=k then (f,⟨l,false⟩) else (xg,⟨f::l,true⟩)
 | _,l=>(xg,⟨l,true⟩)
def fE(r:dh):Int × dh:=((rh 1 r).1.n,(rh 1 r).2)
def pC(r:dh):Η × dh:=((rh 2 r).1.s,(rh 2 r).2)
def dI(m:Int)(r:dh):Int × dh:=if (fE r).1<0\/m<(fE r).1 then (0,{(fE r).2 with bad:=true}) else fE r
def ta(r:dh):Bool × dh:=(decide ((dI 1 r).1=1),(dI 1 r).2)
def om(r:dh):gx × dh:=
 let a:=fE r;let b:=dI 8 a.2;let c:=fE b.2;let d:=ta c.2;let e:=pC d.2
 (⟨a.1,b.1,c.1,d.1,e.1⟩,e.2)
def pz(r:dh):iC × dh:=
 let a:=dI 2 r;let b:=dI 64 a.2;let c:=dI 8 b.2;let d:=dI 8 c.2;let e:=fE d.2;let f:=fE e.2;let g:=ta f.2
 (⟨a.1,b.1,c.1,d.1,e.1,f.1,g.1⟩,g.2)
def jd{α:Type}(one:dh->α × dh):Nat->dh->List α × dh
 | 0,r=>([],r)
 | i+1,r=>if r.bad=true then ([],r) else ((one r).1::(jd one i (one r).2).1,(jd one i (one r).2).2)
def oa(r:dh):cJ × dh:=
 let a:=fE r;let n:=dI 4096 a.2;let os:=jd om n.1.toNat n.2;let m:=dI 256 os.2;let ns:=jd pz m.1.toNat m.2
 (⟨a.1,os.1,ns.1⟩,ns.2)
def AQ(l:List dK):Option cJ:=
 let x:=oa ⟨l,false⟩
 if x.2.bad=false/\x.2.l=[]/\eH x.1=true then some x.1 else none
def nV(b:Φ):Except Int cJ:=match jM b with
 | .error e=>.error e
 | .ok l=>match AQ l with
  | some x=>.ok x
  | none=>.error 3
def wm(i:Nat)(r:Rq):Prop:=r.id=(i:Int)+1/\0<=r.table/\r.table<8/\1<=r.weight/\r.weight<=8/\1<=r.at_/\r.at_<=1099511627776/\0<=r.dG/\r.dG<=1099511627776/\0<=r.chunks/\r.chunks<=1099511627776
def En(L:List Rq)(i:Nat):Prop:=∀h:i<L.length,wm i L[i]/\(∀h0:0<i,L[i-1].at_<=L[i].at_)/\∀k (hk:k<i),¬(L[k].table=L[i].table/\L[k].done=false)
def gm(L:List Rq):Prop:=L.length<=64/\∀i,En L i
instance (i:Nat) (r:Rq):Decidable (wm i r):=by unfold wm;infer_instance
def gm.fin{L:List Rq}:gm L↔L.length<=64/\∀i:Fin L.length,wm i.1 L[i.1]/\(0<i.1->(L[i.1-1]'(by omega)).at_<=L[i.1].at_)/\∀k:Fin i.1,¬((L[k.1]'(by omega)).table=L[i.1].table/\(L[k.1]'(by omega)).done=false):=
 ⟨λh=>⟨h.1,λi=>⟨(h.2 i.1 i.2).1,(h.2 i.1 i.2).2.1,λk=>(h.2 i.1 i.2).2.2 k.1 k.2⟩⟩,
  λh=>⟨h.1,λi hi=>⟨(h.2 ⟨i,hi⟩).1,(h.2 ⟨i,hi⟩).2.1,λk hk=>(h.2 ⟨i,hi⟩).2.2 ⟨k,hk⟩⟩⟩⟩
instance (L:List Rq):Decidable (gm L):=decidable_of_iff _ gm.fin.symm
def cF9(L:List Rq):∀v∈(L.map gF).flatten,v.oneCell'=true:=sW E_ L
def Ag(L:List Rq)(t w a:Int):Rq:=⟨((L.length+1:Nat):Int),t,w,a,0,0,false⟩
def pL(L:List Rq)(t w a:Int):Option (List Rq):=if gm L/\gm (L++[Ag L t w a]) then some (L++[Ag L t w a]) else none
def mi(L:List Rq)(id c:Int)(dn:Bool):Option (List Rq):=
 if gm L/\1<=id/\id<=L.length then match L[(id-1).toNat]? with
  | some r=>if r.done=true\/c<r.dG\/1099511627776<c\/1099511627776<=r.chunks then none else some (L.set (id-1).toNat {r with dG:=c,chunks:=r.chunks+1,done:=dn})
  | none=>none
 else none
def a_2{L:List Rq}(hM:gm L){j:Nat}(hj:j<L.length)(c:Int)(dn:Bool):mi L ((j+1:Nat):Int) c dn =
  if L[j].done=true\/c<L[j].dG\/1099511627776<c\/1099511627776<=L[j].chunks then none else some (L.set j {L[j] with dG:=c,chunks:=L[j].chunks+1,done:=dn}):=by
 unfold mi;have e:(((j+1:Nat):Int)-1).toNat=j:=by omega
 rw[zzd ⟨hM,by omega,by omega⟩,e,zzc hj]
def a_4{L:List Rq}{id c:Int}{dn:Bool}(h:¬(gm L/\1<=id/\id<=L.length)):mi L id c dn=none:=zzb h
def Cu{L L':List Rq}{t w a:Int}(h:pL L t w a=some L'):gm L':=by
 unfold pL at h;split at h
 ·rename_i hm;cases h;exact hm.2
 cases h
def EU{L L':List Rq}{id c:Int}{dn:Bool}(h:mi L id c dn=some L'):gm L':=by
 unfold mi at h;split at h
 ·rename_i hm;obtain⟨hM,h1,h2⟩:=hm;split at h
  ·rename_i r hr;split at h
   ·cases h
   rename_i hc;cases h;generalize (id-1).toNat=j at *
   obtain⟨hj,hr⟩:=zzf.1 hr;refine⟨by rw[yyh];exact hM.1,λi hi=>?_⟩;rw[yyh]at hi
   have iu:∀k (hk:k<L.length),((L.set j {r with dG:=c,chunks:=r.chunks+1,done:=dn})[k]'(by rw[yyh];exact hk)).at_=L[k].at_/\((L.set j {r with dG:=c,chunks:=r.chunks+1,done:=dn})[k]'(by rw[yyh];exact hk)).table=L[k].table:=λk hk=>by
    rw[xxr];split
    ·rename_i e;subst e;rw[hr];exact⟨rfl,rfl⟩
    exact⟨rfl,rfl⟩
   obtain⟨k1,k2,k3⟩:=hM.2 i hi;refine⟨?_,λh0=>?_,λk hk=>?_⟩
   ·rw[xxr];split
    ·rename_i e;subst e;rw[hr]at k1
     unfold wm at k1 ⊢;simp only;omega
    exact k1
   ·rw[(iu (i-1) (by omega)).1,(iu i hi).1];exact k2 h0
   rw[(iu k (by omega)).2,(iu i hi).2];rintro ⟨e1,e2⟩;rw[xxr]at e2
   split at e2
   ·rename_i e;subst e;refine k3 j hk ⟨e1,?_⟩;rw[hr];cases hd:r.done with
    | false=>rfl
    | true=>exact absurd (.inl hd) hc
   exact k3 k hk ⟨e1,e2⟩
  cases h
 cases h
structure dt where
 file:Int
 first:Int
 size:Nat
 l:List Φ
structure wK where
 file:Int
 oJ:Int
 fresh:Bool
structure da where
 bI:List dt
 base:Int
 size:Int
 dE:Option wK
def dt.next(s:dt):Int:=s.first+s.l.length
def cO(L:List dt):Int:=match L.getLast? with
 | none=>0
 | some s=>s.next-1
def fk(L:List dt):Int:=match L with
 | []=>1
 | s::_=>s.first
def mZ:List dt->Int->Option Φ
 | [],_=>none
 | s::r,n=>if s.first<=n/\n<s.next then s.l[(n-s.first).toNat]? else mZ r n
structure il where
 file:Int
 fresh:Bool
 b:Φ
def mO(g:da)(f:Int)(p:Φ):Except Int il:=
 if g.base+4096<=f then .error 7 else .ok ⟨f,true,dm (dZ (cO g.bI+1).toNat)++dm p⟩
def eW(g:da)(off:Bool)(p:Φ):Except Int il:=
 if 1048576<p.length then .error 1
 else if off=true then .error 8
 else if 1099511627776<=cO g.bI then .error 7
 else match g.bI.getLast? with
  | none=>mO g g.base p
  | some s=>if s.l.length=0\/(s.size:Int)+(dm p).length<=g.size then .ok ⟨s.file,false,dm p⟩ else mO g (s.file+1) p
def dy(g:da)(d:DS):(da × DS) × Int:=match g.dE with
 | none=>((g,d),0)
 | some x=>(({g with dE:=if (if x.fresh=true then d.remove x.file else d.cut x.file x.oJ).2=0 then none else some x},(if x.fresh=true then d.remove x.file else d.cut x.file x.oJ).1),(if x.fresh=true then d.remove x.file else d.cut x.file x.oJ).2)
def jQ(L:List dt)(x:il)(p:Φ):List dt:=
 let L:=if x.fresh=true then L++[⟨x.file,cO L+1,0,[]⟩] else L
 L.dropLast++L.getLast?.toList.map λs=>{s with size:=s.size+x.b.length,l:=s.l++[p]}
def fy(g:da)(d:DS)(p:Φ):(da × DS) × (Int × Int):=match eW g d.off p with
 | .error e=>((g,d),(0,e))
 | .ok x=>
  let m:=dy g d
  if m.2≠0 then (m.1,(0,m.2)) else
  let a:=m.1.2.append x.file x.b
  if a.2≠0 then ((m.1.1,a.1),(0,a.2)) else
  let s:=a.1.sync x.file
  if s.2≠0 then ((m.1.1,s.1),(0,s.2)) else
  (({m.1.1 with bI:=jQ m.1.1.bI x p},s.1),(cO (jQ m.1.1.bI x p),0))
def lT(L:List dt):Int:=match L.getLast? with
 | none=>0
 | some s=>s.size
def gw(g:da)(d:DS)(p:Φ)(k:Int):(da × DS) × Int:=
 if k<0 then ((g,d),1) else match eW g d.off p with
 | .error e=>((g,d),e)
 | .ok x=>
  let m:=dy g d
  if m.2≠0 then (m.1,m.2) else
  let a:=m.1.2.append x.file (x.b.take (k.toNat % x.b.length))
  if a.2≠0 then ((m.1.1,a.1),a.2) else
  (({m.1.1 with dE:=some ⟨x.file,if x.fresh=true then 0 else lT m.1.1.bI,x.fresh⟩},a.1),0)
def iH:List dt->DS->Int->(List dt × DS) × Int
 | s::t::r,d,n=>if s.next-1<=n then (if (d.remove s.file).2≠0 then ((s::t::r,(d.remove s.file).1),(d.remove s.file).2) else iH (t::r) (d.remove s.file).1 n) else ((s::t::r,d),0)
 | L,d,_=>((L,d),0)
def iG(g:da)(d:DS)(n:Int):(da × DS) × Int:=
 if d.off=true then ((g,d),8) else (({g with bI:=(iH g.bI d n).1.1},(iH g.bI d n).1.2),(iH g.bI d n).2)
def fS(base:Int)(R:List PF):Ω:=(R.map PF.id).filter λf=>decide (base<=f/\f<base+4096)
def jl(L:List dt)(R:List PF)(f:Int)(last:Bool):(Bool × Bool) × List dt:=
 let b:=((dS PF.id R f).map PF.b).getD []
 match gN b with
 | none=>((false,last),L)
 | some (first,l,n)=>
  if (last=false/\(n≠b.length\/l.length=0))\/(0<L.length/\first≠cO L+1)\/1099511627776<first+l.length-1 then ((true,false),L)
  else ((true,true),L++[⟨f,first,n,l⟩])
def lU(R:List PF):Ω->Option Int->List dt->Bool->Option (List dt × Bool)
 | [],_,L,whole=>some (L,whole)
 | f::r,prev,L,whole=>
  let x:=jl L R f r.isEmpty
  if x.1.2=false then none else if (match prev with|none=>false|some g=>decide (f≠g+1))=true then none else lU R r (some f) x.2 x.1.1
def jC(L:List dt)(d:DS)(ids:Ω)(whole:Bool):DS × Int:=match ids.getLast? with
 | none=>(d,0)
 | some f=>if whole=false then d.remove f else if lT L<gH d.R f then d.cut f (lT L) else (d,0)
def ff(d:DS)(base size:Int):DS × Except Int da:=
 if base<0\/12288<base\/size<64\/65536<size then (d,.error 1)
 else if d.off=true then (d,.error 8)
 else match lU d.R (fS base d.R) none [] true with
  | none=>(d,.error 3)
  | some (L,whole)=>if (jC L d (fS base d.R) whole).2≠0 then ((jC L d (fS base d.R) whole).1,.error (jC L d (fS base d.R) whole).2) else ((jC L d (fS base d.R) whole).1,.ok ⟨L,base,size,none⟩)
structure k_(s:dt)(N:Nat):Prop where
 f0:0<=s.file
 f1:s.file<=100000
 n0:1<=s.first
 n1:s.first<=1099511627776
 sz:s.size<=N
 ln:s.l.length<=N
 bl:∀b∈s.l,b.length<=1048576
structure da.Ok(g:da)(N:Nat):Prop where
 bI:∀s∈g.bI,k_ s N
 b0:0<=g.base
 b1:g.base<=12288
 s0:64<=g.size
 s1:g.size<=65536
 ln:g.bI.length<=N
def sH{L:List dt}{N:Nat}(h:∀s∈L,k_ s N):0<=cO L/\cO L<=1099511627776+N:=by
 unfold cO;split
 ·omega
 rename_i s hs;have:=h s (xx3 hs);have h1:=this.n0;have h2:=this.n1;have h3:=this.ln;simp only[dt.next];omega
section
variable {A:List PF} {x:PF}
def Ss(hs:fN PF.id (A++[x])):fz PF.id (A++[x]) x.id=A.length:=CE hs (j:=A.length) (by simp) (by simp)
def DH(hs:fN PF.id (A++[x])):iE PF.id (A++[x]) x.id=true:=(x' hs).2 ⟨x,by simp,rfl⟩
def CZ(hs:fN PF.id (A++[x])):dS PF.id (A++[x]) x.id=some x:=tw hs (by simp)
def W_(hs:fN PF.id (A++[x])){y:PF}(hy:y.id=x.id):gb PF.id (A++[x]) y=A++[y]:=by
 have h1:iE PF.id (A++[x]) y.id=true:=by rw[hy];exact DH hs
 rw[GA h1,hy,Ss hs];simp
def Li(hs:fN PF.id (A++[x]))(g:PF->PF):ku (A++[x]) x.id g=A++[{g x with id:=x.id}]:=by
 unfold ku;rw[CZ hs];exact W_ hs rfl
def SR(hs:fN PF.id (A++[x])):jN PF.id (A++[x]) x.id=A:=by
 rw[jN,zzd (DH hs),Ss hs];simp[List.eraseIdx_append_of_length_le]
def bFv(hs:fN PF.id (x::A)):jN PF.id (x::A) x.id=A:=by
 have h1:iE PF.id (x::A) x.id=true:=(x' hs).2 ⟨x,by simp,rfl⟩;have h2:fz PF.id (x::A) x.id=0:=CE hs (j:=0) (by simp) rfl;rw[jN,zzd h1,h2];rfl
def aR6(hs:fN PF.id (A++[x]))(b:Φ):kP (A++[x]) x.id b=A++[⟨x.id,x.safe,x.b++b⟩]:=by
 unfold kP;rw[CZ hs];exact W_ hs rfl
def aR7(hs:fN PF.id A){f:Int}(h:∀y∈A,y.id<f)(b:Φ):kP A f b=A++[⟨f,0,b⟩]:=by
 have h1:dS PF.id A f=none:=(IH hs).2 λy hy=>by have:=h y hy;omega
 have h2:iE PF.id A f=false:=by
  cases e:iE PF.id A f with
  | false=>rfl
  | true=>obtain⟨y,hy,e⟩:=(x' hs).1 e;have:=h y hy;omega
 have h3:fz PF.id A f=A.length:=by
  unfold fz;rw[yy4.2 λy hy=>by simpa using h y hy]
 unfold kP;rw[h1];unfold gb;simp only[h2,h3];simp[Af]
end
def pF(f:Int)(R:List PF):Prop:=∀i (h:i<R.length),R[i].id=f+i
def pF.sorted{f:Int}{R:List PF}(h:pF f R):fN PF.id R:=by
 unfold fN;rw[xxt];intro i j hi hj sJ;rw[h i hi,h j hj];omega
def pF.mem{f:Int}{R:List PF}(h:pF f R){x:PF}(hx:x∈R):f<=x.id/\x.id<f+R.length:=by
 obtain⟨i,hi,rfl⟩:=xxa.1 hx;rw[h i hi];omega
def pF.snoc{f:Int}{R:List PF}(h:pF f R){x:PF}(hx:x.id=f+R.length):pF f (R++[x]):=by
 intro i hi;by_cases hl:i<R.length
 ·rw[ww0 hl];exact h i hl
 have:i=R.length:=by simp at hi;omega
 subst this;simp[hx]
def ic(s:dt):Φ:=eC (dZ s.first.toNat::s.l)
def eI(s:dt):PF:=⟨s.file,(ic s).length,ic s⟩
def gP:Int->Int->List dt->Prop
 | _,_,[]=>True
 | f,n,s::r=>s.file=f/\s.first=n/\s.size=(ic s).length/\(∀p∈s.l,p.length<=1048576)/\(r≠[]->s.l≠[])/\gP (f+1) (n+s.l.length) r
def cX(L:List dt):List Φ:=(L.map dt.l).flatten
def pR(s:dt)(L:List dt):cX (s::L)=s.l++cX L:=by simp[cX]
def xf(A B:List dt):cX (A++B)=cX A++cX B:=by simp[cX]
def gP.app:∀{f n:Int} {A B:List dt},gP f n (A++B)↔gP f n A/\(B≠[]->∀s∈A,s.l≠[])/\gP (f+A.length) (n+(cX A).length) B
 | f,n,[],B=>by simp[gP,cX]
 | f,n,s::A,B=>by
  have ih:=gP.app (f:=f+1) (n:=n+s.l.length) (A:=A) (B:=B);have e1:f+1+(A.length:Int)=f+((s::A).length:Int):=by simp;omega
  have e2:n+(s.l.length:Int)+((cX A).length:Int)=n+((cX (s::A)).length:Int):=by rw[pR,zza];omega
  rw[e1,e2]at ih
  rw[zzv];simp only[gP,ih];constructor
  ·rintro ⟨h1,h2,h3,h4,h5,h6,h7,h8⟩;refine⟨⟨h1,h2,h3,h4,λhA=>h5 (by simp[hA]),h6⟩,λhB t ht=>?_,h8⟩;rcases zz1.1 ht with rfl|ht
   ·exact h5 (by simp[hB])
   exact h7 hB t ht
  rintro ⟨⟨h1,h2,h3,h4,h5,h6⟩,h7,h8⟩;refine⟨h1,h2,h3,h4,λh=>?_,h6,λhB t ht=>h7 hB t (.tail _ ht),h8⟩;by_cases hA:A=[]
  ·subst hA;exact h7 (by simpa using h) s (.head _)
  exact h5 hA
def gP.te:∀{f n:Int} {L:List dt},gP f n L->pF f (L.map eI)
 | f,n,[],_=>λi h=>by simp at h
 | f,n,s::L,h=>by
  obtain⟨h1,_,_,_,_,h6⟩:=h;have ih:=h6.te;intro i hi;cases i with
  | zero=>simpa [eI] using h1
  | succ i=>
   have:=ih i (by simpa using hi);simp only[zzr,vvs];rw[this];push_cast;omega
def gP.head{f n:Int}{L:List dt}(h:gP f n L)(hL:L≠[]):cO L=n+(cX L).length-1:=by
 obtain⟨A,s,rfl⟩:∃A s,L=A++[s]:=⟨L.dropLast,L.getLast hL,(List.dropLast_concat_getLast hL).symm⟩;obtain⟨_,_,h3⟩:=gP.app.1 h;obtain⟨_,h4,_⟩:=h3;unfold cO;rw[xxb,xf];simp only[dt.next,h4,zza];simp[cX];omega
def gP.low{f n:Int}{L:List dt}(h:gP f n L)(hL:L≠[]):fk L=n:=by
 cases L with
 | nil=>exact absurd rfl hL
 | cons s L=>exact h.2.1
def gP.read:∀{f n:Int} {L:List dt},gP f n L->∀i,mZ L i=if n<=i then (cX L)[(i-n).toNat]? else none
 | f,n,[],_,i=>by simp[mZ,cX]
 | f,n,s::L,h,i=>by
  obtain⟨_,h2,_,_,_,h6⟩:=h;have ih:=h6.read i;subst h2;rw[mZ,ih,pR];have px:s.next=s.first+s.l.length:=rfl;by_cases h1:s.first<=i
  ·rw[zzd (c:=s.first<=i) h1];by_cases h3:i<s.next
   ·rw[zzd (c:=s.first<=i/\i<s.next) ⟨h1,h3⟩,zzm (by omega)]
   rw[zzb (c:=s.first<=i/\i<s.next) (by omega),zzd (by omega),yyb (by omega)];congr 1;omega
  rw[zzb (c:=s.first<=i/\i<s.next) (by omega),zzb (by omega),zzb h1]
def gP.bl:∀{f n:Int} {L:List dt},gP f n L->∀s∈L,s.size=(ic s).length/\∀p∈s.l,p.length<=1048576
 | f,n,[],_,s,hs=>by cases hs
 | f,n,t::L,h,s,hs=>by
  obtain⟨_,_,h3,h4,_,h6⟩:=h;rcases zz1.1 hs with rfl|hs
  ·exact⟨h3,h4⟩
  exact h6.bl s hs
def T_(n:Nat):(dZ n).length<=1048576:=by rw[A_];omega
def XL:∀(ps:List Φ) (k:Nat),(∀p∈ps,p.length<=1048576)->∃j,j<=ps.length/\(∀i,i<=ps.length->((eC (ps.take i)).length<=k↔i<=j))/\jy ((eC ps).take k)=(ps.take j,(eC (ps.take j)).length)
 | [],k,_=>⟨0,zzi _,λi hi=>by simp at hi;subst hi;simp[eC],by
   rw[show (eC []).take k=[] by simp[eC],D8 aii];rfl⟩
 | p::ps,k,hp=>by
  have vX:=hp p (.head _);by_cases hk:k<(dm p).length
  ·refine⟨0,zz4 _,λi hi=>?_,?_⟩
   ·cases i with
    | zero=>simp[eC]
    | succ i=>
     rw[xxz,nF,zza];constructor<;>intro h<;>omega
   obtain⟨e,he,_⟩:=aif vX (k:=k) (by rw[<- kJ];exact hk);rw[nF,xxg (by omega),D8 he];rfl
  obtain⟨j,h1,h2,h5⟩:=XL ps (k-(dm p).length) (λq hq=>hp q (.tail _ hq));refine⟨j+1,by simpa using h1,λi hi=>?_,?_⟩
  ·cases i with
   | zero=>simp[eC]
   | succ i=>
    have:=h2 i (by simpa using hi);rw[xxz,nF,zza];constructor<;>intro h<;>omega
  have e:(eC (p::ps)).take k=dm p++(eC ps).take (k-(dm p).length):=by
   rw[nF,List.take_append,zz7 (by omega)]
  rw[e,GP (Lg vX),<- kJ,ww2,h5,xxz,nF,zza]
def cFt{n:Nat}{l:List Φ}(h1:1<=n)(h2:n<=1099511627776)(hl:∀p∈l,p.length<=1048576):gN (eC (dZ n::l))=some ((n:Int),l,(eC (dZ n::l)).length):=by
 have:=cHq (dZ n::l) [] (λp hp=>by rcases zz1.1 hp with rfl|hp;exact T_ n;exact hl p hp) ⟨2,aii⟩;rw[zz2]at this
 unfold gN;rw[this];simp only[Ua h1 h2,yyi]
def cFr{n:Nat}{l:List Φ}(k:Nat)(h1:1<=n)(h2:n<=1099511627776)(hl:∀p∈l,p.length<=1048576):
  (gN ((eC (dZ n::l)).take k)=none/\k<(eC [dZ n]).length)\/∃j,j<=l.length/\(∀i,i<=l.length->((eC (dZ n::l.take i)).length<=k↔i<=j))/\gN ((eC (dZ n::l)).take k)=some ((n:Int),l.take j,(eC (dZ n::l.take j)).length):=by
 obtain⟨j,h3,h4,h5⟩:=XL (dZ n::l) k (λp hp=>by rcases zz1.1 hp with rfl|hp;exact T_ n;exact hl p hp);cases j with
 | zero=>
  left;unfold gN;rw[h5];refine⟨rfl,?_⟩;have:=h4 1 (by simp);rw[xxz,uu3]at this
  omega
 | succ j=>
  right;refine⟨j,by simpa using h3,λi hi=>?_,?_⟩
  ·have:=h4 (i+1) (by simpa using hi);rw[xxz]at this
   omega
  unfold gN;rw[h5,xxz];simp only[Ua h1 h2,yyi]
def cAh{R:List PF}{L0:List dt}{f n:Int}{s:dt}{last:Bool}{x:PF}(hx:dS PF.id R f=some x)(hb:x.b=ic s)(h1:s.file=f)(h2:s.first=n)(h3:s.size=(ic s).length)(h4:∀p∈s.l,p.length<=1048576)
  (n1:1<=n) (n2:n+s.l.length<=1099511627776) (hl:last=false->s.l≠[]) (h0:L0=[]\/cO L0+1=n):jl L0 R f last=((true,true),L0++[s]):=by
 unfold jl;rw[hx];simp only[yyi,xxj,hb];have hr:gN (ic s)=some (s.first,s.l,(ic s).length):=by
  have:=cFt (n:=s.first.toNat) (l:=s.l) (by omega) (by omega) h4;unfold ic;rw[this];congr 2;omega
 rw[hr];have hs:(⟨f,s.first,(ic s).length,s.l⟩:dt)=s:=by
  obtain⟨a,b,c,d⟩:=s;simp only at h1 h3;simp[<- h1,<- h3]
 simp only;rw[zzb,hs];rintro (⟨e1,e2⟩|⟨e1,e2⟩|e)
 ·rcases e2 with e2|e2
  ·exact e2 rfl
  exact hl e1 (zzl e2)
 ·rcases h0 with rfl|h0
  ·simp at e1
  omega
 omega
def vG(prev:Option Int)(f:Int):Bool:=match prev with
 | none=>false
 | some g=>decide (f≠g+1)
def BC(R:List PF)(f:Int)(r:Ω)(prev:Option Int)(L:List dt)(wh:Bool):lU R (f::r) prev L wh =
  if (jl L R f r.isEmpty).1.2=false then none else if vG prev f=true then none else lU R r (some f) (jl L R f r.isEmpty).2 (jl L R f r.isEmpty).1.1:=rfl
def J_(R:List PF):∀(r:List dt) (f n:Int) (L0:List dt) (prev:Option Int) (ids:Ω) (wh:Bool),gP f n r->(∀s∈r,∃x,dS PF.id R s.file=some x/\x.b=ic s)->(L0=[]\/cO L0+1=n)->(prev=none\/prev=some (f-1))->1<=n->n+(cX r).length<=1099511627776->(ids≠[]->∀s∈r,s.l≠[]) ->
  lU R (r.map dt.file++ids) prev L0 wh=lU R ids (if r=[] then prev else some (f+r.length-1)) (L0++r) (if r=[] then wh else true)
 | [],f,n,L0,prev,ids,wh,_,_,_,_,_,_,_=>by simp
 | s::r,f,n,L0,prev,ids,wh,hc,hg,h0,hp,n1,n2,hi=>by
  obtain⟨h1,h2,h3,h4,h5,h6⟩:=hc;obtain⟨x,hx,hb⟩:=hg s (.head _);rw[pR,zza]at n2
  have lr:jl L0 R s.file (r.map dt.file++ids).isEmpty=((true,true),L0++[s]):=by
   refine cAh hx hb rfl h2 h3 h4 n1 (by omega) (λhl=>?_) h0;by_cases hr:r=[]
   ·subst hr;refine hi (λe=>?_) s (.head _);subst e;simp at hl
   exact h5 hr
  rw[zzr,zzv,BC];simp only[lr];rw[zzb (by simp),zzb ?_]
  ·rw[J_ R r (f+1) (n+s.l.length) (L0++[s]) (some s.file) ids true h6 (λt ht=>hg t (.tail _ ht)) (.inr ?_) (.inr (by rw[h1];congr 1;omega)) (by omega) (by omega) (λhd t ht=>hi hd t (.tail _ ht))]
   ·rw[zzb (by simp:¬(s::r=[])),zzb (by simp:¬(s::r=[])),zzk];by_cases hr:r=[]
    ·subst hr;simp[h1]
    rw[zzb hr,zzb hr];congr 2;simp;omega
   unfold cO;rw[xxb];simp only[dt.next];omega
  rcases hp with rfl|rfl
  ·simp[vG]
  simp[vG,h1]
def Vg{R:List PF}{f base:Int}(h:pF f R)(h1:base<=f)(h2:f+R.length<=base+4096):fS base R=R.map PF.id:=by
 unfold fS;rw[yy4];intro a ha;obtain⟨x,hx,rfl⟩:=zzx.1 ha;have:=h.mem hx;simp only[zzw];omega
def Tz{f n:Int}{L:List dt}{R:List PF}(hR:pF f R)(hs:∀s∈L,eI s∈R):∀s∈L,∃x,dS PF.id R s.file=some x/\x.b=ic s:=λs h=>⟨eI s,tw hR.sorted (hs s h),rfl⟩
def V3(L:List dt):(L.map eI).map PF.id=L.map dt.file:=by rw[xxk];rfl
def Kw{d:DS}{L:List dt}{f n base size:Int}(hc:gP f n L)(hR:d.R=L.map eI)(jc:d.off=false)(b0:0<=base)(b1:base<=12288)(s0:64<=size)(s1:size<=65536)(hf:base<=f)(xE:f+L.length<=base+4096)
  (n1:1<=n) (n2:n+(cX L).length<=1099511627776):ff d base size=(d,.ok ⟨L,base,size,none⟩):=by
 have nX:=hc.te;have vQ:fS base d.R=L.map dt.file:=by
  rw[hR,Vg nX hf (by rw[zzn];exact xE),V3]
 have hl:=J_ d.R L f n [] none [] true hc (Tz (f:=f) (n:=n) (by rw[hR];exact nX) (λs hs=>by rw[hR];exact zzx.2 ⟨s,hs,rfl⟩)) (.inl rfl) (.inl rfl) n1 n2 (λh=>absurd rfl h);rw[zz2]at hl
 unfold ff;rw[zzb (by omega),zzb (by simp[jc]),vQ,hl];simp only[lU,zzq];have hb:jC L d (L.map dt.file) (if L=[] then true else true)=(d,0):=by
  unfold jC;rcases List.eq_nil_or_concat L with rfl|⟨A,s,rfl⟩
  ·rfl
  simp only[List.concat_eq_append,zzt,zzr,yy8,xxb];rw[zzb (by simp),zzb];have f_:=(hc.bl s (by simp)).1;have:dS PF.id d.R s.file=some (eI s):=by
   rw[hR];exact tw (x:=eI s) nX.sorted (by simp)
  unfold gH lT;rw[this,xxb];simp only[eI,f_];omega
 rw[hb];simp
def cDi{d:DS}{A:List dt}{l:List Φ}{f n base size:Int}{k:Nat}{x:PF}(hc:gP f n A)(hA:∀s∈A,s.l≠[])(hl:∀p∈l,p.length<=1048576)(hR:d.R=A.map eI++[x])(hid:x.id=f+A.length)(uW:x.safe=x.b.length)
  (hb:x.b=(eC (dZ (n+(cX A).length).toNat::l)).take k) (jc:d.off=false) (sE:d.arm=0) (b0:0<=base) (b1:base<=12288) (s0:64<=size) (s1:size<=65536) (hf:base<=f) (xE:f+A.length+1<=base+4096)
  (n1:1<=n) (n2:n+(cX A).length+l.length<=1099511627776) :
  ∃L j d',j<=l.length/\(∀i,i<=l.length->(eC (dZ (n+(cX A).length).toNat::l.take i)).length<=k->i<=j)/\(∀i,i<=l.length->k<(eC (dZ (n+(cX A).length).toNat::l.take i)).length->j<i\/j=0) /\
   ff d base size=(d',.ok ⟨L,base,size,none⟩)/\gP f n L/\cX L=cX A++l.take j/\d'.R=L.map eI/\d'.off=false/\d'.arm=0/\d'.ops<=d.ops+1/\L.length<=A.length+1/\A.length<=L.length/\(A=[]->j=0->L=[]\/(L.length=1/\(eC [dZ (n+(cX A).length).toNat]).length<=k))/\((eC [dZ (n+(cX A).length).toNat]).length<=k->L≠[]):=by
 have nX:pF f d.R:=by rw[hR];exact hc.te.snoc (by simpa using hid)
 have sN:=nX.sorted;have vQ:fS base d.R=A.map dt.file++[x.id]:=by
  rw[Vg nX hf (by rw[hR];simp;omega),hR,zzt,V3];rfl
 have lr:=J_ d.R A f n [] none [x.id] true hc (Tz (f:=f) (n:=n) nX (λs hs=>by rw[hR];exact yyo _ (zzx.2 ⟨s,hs,rfl⟩))) (.inl rfl) (.inl rfl) n1 (by omega) (λ_=>hA);have Bd:dS PF.id d.R x.id=some x:=by
  have:=sN;rw[hR]at this ⊢;exact CZ this
 have UO:∀b:Bool,vG (if A=[] then (none:Option Int) else some (f+A.length-1)) x.id=false:=by
  intro _;unfold vG;split
  ·rfl
  rename_i g hg;split at hg
  ·cases hg
  cases hg;simp;omega
 have b_9:jN PF.id d.R x.id=A.map eI:=by
  have:=sN;rw[hR]at this ⊢;exact SR this
 have ki:may d x.id=0:=by
  unfold may;rw[zzb (by simp[jc]),zzb (by omega)]
 have cn0:iE PF.id d.R x.id=true:=by
  have:=sN;rw[hR]at this ⊢;exact DH this
 have nz:d.find x.id=0:=by
  unfold DS.find;rw[zzb (by simp[ki]),zzd cn0]
 have A':d.cK.off=false:=by simp[DS.cK,sE]
 have T3:d.cK.arm=0:=by simp[DS.cK,sE]
 have hh:A≠[]->cO ([]++A)+1=n+(cX A).length:=λh=>by rw[zzq,hc.head h];omega
 have rI:((n+(cX A).length).toNat:Int)=n+(cX A).length:=by omega
 have hbound:¬(base<0\/12288<base\/size<64\/65536<size):=by omega
 rcases cFr (n:=(n+(cX A).length).toNat) (l:=l) k (by omega) (by omega) hl with ⟨h1,h2⟩|⟨j,h1,h2,h3⟩
 ·have vT:jl ([]++A) d.R x.id true=((false,true),A):=by
   unfold jl;rw[Bd];simp only[yyi,xxj,hb,h1];rfl
  have nB:lU d.R [x.id] (if A=[] then none else some (f+A.length-1)) ([]++A) (if A=[] then true else true)=some (A,false):=by
   rw[BC];simp only[tth,vT];rw[UO true];rfl
  rw[nB]at lr
  refine⟨A,0,{d.cK with R:=A.map eI},zz4 _,λi hi hk=>?_,λi _ _=>.inr rfl,?_,hc,by simp,rfl,A',T3,by simp[DS.cK],by omega,zzi _,λh _=>.inl h,λhk=>?_⟩
  ·rw[nF,zza]at hk
   rw[nF,zza]at h2
   have:(eC []).length=0:=rfl;omega
  ·have I5:jC A d (A.map dt.file++[x.id]) false=({d.cK with R:=A.map eI},0):=by
    unfold jC;rw[xxb];simp only[wwm,DS.remove];rw[zzb (by simp[nz]),zzb (by simp[A']),b_9]
   unfold ff;rw[zzb hbound,zzb (by simp[jc]),vQ,lr];simp only[I5];rfl
  rw[nF,zza]at hk
  rw[nF,zza]at h2
  have:(eC []).length=0:=rfl;omega
 let s:dt:=⟨x.id,n+(cX A).length,(eC (dZ (n+(cX A).length).toNat::l.take j)).length,l.take j⟩
 have vT:jl ([]++A) d.R x.id true=((true,true),A++[s]):=by
  unfold jl;rw[Bd];simp only[yyi,xxj,hb,h3];rw[zzb,rI]
  ·rfl
  rintro (⟨e1,e2⟩|⟨e1,e2⟩|e)
  ·cases e1
  ·by_cases Fl:A=[]
   ·subst Fl;simp at e1
   have:=hh Fl;omega
  rw[zzg]at e;omega
 have nB:lU d.R [x.id] (if A=[] then none else some (f+A.length-1)) ([]++A) (if A=[] then true else true)=some (A++[s],true):=by
  rw[BC];simp only[tth,vT];rw[UO true];rfl
 rw[nB]at lr
 have UX:ic s=eC (dZ (n+(cX A).length).toNat::l.take j):=rfl;have iP:gP f n (A++[s]):=gP.app.2 ⟨hc,λ_=>hA,hid,rfl,rfl,λp hp=>hl p (yys hp),λh=>absurd rfl h,trivial⟩;have f_:lT (A++[s])=(ic s).length:=by unfold lT;rw[xxb];rfl
 have tL:(ic s).length<=k:=by
  have:=(h2 j h1).2 (zzi _);rw[UX];exact this
 have mT:(eC (dZ (n+(cX A).length).toNat::l)).take (ic s).length=ic s:=by
  have:eC (dZ (n+(cX A).length).toNat::l)=ic s++eC (l.drop j):=by
   rw[UX,nF,nF,zzk,<- cFu,yyk]
  rw[this,ww3]
 have hlen:(ic s).length<=(eC (dZ (n+(cX A).length).toNat::l)).length:=by
  rw[<- mT,zzg];omega
 have kj:(ic s).length<=x.b.length:=by rw[hb,zzg];omega
 have U_:x.b.take (ic s).length=ic s:=by rw[hb,ttn,xxw tL,mT]
 have Uu:gH d.R x.id=x.b.length:=by unfold gH;rw[Bd]
 have Dv:∃d',jC (A++[s]) d (A.map dt.file++[x.id]) true=(d',0)/\d'.R=(A++[s]).map eI/\d'.off=false/\d'.arm=0/\d'.ops<=d.ops+1:=by
  unfold jC;rw[xxb];simp only[Uu,f_];rw[zzb (by simp)];by_cases dj:((ic s).length:Int)<x.b.length
  ·rw[zzd dj];unfold DS.cut;rw[zzb (by simp[nz]),zzb (by rw[Uu];omega),zzb (by simp[A'])];refine⟨_,rfl,?_,A',T3,by simp[DS.cK]⟩;show ku d.R x.id (jr (((ic s).length:Nat):Int).toNat)=_;rw[hR,Li (by rw[<- hR];exact sN),zzz,zzt];congr 1;simp only[jr,U_,uW,zzr,yy8,eI];rw[Nat.min_eq_right kj]
  rw[zzb dj];refine⟨d,rfl,?_,jc,sE,by omega⟩;rw[hR,zzt];congr 1;have:x.b=ic s:=by rw[<- U_,zz7 (by omega)]
  obtain⟨xi,xs,xb⟩:=x;simp only at this uW;simp only[zzr,yy8,eI];rw[uW,this]
 obtain⟨d',I5,r1,r2,r3,r4⟩:=Dv;refine⟨A++[s],j,d',h1,λi hi hk=>(h2 i hi).1 hk,λi hi hk=>.inl ?_,?_,iP,by rw[xf];simp[cX,s],r1,r2,r3,r4,by simp,by simp,λh _=>.inr ⟨by simp[h],?_⟩,λ_=>by simp⟩
 ·rcases xx6 j i with h|h
  ·exact h
  have:=(h2 i hi).2 h;omega
 ·unfold ff;rw[zzb hbound,zzb (by simp[jc]),vQ,lr];simp only[I5];rfl
 have:=(h2 0 (zz4 _)).2 (zz4 _)
 rwa [uu3]at this
def gP.sQ:∀{f n:Int} {L:List dt},gP f n L->L.length<=(cX L).length+1
 | f,n,[],_=>by simp
 | f,n,[s],_=>by simp
 | f,n,s::t::L,h=>by
  obtain⟨_,_,_,_,h5,h6⟩:=h;have:=h6.sQ;have h0:s.l.length≠0:=λe=>h5 (by simp) (zzl e);rw[pR,zza,zzj];omega
structure gI(g:da)(d:DS)(f n:Int)(es:List Φ):Prop where
 chain:gP f n g.bI
 gG:cX g.bI=es
 files:d.R=g.bI.map eI
 nil:g.bI=[]->f=g.base/\n=1
 base:g.base<=f
 b0:0<=g.base
 b1:g.base<=12288
 s0:64<=g.size
 s1:g.size<=65536
 n1:1<=n
 fi:f+es.length+2<=g.base+4096
 off:d.off=false
 dE:g.dE=none
def gI.head{g:da}{d:DS}{f n:Int}{es:List Φ}(h:gI g d f n es):cO g.bI=n+es.length-1:=by
 by_cases hL:g.bI=[]
 ·have:=h.nil hL;have e:=h.gG;rw[hL]at e ⊢
  rw[<- e,this.2];rfl
 rw[h.chain.head hL,h.gG]
structure wL(g:da)(f n:Int)(es:List Φ)(p:Φ)(x:il)(A:List dt)(l0:List Φ)(pre:Φ):Prop where
 chain:gP f n A
 full:∀s∈A,s.l≠[]
 file:x.file=f+A.length
 gG:cX A++l0=es
 bl:∀q∈l0,q.length<=1048576
 all:pre++x.b=eC (dZ (n+(cX A).length).toNat::(l0++[p]))
 cEb:l0=[]\/pre=eC (dZ (n+(cX A).length).toNat::l0)
 app:∀t,kP (g.bI.map eI) x.file t=A.map eI++[⟨x.file,pre.length,pre++t⟩]
 put:gP f n (jQ g.bI x p)
 W4:cX (jQ g.bI x p)=es++[p]
 cEi:(jQ g.bI x p).map eI=A.map eI++[⟨x.file,(pre++x.b).length,pre++x.b⟩]
 eX:jQ g.bI x p≠[]
 cEe:∀s∈jQ g.bI x p,s.l≠[]
 pos:0<x.b.length
 len:x.b.length<=27+p.length
 fresh:x.fresh=true->g.bI=A/\pre=[]
 oh:x.fresh=false->g.bI.map eI=A.map eI++[⟨x.file,pre.length,pre⟩]/\lT g.bI=pre.length
def Gy{g:da}{d:DS}{f n:Int}{es:List Φ}(h:gI g d f n es){p:Φ}(hp:p.length<=1048576)(hn:n+es.length<=100000):∃x A l0 pre,eW g false p= .ok x/\wL g f n es p x A l0 pre:=by
 have hh:=h.head;have hc:=h.chain;have hle:=hc.sQ;rw[h.gG]at hle
 have tH:=h.fi;have nC:=h.n1;have sN:=hc.te.sorted;have Uj:∀F:Int,F=f+g.bI.length->(∀s∈g.bI,s.l≠[])->∃x A l0 pre,mO g F p= .ok x/\wL g f n es p x A l0 pre:=by
  intro F hF Bc;have e1:(cO g.bI+1).toNat=(n+(cX g.bI).length).toNat:=by rw[hh,h.gG];congr 1;omega
  have kF:jQ g.bI ⟨F,true,dm (dZ (cO g.bI+1).toNat)++dm p⟩ p=g.bI++[⟨F,cO g.bI+1,(dm (dZ (cO g.bI+1).toNat)++dm p).length,[p]⟩]:=by
   unfold jQ;simp
  have eK:dm (dZ (cO g.bI+1).toNat)++dm p=eC (dZ (n+(cX g.bI).length).toNat::[p]):=by rw[e1,nF,nF];simp[eC]
  refine⟨⟨F,true,dm (dZ (cO g.bI+1).toNat)++dm p⟩,g.bI,[],[],?_,hc,Bc,hF,by rw[zz2];exact h.gG,by simp,?_,.inl rfl,λt=>?_,?_,?_,?_,?_,?_,?_,?_,λ_=>⟨rfl,rfl⟩,λe=>by cases e⟩
  ·unfold mO;rw[zzb (by omega)]
  ·exact eK
  ·refine aR7 sN (λy hy=>?_) t;have:=hc.te.mem hy;rw[zzn]at this
   show y.id<F;omega
  ·rw[kF];refine gP.app.2 ⟨hc,λ_=>Bc,hF,?_,?_,by simpa using hp,λh=>absurd rfl h,trivial⟩
   ·show cO g.bI+1=_;rw[hh,h.gG];omega
   show (dm (dZ (cO g.bI+1).toNat)++dm p).length=(ic _).length;unfold ic;rw[eK,e1]
  ·rw[kF,xf,h.gG];simp[cX]
  ·rw[kF,zzt,zzq];congr 1;simp only[zzr,yy8,eI,ic];rw[eK,e1]
  ·rw[kF];simp
  ·rw[kF];intro s hs;rcases zz6.1 hs with hs|hs
   ·exact Bc s hs
   rw[zz8.1 hs];simp
  ·show 0<(dm (dZ (cO g.bI+1).toNat)++dm p).length;rw[zza,kJ];omega
  show (dm (dZ (cO g.bI+1).toNat)++dm p).length<=_;rw[zza,kJ,kJ,A_];omega
 unfold eW;rw[zzb (by omega),zzb (by simp),zzb (by omega)];rcases List.eq_nil_or_concat g.bI with hL|⟨A,s,hL⟩
 ·have Ju:=h.nil hL;rw[hL];simp only[List.getLast?_nil];exact Uj g.base (by rw[hL];simp;omega) (by rw[hL];simp)
 rw[List.concat_eq_append]at hL
 have hLg:g.bI.getLast?=some s:=by rw[hL,xxb]
 rw[hLg];simp only;rw[hL]at hc
 obtain⟨h1,h2,c1,c2,c3,c4,c5,c6⟩:=gP.app.1 hc;have FH:=h2 (by simp);by_cases I9:s.l.length=0\/(s.size:Int)+(dm p).length<=g.size
 ·rw[zzd I9];have kF:jQ g.bI ⟨s.file,false,dm p⟩ p=A++[{s with size:=s.size+(dm p).length,l:=s.l++[p]}]:=by
   unfold jQ;rw[zzb (by simp)];simp only[hL,List.dropLast_concat,xxb];rfl
  have eK:ic s++dm p=eC (dZ (n+(cX A).length).toNat::(s.l++[p])):=by
   unfold ic;rw[c2,<- zzv,Xe]
  have TI:ic {s with size:=s.size+(dm p).length,l:=s.l++[p]}=ic s++dm p:=by
   unfold ic;rw[<- zzv,Xe]
  refine⟨⟨s.file,false,dm p⟩,A,s.l,ic s,rfl,h1,FH,c1,?_,c4,eK,.inr (by unfold ic;rw[c2]),λt=>?_,?_,?_,?_,?_,?_,?_,?_,λe=>(by cases e),λ_=>⟨?_,?_⟩⟩
  ·rw[<- h.gG,hL,xf];simp[cX]
  ·rw[hL,zzt]at sN ⊢
   exact aR6 (x:=eI s) sN t
  ·rw[kF];refine gP.app.2 ⟨h1,λ_=>FH,c1,c2,?_,λq hq=>?_,λh=>absurd rfl h,trivial⟩
   ·rw[TI,zza,<- c3]
   rcases zz6.1 hq with hq|hq
   ·exact c4 q hq
   rw[zz8.1 hq];exact hp
  ·rw[kF,xf,<- h.gG,hL,xf];simp[cX]
  ·rw[kF,zzt];simp only[zzr,yy8,eI,TI]
  ·rw[kF];simp
  ·rw[kF];intro t ht;rcases zz6.1 ht with ht|ht
   ·exact FH t ht
   rw[zz8.1 ht];simp
  ·show 0<(dm p).length;rw[kJ];omega
  ·show (dm p).length<=_;rw[kJ];omega
  ·rw[hL,zzt];rfl
  unfold lT;rw[hL,xxb];show ((s.size:Nat):Int)=_;rw[c3]
 rw[zzb I9];refine Uj (s.file+1) (by rw[hL,c1];simp;omega) (by
  intro t ht;rw[hL]at ht
  rcases zz6.1 ht with ht|ht
  ·exact FH t ht
  rw[zz8.1 ht];intro e;exact I9 (.inl (by rw[e];rfl)))
def oX(d:DS)(f n:Int)(es:List Φ)(p:Φ)(whole:Bool):Prop:=∃A l0 pre k,
 gP f n A/\(∀s∈A,s.l≠[])/\cX A++l0=es/\(∀q∈l0++[p],q.length<=1048576)/\(l0=[]\/pre=(eC (dZ (n+(cX A).length).toNat::l0)).length)/\pre<=k/\k<=(eC (dZ (n+(cX A).length).toNat::(l0++[p]))).length /\
 (whole=false->k<(eC (dZ (n+(cX A).length).toNat::(l0++[p]))).length)/\d.R=A.map eI++[⟨f+A.length,pre,(eC (dZ (n+(cX A).length).toNat::(l0++[p]))).take k⟩]
def wL.dE{g:da}{f n:Int}{es:List Φ}{p:Φ}{x:il}{A:List dt}{l0:List Φ}{pre:Φ}(h:wL g f n es p x A l0 pre)(hp:p.length<=1048576){d:DS}{m:Nat}{whole:Bool}(hm:m<=x.b.length)(hw:whole=false->m<x.b.length)
  (hR:d.R=kP (g.bI.map eI) x.file (x.b.take m)):oX d f n es p whole:=by
 have eK:=h.all;have hl:(eC (dZ (n+(cX A).length).toNat::(l0++[p]))).length=pre.length+x.b.length:=by rw[<- eK,zza]
 refine⟨A,l0,pre.length,pre.length+m,h.chain,h.full,h.gG,λq hq=>?_,?_,by omega,by omega,λe=>by have:=hw e;omega,?_⟩
 ·rcases zz6.1 hq with hq|hq
  ·exact h.bl q hq
  rw[zz8.1 hq];exact hp
 ·rcases h.cEb with h1|h1
  ·exact .inl h1
  exact .inr (by rw[h1])
 rw[hR,h.app,<- eK,xx0,h.file]
def Ic(A B:List PF)(keep:Ω):∀hA:(∀x∈A,x.safe=x.b.length),e_ (A++B) keep=A++B.mapIdx λi=>jh keep (A.length+i):=by
 intro hA;unfold e_;rw[uu4];congr 1
 ·refine xxy (by simp) λi h1 h2=>?_;rw[vv7];have hx:=hA A[i] (zzh h2);have hm:j6 keep i A[i]=0:=by
   have:=Ad (keep:=keep) (i:=i) (x:=A[i]) (by omega);omega
  unfold jh;rw[hm,hx,xxp,Nat.min_self,zz0,<- hx]
 congr 1
 funext i
 rw[uu2]
def XP(A:List dt):∀x∈A.map eI,x.safe=x.b.length:=λx hx=>by
 obtain⟨s,_,rfl⟩:=zzx.1 hx;rfl
def Sx{L:List dt}(keep:Ω):e_ (L.map eI) keep=L.map eI:=by
 have:=Ic (L.map eI) [] keep (XP L);simpa using this
def ail{d:DS}{f n:Int}{es:List Φ}{p:Φ}{whole:Bool}(h:oX d f n es p whole)(keep:Ω){base size:Int}(b0:0<=base)(b1:base<=12288)(s0:64<=size)(s1:size<=65536)(hf:base<=f)(xE:f+es.length+4<=base+4096)
  (n1:1<=n) (n2:n+es.length+1<=100000) (hn:es=[]->(f=base/\n=1)\/∀y∈d.R,(eC [dZ n.toNat]).length<=y.safe) :
  ∃g d' iV,ff (d.eO keep) base size=(d',.ok g)/\gI g d' f n iV/\d'.arm=0/\d'.ops<=d.ops+1/\g.base=base/\g.size=size/\(iV=es\/(whole=true/\iV=es++[p])):=by
 obtain⟨A,l0,pre,k,hA,Bc,Jd,p5,p_,jv,fL,hw,hR⟩:=h;have sC:=hA.sQ;have hl:(cX A).length+l0.length=es.length:=by rw[<- Jd,zza]
 let T:=eC (dZ (n+(cX A).length).toNat::(l0++[p]))
 have TT:(T.take k).length=k:=by rw[zzg];exact xxw fL
 let y:=jh keep (A.map eI).length ⟨f+A.length,pre,T.take k⟩
 have mr:(d.eO keep).R=A.map eI++[y]:=by
  show e_ d.R keep=_;rw[hR,Ic _ _ _ (XP A)];rfl
 have uW:pre<=(T.take k).length:=by rw[TT];exact jv
 have uZ:y.b.length=pre+j6 keep (A.map eI).length ⟨f+A.length,pre,T.take k⟩:=CG (x:=⟨f+A.length,pre,T.take k⟩) uW;have hy2:y.safe=pre+j6 keep (A.map eI).length ⟨f+A.length,pre,T.take k⟩:=EZ (x:=⟨f+A.length,pre,T.take k⟩) uW;have mR:pre+j6 keep (A.map eI).length ⟨f+A.length,pre,T.take k⟩<=k:=by
  have:=Ad (keep:=keep) (i:=(A.map eI).length) (x:=⟨f+A.length,pre,T.take k⟩) uW;simpa [TT] using this
 have hyb:y.b=T.take (pre+j6 keep (A.map eI).length ⟨f+A.length,pre,T.take k⟩):=by
  show (T.take k).take _=_;rw[ttn,xxw mR]
 generalize hm:pre+j6 keep (A.map eI).length ⟨f+A.length,pre,T.take k⟩=m at *
 obtain⟨L,j,d',j1,j2,j3,ho,hc,he,hR',Jv,uH,ed,_,_,_,b_m⟩:=cDi (d:=d.eO keep) (A:=A) (l:=l0++[p]) (f:=f) (n:=n) (base:=base) (size:=size) (k:=m) (x:=y) hA Bc p5 mr rfl (by rw[uZ,hy2]) hyb rfl rfl b0 b1 s0 s1 hf (by omega) n1 (by simp;omega);have tK:l0.length<=j:=by
  rcases p_ with rfl|p_
  ·simp
  refine j2 l0.length (by simp) ?_;rw[ww3,<- p_];omega
 have uO:j<=l0.length+1:=by simpa using j1
 refine⟨⟨L,base,size,none⟩,d',cX L,ho,⟨hc,rfl,hR',λhL=>?_,hf,b0,b1,s0,s1,n1,?_,Jv,rfl⟩,uH,ed,rfl,rfl,?_⟩
 ·have hL:L=[]:=hL;have h0:(cX L).length=0:=by rw[hL];rfl
  rw[he,zza,zzg,zza]at h0
  simp only[zzj,yym]at h0;rcases hn (zzl (by omega)) with hn|hn
  ·exact hn
  have Fl:A=[]:=by
   cases A with
   | nil=>rfl
   | cons s r=>
    have h1:=Bc s (.head _);have h2:0<s.l.length:=wwb.2 h1;rw[pR,zza]at h0
    omega
  have hs:=hn ⟨f+A.length,pre,(eC (dZ (n+(cX A).length).toNat::(l0++[p]))).take k⟩ (by rw[hR];simp);refine absurd hL (b_m ?_);have hs:(eC [dZ n.toNat]).length<=pre:=hs;subst Fl;show (eC [dZ (n+((cX []).length:Nat)).toNat]).length<=m;rw[show n+((cX ([]:List dt)).length:Int)=n by show n+((0:Nat):Int)=n;omega];omega
 ·show f+((cX L).length:Int)+2<=base+4096;rw[he,zza,zzg];simp;omega
 rw[he];rcases xx6 l0.length j with hj|hj
 ·right;have:j=l0.length+1:=by omega
  subst this;refine⟨?_,by rw[zz7 (by simp),<- zzk,Jd]⟩;cases whole with
  | true=>rfl
  | false=>
   have h1:=hw rfl;rcases j3 (l0.length+1) (by simp) (by rw[zz7 (by simp)];exact Nat.lt_of_le_of_lt mR h1) with h2|h2<;>omega
 left;have:j=l0.length:=by omega
 subst this;rw[ww3,Jd]
def cKf{d:DS}{f n:Int}{es:List Φ}{p:Φ}{whole:Bool}(h:oX d f n es p whole)(keep:Ω){base size:Int}(b0:0<=base)(b1:base<=12288)(s0:64<=size)(s1:size<=65536)(hf:base<=f)(xE:f+es.length+4<=base+4096)
  (n1:1<=n) (n2:n+es.length+1<=100000) (hn:f=base/\n=1) :
  ∃g d' iV,ff (d.eO keep) base size=(d',.ok g)/\gI g d' f n iV/\d'.arm=0/\d'.ops<=d.ops+1/\g.base=base/\g.size=size/\(iV=es\/(whole=true/\iV=es++[p])):=
 ail h keep b0 b1 s0 s1 hf xE n1 n2 λ_=>.inl hn
def wL.may{g:da}{d:DS}{f n:Int}{es:List Φ}{p:Φ}{x:il}{A:List dt}{l0:List Φ}{pre:Φ}(h:wL g f n es p x A l0 pre)(hi:gI g d f n es){d':DS}(ho:d'.off=false):may d' x.file=0/\0<=x.file/\x.file<16384:=by
 have h1:=h.chain.sQ;have h2:(cX A).length+l0.length=es.length:=by rw[<- h.gG,zza]
 have:=hi.fi;have:=hi.base;have:=hi.b0;have:=hi.b1;have h3:=h.file;refine⟨?_,by omega,by omega⟩;unfold Go.Proofs.YtlngdcpffiklgaaGreat.may;rw[zzb (by simp[ho]),zzb (by omega)]
def HN{g:da}{d a s:DS}{p:Φ}{x:il}{e1 e2:Int}(hp:eW g d.off p= .ok x)(hm:dy g d=((g,d),0))(ha:d.append x.file x.b=(a,e1))(hs:a.sync x.file=(s,e2)):
  fy g d p=if e1≠0 then ((g,a),(0,e1)) else if e2≠0 then ((g,s),(0,e2)) else (({g with bI:=jQ g.bI x p},s),(cO (jQ g.bI x p),0)):=by
 unfold fy;rw[hp];simp only[hm];rw[zzb (by decide),ha];simp only[hs]
def cJx{g:da}{d a:DS}{p:Φ}{k:Int}{x:il}(hk:0<=k)(hp:eW g d.off p= .ok x)(hm:dy g d=((g,d),0))(ha:d.append x.file (x.b.take (k.toNat % x.b.length))=(a,0)):
  gw g d p k=(({g with dE:=some ⟨x.file,if x.fresh=true then 0 else lT g.bI,x.fresh⟩},a),0):=by
 unfold gw;rw[zzb (by omega),hp];simp only[hm];rw[zzb (by decide),ha];simp only;rw[zzb (by decide)]
def append_eq{d:DS}{f:Int}{b:Φ}(hm:may d f=0):d.append f b=({d.cK with R:=kP d.R f b},d.cK.err):=by
 unfold DS.append;rw[zzb (by simp[hm])]
def aWe{g:da}{d:DS}{f n:Int}{es:List Φ}(h:gI g d f n es){p:Φ}{x:il}{A:List dt}{l0:List Φ}{pre:Φ}(hx:eW g false p= .ok x)(hr:wL g f n es p x A l0 pre)(he:es=[])(hs:g.bI≠[]):(eC [dZ n.toNat]).length<=pre.length:=by
 have h1:=hr.gG;rw[he]at h1
 obtain⟨xu,pw⟩:=vvt.1 h1;have hA:A=[]:=by
  cases A with
  | nil=>rfl
  | cons s r=>rw[pR]at xu;exact absurd (vvt.1 xu).1 (hr.full s (.head _))
 subst hA pw;have eK:=hr.all;have hb:x.b=dm p:=by
  unfold eW at hx;split at hx
  ·cases hx
  rw[zzb (by decide)]at hx
  split at hx
  ·cases hx
  cases hg:g.bI.getLast? with
  | none=>exact absurd (List.getLast?_eq_none_iff.1 hg) hs
  | some s=>
   rw[hg]at hx
   simp only at hx;have JI:s.l=[]:=by
    have h2:=h.gG;rw[he]at h2
    have hm:=xx3 hg;unfold cX at h2;exact List.flatten_eq_nil_iff.1 h2 _ (vv8 hm)
   rw[zzd (.inl (by rw[JI];rfl))]at hx
   cases hx;rfl
 rw[hb,zzq,nF,show eC [p]=dm p by simp[eC]]at eK
 have:=yy1 List.length eK;rw[zza,zza]at this
 rw[show n+((cX ([]:List dt)).length:Int)=n by show n+((0:Nat):Int)=n;omega]at this
 rw[nF,zza,show eC []=[] from rfl,yym];omega
def RW{g:da}{d:DS}{f n:Int}{es:List Φ}(h:gI g d f n es){p:Φ}(hp:p.length<=1048576)(hn:n+es.length<=100000)(tH:f+es.length+3<=g.base+4096)(ha:0<=d.arm):
  (∃g' d',fy g d p=((g',d'),(n+es.length,0))/\gI g' d' f n (es++[p])/\d'.ops=d.ops+2/\0<=d'.arm/\(d.arm=0->d'.arm=0)/\g'.base=g.base/\g'.size=g.size/\(∀s∈g'.bI,s.l≠[])/\d.arm≠1/\d.arm≠2) \/
  (∃d',fy g d p=((g,d'),(0,8))/\oX d' f n es p true/\d'.off=true/\d'.ops<=d.ops+2/\d.arm≠0/\(es=[]->g.bI≠[]->∀y∈d'.R,(eC [dZ n.toNat]).length<=y.safe)):=by
 obtain⟨x,A,l0,pre,eg,hr⟩:=Gy h hp hn;have tI:∀R:List PF,R=kP d.R x.file x.b->es=[]->g.bI≠[]->∀y∈R,(eC [dZ n.toNat]).length<=y.safe:=λR hR he hs y hy=>by
  have h1:=aWe h eg hr he hs;have h2:=hr.gG;rw[he]at h2
  have hA:A=[]:=by
   cases A with
   | nil=>rfl
   | cons s r=>rw[pR,zzk]at h2;exact absurd (vvt.1 h2).1 (hr.full s (.head _))
  have tD:=hr.app x.b;rw[<- h.files,hA]at tD
  rw[hR,tD]at hy
  have:y=⟨x.file,pre.length,pre++x.b⟩:=by simpa using hy
  rw[this];exact h1
 have jc:=h.off;have hm:dy g d=((g,d),0):=by unfold dy;rw[h.dE]
 obtain⟨ki,f0,f1⟩:=hr.may h jc;have tE:=append_eq (b:=x.b) ki;by_cases h1:d.arm=1
 ·right;have e:d.cK.off=true:=by simp[DS.cK,h1]
  refine⟨{d.cK with R:=kP d.R x.file x.b},?_,hr.dE hp (m:=x.b.length) (zzi _) (λe=>by cases e) (by rw[zz0,h.files]),e,by simp[DS.cK],by omega,tI _ rfl⟩;have e2:d.cK.err=8:=by unfold DS.err;rw[e];rfl
  rw[HN (by rw[jc];exact eg) hm tE rfl,e2];rfl
 have e:d.cK.off=false:=by simp[DS.cK,h1]
 have e2:d.cK.err=0:=by unfold DS.err;rw[e];rfl
 have tD:=hr.app x.b;rw[<- h.files]at tD
 let d1:DS:={d.cK with R:=kP d.R x.file x.b}
 have nX:pF f (A.map eI++[⟨x.file,pre.length,pre++x.b⟩]):=hr.chain.te.snoc (by rw[zzn];exact hr.file);have jP:d1.R=A.map eI++[⟨x.file,pre.length,pre++x.b⟩]:=tD;have nz:d1.find x.file=0:=by
  unfold DS.find;rw[zzb (by rw[(hr.may h (d':=d1) e).1];simp)];have hs:=nX.sorted;rw[jP,zzd (DH (x:=⟨x.file,pre.length,pre++x.b⟩) hs)]
 rw[e2]at tE
 by_cases h2:d.arm=2
 ·right;have e3:d1.cK.off=true:=by simp[DS.cK,d1,h2]
  have JJ:d1.sync x.file=(d1.cK,8):=by
   unfold DS.sync;rw[zzb (by simp[nz]),zzd e3]
  rw[HN (by rw[jc];exact eg) hm tE JJ];refine⟨d1.cK,rfl,hr.dE hp (m:=x.b.length) (zzi _) (λe=>by cases e) (by rw[zz0,<- h.files];rfl),e3,by simp[DS.cK,d1],by omega,tI _ rfl⟩
 left;have TY:d1.arm=if 0<d.arm then d.arm-1 else d.arm:=rfl
 have e3:d1.cK.off=false:=zz3 (by rw[TY];split<;>omega);have C6:0<=d1.arm:=by rw[TY];split<;>omega
 have JJ:d1.sync x.file=({d1.cK with R:=ku d1.R x.file λy=>{y with safe:=y.b.length}},0):=by
  unfold DS.sync;rw[zzb (by simp[nz]),zzb (by simp[e3])]
 rw[HN (by rw[jc];exact eg) hm tE JJ];have ju:=hr.put;have hup:ku d1.R x.file (λy=>{y with safe:=y.b.length})=(jQ g.bI x p).map eI:=by
  rw[jP,Li (x:=⟨x.file,pre.length,pre++x.b⟩) nX.sorted,hr.cEi]
 refine⟨{g with bI:=jQ g.bI x p},{d1.cK with R:=ku d1.R x.file λy=>{y with safe:=y.b.length}},?_,⟨ju,hr.W4,hup,λe=>absurd e hr.eX,h.base,h.b0,h.b1,h.s0,h.s1,h.n1,?_,e3,h.dE⟩,by simp[DS.cK,d1],?_,λh0=>by simp[DS.cK,d1,h0],rfl,rfl,hr.cEe,h1,h2⟩
 ·have:cO (jQ g.bI x p)=n+es.length:=by
   rw[ju.head hr.eX,hr.W4,zza];simp;omega
  rw[zzb (by decide),zzb (by decide),this]
 ·show f+((es++[p]).length:Int)+2<=g.base+4096;rw[zza];simp;omega
 show 0<=if 0<d1.arm then d1.arm-1 else d1.arm
 split<;>omega
def aWf{g:da}{d:DS}{f n:Int}{es:List Φ}(h:gI g d f n es){p:Φ}(hp:p.length<=1048576)(hn:n+es.length<=100000)(tH:f+es.length+3<=g.base+4096)(ha:0<=d.arm):
  (∃g' d',fy g d p=((g',d'),(n+es.length,0))/\gI g' d' f n (es++[p])/\d'.ops=d.ops+2/\0<=d'.arm/\(d.arm=0->d'.arm=0)/\g'.base=g.base/\g'.size=g.size/\(∀s∈g'.bI,s.l≠[])/\d.arm≠1/\d.arm≠2) \/
  (∃d',fy g d p=((g,d'),(0,8))/\oX d' f n es p true/\d'.off=true/\d'.ops<=d.ops+2/\d.arm≠0):=by
 rcases RW h hp hn tH ha with h1|⟨d',a,b,c,e,k,_⟩
 ·exact .inl h1
 exact .inr ⟨d',a,b,c,e,k⟩
def oX.s4{d d':DS}{f n:Int}{es:List Φ}{p:Φ}{whole:Bool}(h:oX d f n es p whole)(hR:d'.R=d.R):oX d' f n es p whole:=by
 obtain⟨A,l0,pre,k,h⟩:=h;exact⟨A,l0,pre,k,by rw[hR];exact h⟩
def aWh{g g1:da}{d d1:DS}{p:Φ}(hm:dy g d=((g1,d1),0))(hs:g1.bI=g.bI)(hb:g1.base=g.base)(hz:g1.size=g.size)(ho:d.off=false)(vV:d1.off=false)(ht:g1.dE=none){x:il}(hx:eW g1 false p= .ok x):fy g d p=fy g1 d1 p:=by
 have hp:eW g false p=eW g1 false p:=by
  unfold eW mO;rw[hs,hb,hz]
 have Dh:dy g1 d1=((g1,d1),0):=by unfold dy;rw[ht]
 unfold fy;rw[ho,vV,hp,hx];simp only[hm,Dh]
def KG{g:da}{off:Bool}{p:Φ}{x:il}(h:eW g off p= .ok x):x.b.length<=27+p.length:=by
 have hf:∀F,mO g F p= .ok x->x.b.length<=27+p.length:=λF h=>by
  unfold mO at h;split at h
  ·cases h
  cases h;simp only[zza,kJ,A_];omega
 unfold eW at h;split at h
 ·cases h
 split at h
 ·cases h
 split at h
 ·cases h
 split at h
 ·exact hf _ h
 split at h
 ·cases h;simp only[kJ];omega
 exact hf _ h
def Gt{g:da}{d:DS}{N:Nat}(h:d.Ok N):(dy g d).1.2.Ok N:=by
 unfold dy;split
 ·exact h
 simp only;split
 ·exact h.remove _
 exact h.cut _ _
def RV{g:da}{d:DS}{N:Nat}(h:d.Ok N)(p:Φ):(fy g d p).1.2.Ok (N+(27+p.length)):=by
 unfold fy;split
 ·exact h.mono (by omega)
 rename_i x hx;have hl:=KG hx;have hm:=Gt (g:=g) h;simp only;split
 ·exact hm.mono (by omega)
 have ha:=(hm.append x.file x.b).mono (M:=N+(27+p.length)) (by omega);split
 ·exact ha
 have hs:=ha.sync x.file;split
 ·exact hs
 exact hs
def cJ1{g:da}{d:DS}{N:Nat}(h:d.Ok N)(p:Φ)(k:Int):(gw g d p k).1.2.Ok (N+(27+p.length)):=by
 unfold gw;split
 ·exact h.mono (by omega)
 split
 ·exact h.mono (by omega)
 rename_i x hx;have hl:=KG hx;have hm:=Gt (g:=g) h;simp only;split
 ·exact hm.mono (by omega)
 have ha:=(hm.append x.file (x.b.take (k.toNat % x.b.length))).mono (M:=N+(27+p.length)) (by rw[zzg];omega);split
 ·exact ha
 exact ha
def aio{N:Nat}(k:Int):∀(L:List dt) (d:DS),d.Ok N->(iH L d k).1.2.Ok N
 | [],d,h=>h
 | [s],d,h=>h
 | s::t::L,d,h=>by
  rw[iH];split
  ·split
   ·exact h.remove _
   exact aio k (t::L) _ (h.remove _)
  exact h
def cKj{g:da}{d:DS}{N:Nat}(h:d.Ok N)(k:Int):(iG g d k).1.2.Ok N:=by
 unfold iG;split
 ·exact h
 exact aio k g.bI d h
def HU{L:List dt}{d:DS}{ids:Ω}{wh:Bool}{N:Nat}(h:d.Ok N):(jC L d ids wh).1.Ok N:=by
 unfold jC;split
 ·exact h
 split
 ·exact h.remove _
 split
 ·exact h.cut _ _
 exact h
def Gu{d:DS}{base size:Int}{N:Nat}(h:d.Ok N):(ff d base size).1.Ok N:=by
 unfold ff;split
 ·exact h
 split
 ·exact h
 split
 ·exact h
 split
 ·exact HU h
 exact HU h
def k_.mono{s:dt}{N M:Nat}(h:k_ s N)(hm:N<=M):k_ s M:=⟨h.f0,h.f1,h.n0,h.n1,yyw h.sz hm,yyw h.ln hm,h.bl⟩
def da.Ok.mono{g:da}{N M:Nat}(h:g.Ok N)(hm:N<=M):g.Ok M:=⟨λs hs=>(h.bI s hs).mono hm,h.b0,h.b1,h.s0,h.s1,yyw h.ln hm⟩
def da.Ok.congr{g g':da}{N:Nat}(h:g.Ok N)(h1:g'.bI=g.bI)(h2:g'.base=g.base)(h3:g'.size=g.size):g'.Ok N:=
 ⟨by rw[h1];exact h.bI,by rw[h2];exact h.b0,by rw[h2];exact h.b1,by rw[h3];exact h.s0,by rw[h3];exact h.s1,by rw[h1];exact h.ln⟩
def tV(g:da)(d:DS):(dy g d).1.1.bI=g.bI/\(dy g d).1.1.base=g.base/\(dy g d).1.1.size=g.size:=by
 unfold dy;split<;>exact⟨rfl,rfl,rfl⟩
def Kg{g:da}{d:DS}{N:Nat}(h:g.Ok N):(dy g d).1.1.Ok N:=let ⟨a,b,c⟩:=tV g d;h.congr a b c
structure AE(g:da)(p:Φ)(x:il):Prop where
 pl:p.length<=1048576
 hd:cO g.bI<1099511627776
 oh:x.fresh=false->∃s,g.bI.getLast?=some s/\x.file=s.file
 f0:x.fresh=true->0<=x.file/\x.file<=100000
 bl:x.b.length<=27+p.length
 pos:8<=x.b.length
def Gx{g:da}{N:Nat}(h:g.Ok N){off:Bool}{p:Φ}{x:il}(hx:eW g off p= .ok x):AE g p x:=by
 have hb:=KG hx;have h0:=h.b0;have h1:=h.b1;have hp:p.length<=1048576:=by
  unfold eW at hx;split at hx
  ·cases hx
  omega
 have uL:∀F,0<=F->cO g.bI<1099511627776->mO g F p= .ok x->AE g p x:=λF hF hd hx=>by
  unfold mO at hx;split at hx
  ·cases hx
  cases hx;exact⟨hp,hd,λe=>(by cases e),λ_=>⟨hF,by show F<=100000;omega⟩,hb,by show 8<=(dm _++dm p).length;rw[zza,kJ];omega⟩
 unfold eW at hx;rw[zzb (by omega)]at hx
 split at hx
 ·cases hx
 split at hx
 ·cases hx
 rename_i hd;have hd:cO g.bI<1099511627776:=by omega
 split at hx
 ·exact uL _ h0 hd hx
 rename_i s hs;split at hx
 ·cases hx;exact⟨hp,hd,λ_=>⟨s,hs,rfl⟩,λe=>(by cases e),hb,by show 8<=(dm p).length;rw[kJ];omega⟩
 have:=(h.bI s (xx3 hs)).f0;exact uL _ (by omega) hd hx
def tW(L:List dt)(x:il):List dt:=if x.fresh=true then L++[⟨x.file,cO L+1,0,[]⟩] else L
def vt(s:dt)(n:Nat)(p:Φ):dt:={s with size:=s.size+n,l:=s.l++[p]}
def Gz(L:List dt)(x:il)(p:Φ){A:List dt}{s:dt}(h:tW L x=A++[s]):jQ L x p=A++[vt s x.b.length p]:=by
 unfold jQ;have:(if x.fresh=true then L++[⟨x.file,cO L+1,0,[]⟩] else L)=A++[s]:=h;rw[this];simp only[List.dropLast_concat,xxb];rfl
def Kh{g:da}{p:Φ}{x:il}(h:AE g p x):∃A s,tW g.bI x=A++[s]:=by
 unfold tW;cases hf:x.fresh with
 | true=>exact⟨_,_,rfl⟩
 | false=>
  obtain⟨s,hs,_⟩:=h.oh hf;obtain⟨A,hA⟩:=List.getLast?_eq_some_iff.1 hs;exact⟨A,s,by rw[zzb (by decide)];exact hA⟩
def Wj{g:da}{N:Nat}(hg:g.Ok N){p:Φ}{x:il}(h:AE g p x):∀s∈tW g.bI x,k_ s N:=by
 intro s hs;unfold tW at hs;split at hs
 ·rename_i hf;rcases zz6.1 hs with hs|hs
  ·exact hg.bI s hs
  rw[zz8.1 hs];have:=sH hg.bI;have:=h.hd;exact⟨(h.f0 hf).1,(h.f0 hf).2,by show 1<=cO g.bI+1;omega,by show cO g.bI+1<=_;omega,zz4 _,zz4 _,λb hb=>by cases hb⟩
 exact hg.bI s hs
def cBv(L:List dt)(x:il):(tW L x).length<=L.length+1:=by
 unfold tW;split<;>simp
def W5{g:da}{N:Nat}(hg:g.Ok N){p:Φ}{x:il}(h:AE g p x):(∀s∈jQ g.bI x p,k_ s (N+(28+p.length)))/\(jQ g.bI x p).length<=N+1:=by
 obtain⟨A,s,hA⟩:=Kh h;have cL:=Wj hg h;have hl:=cBv g.bI x;have hn:=hg.ln;rw[Gz _ _ _ hA];rw[hA]at cL hl
 refine⟨λt ht=>?_,by simp at hl ⊢;omega⟩;rcases zz6.1 ht with ht|ht
 ·exact (cL t (yyo _ ht)).mono (by omega)
 rw[zz8.1 ht];have hs:=cL s (by simp);have:=hs.sz;have:=hs.ln;have:=h.bl;refine⟨hs.f0,hs.f1,hs.n0,hs.n1,by show s.size+x.b.length<=_;omega,by show (s.l++[p]).length<=_;simp;omega,λb hb=>?_⟩;rcases zz6.1 hb with hb|hb
 ·exact hs.bl b hb
 rw[zz8.1 hb];exact h.pl
def Lh(n:Int):∀(L:List dt) (d:DS),(∀s∈(iH L d n).1.1,s∈L)/\(iH L d n).1.1.length<=L.length
 | [],d=>⟨λs hs=>hs,zzi _⟩
 | [t],d=>⟨λs hs=>hs,zzi _⟩
 | t::u::L,d=>by
  rw[iH];split
  ·split
   ·exact⟨λs hs=>hs,zzi _⟩
   obtain⟨h1,h2⟩:=Lh n (u::L) (d.remove t.file).1;exact⟨λs hs=>.tail _ (h1 s hs),by simp at h2 ⊢;omega⟩
  exact⟨λs hs=>hs,zzi _⟩
def cKi{g:da}{d:DS}{N:Nat}(h:g.Ok N)(n:Int):(iG g d n).1.1.Ok N:=by
 unfold iG;split
 ·exact h
 obtain⟨h1,h2⟩:=Lh n g.bI d;exact⟨λs hs=>h.bI s (h1 s hs),h.b0,h.b1,h.s0,h.s1,yyw h2 h.ln⟩
def i_:List dt->Prop
 | []=>True
 | [_]=>True
 | s::t::r=>t.first=s.next/\i_ (t::r)
def i_.tail{s:dt}{L:List dt}(h:i_ (s::L)):i_ L:=by
 cases L with
 | nil=>trivial
 | cons t r=>exact h.2
def i_.drop{L:List dt}(h:i_ L):∀i,i_ (L.drop i)
 | 0=>h
 | i+1=>by
  cases L with
  | nil=>exact trivial
  | cons s L=>exact i_.drop h.tail i
def i_.snoc:∀{L:List dt} {x:dt},i_ L->(L≠[]->x.first=cO L+1)->i_ (L++[x])
 | [],x,_,_=>trivial
 | [s],x,_,h=>⟨by have:=h (by simp);simp only[cO,List.getLast?_singleton]at this;omega,trivial⟩
 | s::t::r,x,h,hx=>by
  refine⟨h.1,?_⟩;refine i_.snoc (L:=t::r) h.2 λ_=>?_;have:=hx (by simp);simp only[cO,uuj]at this ⊢;exact this
def i_.last:∀{A:List dt} {s t:dt},i_ (A++[s])->t.first=s.first->i_ (A++[t])
 | [],s,t,_,_=>trivial
 | [a],s,t,h,e=>⟨by rw[e];exact h.1,trivial⟩
 | a::b::r,s,t,h,e=>⟨h.1,i_.last (A:=b::r) h.2 e⟩
def TOk(g:da):Prop:=∀x,g.dE=some x->0<=x.file/\x.file<=100000/\(x.fresh=false->∃s,g.bI.getLast?=some s/\s.file=x.file/\x.oJ=s.size)/\(x.fresh=true->∀s,g.bI.getLast?=some s->s.file≠x.file)
structure ij(g:da)(M:Nat):Prop where
 ok:g.Ok M
 seq:i_ g.bI
 hd:cO g.bI<=1099511627776
 dE:TOk g
def ij.mono{g:da}{N M:Nat}(h:ij g N)(hm:N<=M):ij g M:=⟨h.ok.mono hm,h.seq,h.hd,h.dE⟩
def Wd(g:da)(d:DS):(dy g d).1.1.dE=if (dy g d).2=0 then none else g.dE:=by
 unfold dy;split
 ·rename_i h;simp[h]
 rename_i x h;simp only;split<;>simp[h]
def Wb{g:da}{d:DS}{M:Nat}(h:ij g M):ij (dy g d).1.1 M:=by
 obtain⟨h1,h2,h3⟩:=tV g d;refine⟨Kg h.ok,by rw[h1];exact h.seq,by rw[h1];exact h.hd,λx hx=>?_⟩;rw[Wd]at hx
 split at hx
 ·cases hx
 rw[h1];exact h.dE x hx
def Jc(A:List dt)(s:dt):cO (A++[s])=s.next-1:=by
 unfold cO;rw[xxb]
def cEj{g:da}{M:Nat}(h:ij g M){p:Φ}{x:il}(hw:AE g p x)(ht:g.dE=none):ij {g with bI:=jQ g.bI x p} (M+(28+p.length)):=by
 obtain⟨k1,k2⟩:=W5 h.ok hw;have hb:=h.ok;have tI:=hw.hd;obtain⟨A,s,hA⟩:=Kh hw;have JH:i_ (A++[s])/\s.next-1<=cO g.bI:=by
  rw[<- hA];unfold tW at hA ⊢;split
  ·rename_i hf;rw[zzd hf]at hA
   have hs:=List.append_inj' hA rfl;have e:s=⟨x.file,cO g.bI+1,0,[]⟩:=by simpa using hs.2.symm
   refine⟨h.seq.snoc λ_=>rfl,?_⟩;rw[e];simp[dt.next]
  rename_i hf;rw[zzb hf]at hA
  refine⟨h.seq,?_⟩;rw[hA,Jc];exact yyf _
 rw[Gz _ _ _ hA]at k1 k2 ⊢
 refine⟨⟨k1,hb.b0,hb.b1,hb.s0,hb.s1,by show (A++[vt s x.b.length p]).length<=_;omega⟩,JH.1.last rfl,?_,λy hy=>?_⟩
 ·show cO (A++[vt s x.b.length p])<=_;rw[Jc];have e:(vt s x.b.length p).next=s.next+1:=by simp[dt.next,vt];omega
  rw[e];omega
 have:g.dE=some y:=hy;rw[ht]at this;cases this
def RU{g:da}{d:DS}{M:Nat}(h:ij g M)(p:Φ):ij (fy g d p).1.1 (M+(28+p.length)):=by
 unfold fy;split
 ·exact h.mono (by omega)
 rename_i x hx;have hw:=Gx h.ok hx;have hm:=Wb (d:=d) h;obtain⟨m1,_,_⟩:=tV g d;have mt:=Wd g d;simp only;split
 ·exact hm.mono (by omega)
 rename_i h0;have h0:(dy g d).2=0:=by simpa using h0
 rw[zzd h0]at mt
 split
 ·exact hm.mono (by omega)
 split
 ·exact hm.mono (by omega)
 refine cEj hm ⟨hw.pl,by rw[m1];exact hw.hd,by rw[m1];exact hw.oh,hw.f0,hw.bl,hw.pos⟩ mt
def cD6{g:da}{M:Nat}(h:g.Ok M){off:Bool}{p:Φ}{x:il}(hx:eW g off p= .ok x):0<=x.file/\x.file<=100000/\(x.fresh=false->∃s,g.bI.getLast?=some s/\s.file=x.file)/\(x.fresh=true->∀s,g.bI.getLast?=some s->s.file≠x.file):=by
 have hw:=Gx h hx;cases hf:x.fresh with
 | false=>
  obtain⟨s,h1,h2⟩:=hw.oh hf;have:=h.bI s (xx3 h1);exact⟨by rw[h2];exact this.f0,by rw[h2];exact this.f1,λ_=>⟨s,h1,h2.symm⟩,λe=>by cases e⟩
 | true=>
  obtain⟨f0,f1⟩:=hw.f0 hf;refine⟨f0,f1,(λe=>by cases e),λ_ s hs=>?_⟩;unfold eW at hx;rw[hs]at hx
  split at hx
  ·cases hx
  split at hx
  ·cases hx
  split at hx
  ·cases hx
  simp only at hx;split at hx
  ·cases hx;cases hf
  unfold mO at hx;split at hx
  ·cases hx
  cases hx;show s.file≠s.file+1;omega
def cJv{g:da}{d:DS}{M:Nat}(h:ij g M)(p:Φ)(k:Int):ij (gw g d p k).1.1 M:=by
 unfold gw;split
 ·exact h
 split
 ·exact h
 rename_i x hx;have hm:=Wb (d:=d) h;obtain⟨m1,m2,m3⟩:=tV g d;obtain⟨f0,f1,f2,f3⟩:=cD6 h.ok hx;simp only;split
 ·exact hm
 split
 ·exact hm
 refine⟨hm.ok.congr rfl rfl rfl,hm.seq,hm.hd,λy hy=>?_⟩;have hy:some (⟨x.file,if x.fresh=true then 0 else lT (dy g d).1.1.bI,x.fresh⟩:wK)=some y:=hy;cases hy;refine⟨f0,f1,λhf=>?_,λhf s hs=>f3 hf s (by rw[<- m1];exact hs)⟩;have hf:x.fresh=false:=hf;obtain⟨s,h1,h2⟩:=f2 hf;refine⟨s,by rw[<- m1]at h1;exact h1,h2,?_⟩;show (if x.fresh=true then 0 else lT (dy g d).1.1.bI)=_;rw[zzb (by rw[hf];decide)];unfold lT;rw[m1,h1]
def ain(n:Int):∀(L:List dt) (d:DS),∃i,(iH L d n).1.1=L.drop i/\(i=0\/i<L.length)
 | [],d=>⟨0,rfl,.inl rfl⟩
 | [t],d=>⟨0,rfl,.inl rfl⟩
 | t::u::L,d=>by
  rw[iH];split
  ·split
   ·exact⟨0,rfl,.inl rfl⟩
   obtain⟨i,h1,h2⟩:=ain n (u::L) (d.remove t.file).1;exact⟨i+1,by rw[h1];rfl,.inr (by simp at h2 ⊢;omega)⟩
  exact⟨0,rfl,.inl rfl⟩
def bF8{α:Type}{L:List α}{i:Nat}(h:i=0\/i<L.length):(L.drop i).getLast?=L.getLast?:=by
 rcases h with rfl|h
 ·rfl
 rw[List.getLast?_drop,zzb (by omega)]
def cKh{g:da}{d:DS}{M:Nat}(h:ij g M)(n:Int):ij (iG g d n).1.1 M:=by
 have hk:=cKi (d:=d) h.ok n;unfold iG at hk ⊢;split
 ·exact h
 rename_i ho;rw[zzb ho]at hk
 obtain⟨i,h1,h2⟩:=ain n g.bI d;have hl:(iH g.bI d n).1.1.getLast?=g.bI.getLast?:=by rw[h1];exact bF8 h2
 refine⟨hk,by show i_ (iH g.bI d n).1.1;rw[h1];exact h.seq.drop i,?_,λx hx=>?_⟩
 ·show cO (iH g.bI d n).1.1<=_;unfold cO;rw[hl];exact h.hd
 show _/\_/\(_->∃s,(iH g.bI d n).1.1.getLast?=some s/\_)/\(_->∀s,(iH g.bI d n).1.1.getLast?=some s->_);rw[hl];exact h.dE x hx
def cAi{L:List dt}{R:List PF}{f:Int}{last:Bool}(h:i_ L)(hh:cO L<=1099511627776):i_ (jl L R f last).2/\cO (jl L R f last).2<=1099511627776:=by
 unfold jl;simp only;split
 ·exact⟨h,hh⟩
 split
 ·exact⟨h,hh⟩
 rename_i k l n hr hc;refine⟨h.snoc λhL=>?_,?_⟩
 ·show k=cO L+1;have:0<L.length:=wwb.2 hL;rcases Int.lt_trichotomy k (cO L+1) with h1|h1|h1
  ·exact absurd (.inr (.inl ⟨this,by omega⟩)) hc
  ·exact h1
  exact absurd (.inr (.inl ⟨this,by omega⟩)) hc
 show cO (L++[_])<=_;rw[Jc];simp only[dt.next];rcases Int.lt_or_le 1099511627776 (k+l.length-1) with h1|h1
 ·exact absurd (.inr (.inr h1)) hc
 exact h1
def VX{R:List PF}:∀(ids:Ω) (prev:Option Int) (L:List dt) (wh:Bool),i_ L->cO L<=1099511627776->∀{L' Ao},lU R ids prev L wh=some (L',Ao)->i_ L'/\cO L'<=1099511627776
 | [],prev,L,wh,h,hh,L',Ao,e=>by cases e;exact⟨h,hh⟩
 | f::r,prev,L,wh,h,hh,L',Ao,e=>by
  rw[BC]at e
  obtain⟨k1,k2⟩:=cAi (R:=R) (f:=f) (last:=r.isEmpty) h hh;split at e
  ·cases e
  split at e
  ·cases e
  exact VX r _ _ _ k1 k2 e
def sh(C:List Cell):Prop:=C.Pairwise (λa b=>a.key<b.key)
def rE(C:List Cell)(k:Int):Option Cell:=C.find? (λc=>decide (c.key=k))
def mw:List Cell->Cell->List Cell
 | [],c=>[c]
 | x::C,c=>if x.key<c.key then x::mw C c else if x.key=c.key then c::C else c::x::C
def cellOf(o:gx):Cell:=⟨o.key,o.aw,o.gone,if o.gone then ⟨#[]⟩ else o.val⟩
def rS(C:List Cell)(o:gx):List Cell × Bool:=match rE C o.key with
 | some c=>if o.aw<c.aw then (C,false) else (mw C (cellOf o),true)
 | none=>(mw C (cellOf o),true)
def lX(ts:List (List Cell))(o:gx):List (List Cell) × Bool:=
 if o.table<0 then (ts,false) else match ts[o.table.toNat]? with
 | some C=>(ts.set o.table.toNat (rS C o).1,(rS C o).2)
 | none=>(ts,false)
def fF:List (List Cell)->List gx->List (List Cell) × Nat
 | ts,[]=>(ts,0)
 | ts,o::l=>((fF (lX ts o).1 l).1,(if (lX ts o).2 then 1 else 0)+(fF (lX ts o).1 l).2)
def rowsOf(C:List Cell):List Row:=(C.filter λc=>!c.gone).map λc=>⟨c.key,c.val⟩
def cF8(C:List Cell)(k:Nat)(h:k<C.length):rowsOf (C.take (k+1))=if C[k].gone then rowsOf (C.take k) else rowsOf (C.take k)++[⟨C[k].key,C[k].val⟩]:=by
 unfold rowsOf;rw[zze h,yyx,zzt];cases hg:C[k].gone<;>simp[hg]
def Xl(C:List Cell):(rowsOf C).length<=C.length:=by unfold rowsOf;rw[zzn];exact yyp _ _
def V_{C:List Cell}{c x:Cell}(h:x∈mw C c):x=c\/x∈C:=by
 induction C with
 | nil=>simpa [mw] using h
 | cons y C ih=>
  unfold mw at h;split at h
  ·rcases zz1.1 h with rfl|h
   ·exact .inr (.head _)
   rcases ih h with h|h
   ·exact .inl h
   exact .inr (.tail _ h)
  split at h
  ·rcases zz1.1 h with rfl|h
   ·exact .inl rfl
   exact .inr (.tail _ h)
  rcases zz1.1 h with rfl|h
  ·exact .inl rfl
  exact .inr h
def cIg{C:List Cell}(h:sh C)(c:Cell):sh (mw C c):=by
 unfold sh at *
 induction C with
 | nil=>simp[mw]
 | cons y C ih=>
  rw[yyg]at h
  unfold mw;split
  ·rename_i dj;refine yyg.2 ⟨λz hz=>?_,ih h.2⟩;rcases V_ hz with rfl|hz
   ·exact dj
   exact h.1 z hz
  split
  ·rename_i he;exact yyg.2 ⟨λz hz=>by have:=h.1 z hz;omega,h.2⟩
  rename_i h1 h2;refine yyg.2 ⟨λz hz=>?_,yyg.2 h⟩;rcases zz1.1 hz with rfl|hz
  ·omega
  have:=h.1 z hz;omega
def bWm(C:List Cell)(c:Cell)(k:Int):rE (mw C c) k=if c.key=k then some c else rE C k:=by
 unfold rE;induction C with
 | nil=>by_cases h:c.key=k<;>simp[mw,h]
 | cons y C ih=>
  unfold mw;split
  ·rw[xxx,xxx,ih];by_cases h1:y.key=k
   ·have:c.key≠k:=by omega
    simp[h1,this]
   simp[h1]
  split
  ·rename_i he;rw[xxx,xxx];by_cases h1:c.key=k
   ·simp[h1]
   have:y.key≠k:=by omega
   simp[h1,this]
  rw[xxx];by_cases h1:c.key=k<;>simp[h1]
def cAb(C:List Cell)(c:Cell):(mw C c).length<=C.length+1:=by
 induction C with
 | nil=>simp[mw]
 | cons y C ih=>
  unfold mw;split
  ·simp;omega
  split<;>simp
def bWj{C:List Cell}{k:Int}{c:Cell}(h:rE C k=some c):c.key=k/\c∈C:=by
 unfold rE at h;have h1:=List.find?_some (p:=λc:Cell=>decide (c.key=k)) h;exact⟨zzp h1,List.mem_of_find?_eq_some h⟩
def Tw{C:List Cell}(h:sh C){c:Cell}(hc:c∈C):rE C c.key=some c:=by
 unfold rE sh at *
 induction C with
 | nil=>cases hc
 | cons y C ih=>
  rw[yyg]at h
  rcases zz1.1 hc with rfl|hc
  ·simp
  have:=h.1 c hc;rw[xxx];have hn:¬y.key=c.key:=by omega
  simp[hn,ih h.2 hc]
def W9{ts:List (List Cell)}{t:Nat}{o:gx}(h:o.table=t)(ht:t<ts.length):lX ts o=(ts.set t (rS ts[t] o).1,(rS ts[t] o).2):=by
 have h0:¬o.table<0:=by omega
 have h1:o.table.toNat=t:=by omega
 unfold lX;simp[h0,h1,ht]
def GC(ts:List (List Cell))(o:gx):(lX ts o).1.length=ts.length:=by
 unfold lX;split
 ·rfl
 split<;>simp
def KK(l:List gx):∀ts,(fF ts l).1.length=ts.length:=by
 induction l with
 | nil=>intro ts;rfl
 | cons o l ih=>intro ts;simp only[fF];rw[ih,GC]
def cEg(l:List gx):∀ts,(fF ts l).2<=l.length:=by
 induction l with
 | nil=>intro ts;simp[fF]
 | cons o l ih=>intro ts;simp only[fF,zzj];have:=ih (lX ts o).1;split<;>omega
def cEf(l l':List gx):∀ts,fF ts (l++l')=((fF (fF ts l).1 l').1,(fF ts l).2+(fF (fF ts l).1 l').2):=by
 induction l with
 | nil=>intro ts;simp[fF]
 | cons o l ih=>intro ts;simp only[zzv,fF,ih];simp only[vvk]
def small(ts:List (List Cell))(k:Nat):Prop:=∀C∈ts,C.length+k<=1000000
def cEp(C:List Cell)(o:gx):(rS C o).1.length<=C.length+1:=by
 unfold rS;have:=cAb C (cellOf o);split
 ·split<;>simp_all
 exact this
def cH3{ts:List (List Cell)}{k:Nat}{o:gx}(h:small ts (k+1)):small (lX ts o).1 k:=by
 unfold lX;split
 ·intro C hC;have:=h C hC;omega
 split
 ·rename_i C0 h0;intro C hC;rcases vv6 hC with hC|rfl
  ·have:=h C hC;omega
  have:=h C0 (yy5 h0);have:=cEp C0 o;omega
 intro C hC;have:=h C hC;omega
def XS{ts:List (List Cell)}{j k:Nat}(h:small ts k)(hj:j<=k):small ts j:=λC hC=>by have:=h C hC;omega
def cH1{l:List gx}:∀{ts:List (List Cell)} {k:Nat},small ts (k+l.length)->small (fF ts l).1 k:=by
 induction l with
 | nil=>intro ts k h;simpa [fF] using h
 | cons o l ih=>intro ts k h;exact ih (cH3 (by rw[zzj]at h;rw[vvk];exact h))
def lA(n:Int):Prop:=-9223372036854775808<=n/\n<=9223372036854775807
def Ah(C:List Cell):Prop:=sh C/\∀c∈C,lA c.key
def sU(ts:List (List Cell)):Prop:=∀C∈ts,Ah C
def cCw{C:List Cell}{o:gx}(h:Ah C)(ho:lA o.key):Ah (rS C o).1:=by
 have hi:Ah (mw C (cellOf o)):=⟨cIg h.1 _,λc hc=>by rcases V_ hc with rfl|hc;exact ho;exact h.2 c hc⟩;unfold rS;split
 ·split
  ·exact h
  exact hi
 exact hi
def WD{ts:List (List Cell)}{o:gx}(h:sU ts)(ho:lA o.key):sU (lX ts o).1:=by
 unfold lX;split
 ·exact h
 split
 ·rename_i C0 h0;intro C hC;rcases vv6 hC with hC|rfl
  ·exact h C hC
  exact cCw (h C0 (yy5 h0)) ho
 exact h
def cC0{l:List gx}:∀{ts:List (List Cell)},sU ts->(∀o∈l,lA o.key)->sU (fF ts l).1:=by
 induction l with
 | nil=>intro ts h _;exact h
 | cons o l ih=>intro ts h ho;exact ih (WD h (ho o (.head _))) (λo' h'=>ho o' (.tail _ h'))
def mh(ts:List (List Cell))(t:Int):List Cell:=if 0<=t then (ts[t.toNat]?).getD [] else []
def ET{ts:List (List Cell)}{t:Int}(hs:small ts 0):(mh ts t).length<=1000000:=by
 unfold mh;split
 ·cases h:ts[t.toNat]? with
  | none=>simp
  | some C=>simpa using hs C (yy5 h)
 simp
structure ma(m:List (Int × Cell))(C:List Cell):Prop where
 get:∀k,fT m k=rE C k
 nodup:(m.map (·.1)).Nodup
def cBm{α:Type}(m:List (Int × α))(k:Int)(v:α)(k':Int):fT (gM m k v) k'=if k=k' then some v else fT m k':=by
 induction m with
 | nil=>by_cases h:k=k'<;>simp[gM,fT,h]
 | cons p m ih=>
  unfold gM;split
  ·rename_i hp;by_cases h:k=k'
   ·simp[fT,h]
   have:¬p.1=k':=by omega
   simp[fT,h,this]
  by_cases h:p.1=k'
  ·have:¬k=k':=by omega
   simp[fT,h,this]
  simp[fT,h,ih]
def cBj{α:Type}{m:List (Int × α)}{k:Int}{v:α}{x:Int}(h:x∈(gM m k v).map (·.1)):x=k\/x∈m.map (·.1):=by
 induction m with
 | nil=>simpa [gM] using h
 | cons p m ih=>
  unfold gM at h;split at h
  ·simp only[zzr,zz1]at h ⊢;rcases h with h|h
   ·exact .inl h
   exact .inr (.inr h)
  simp only[zzr,zz1]at h ⊢;rcases h with h|h
  ·exact .inr (.inl h)
  rcases ih h with h|h
  ·exact .inl h
  exact .inr (.inr h)
def cCa{α:Type}{m:List (Int × α)}(h:(m.map (·.1)).Nodup)(k:Int)(v:α):((gM m k v).map (·.1)).Nodup:=by
 induction m with
 | nil=>simp[gM]
 | cons p m ih=>
  rw[zzr,ww8]at h
  unfold gM;split
  ·rename_i hp;rw[zzr,ww8];exact⟨by rw[<- hp];exact h.1,h.2⟩
  rename_i hp;rw[zzr,ww8];refine⟨λhm=>?_,ih h.2⟩;rcases cBj hm with e|e
  ·exact hp e
  exact h.1 e
def cBo{α:Type}{m:List (Int × α)}{k:Int}:k∈m.map (·.1)↔∃v,fT m k=some v:=by
 induction m with
 | nil=>simp[fT]
 | cons p m ih=>
  by_cases h:p.1=k
  ·simp[fT,h]
  have:¬k=p.1:=λe=>h e.symm;simp only[zzr,zz1,this,false_or,ih,fT,h,wwd]
def ma.put{m:List (Int × Cell)}{C:List Cell}(h:ma m C)(c:Cell):ma (gM m c.key c) (mw C c):=
 ⟨λk=>by rw[cBm,bWm,h.get],cCa h.nodup _ _⟩
def ma.nil:ma [] []:=⟨λk=>rfl,by simp⟩
def nodup_keys{C:List Cell}(h:sh C):(C.map (·.key)).Nodup:=by
 unfold sh at h;refine ww4.2 (h.imp λp4=>?_);omega
def ma.perm{m:List (Int × Cell)}{C:List Cell}(h:ma m C)(hs:sh C):(m.map (·.1)).Perm (C.map (·.key)):=by
 refine (List.perm_ext_iff_of_nodup h.nodup (nodup_keys hs)).2 λk=>?_;rw[cBo];simp only[h.get];constructor
 ·rintro ⟨c,hc⟩;obtain⟨h1,h2⟩:=bWj hc;exact zzx.2 ⟨c,h2,h1⟩
 intro hk;obtain⟨c,hc,rfl⟩:=zzx.1 hk;exact⟨c,Tw hs hc⟩
def ma.rl{m:List (Int × Cell)}{C:List Cell}(h:ma m C)(hs:sh C):rl m=C.map (·.key):=by
 have e:YtlngdcpffiklgaaGreat.rl m=(C.map (·.key)).mergeSort (λx y=>decide (x<=y)):=Go.mergeSort_of_perm_i (h.perm hs);rw[e];refine List.mergeSort_of_pairwise ?_;refine ww4.2 (ttc (R:=λa b:Cell=>a.key<b.key) (λ{a b} p4=>?_) hs);simp only[zzw];omega
def ma.len{m:List (Int × Cell)}{C:List Cell}(h:ma m C)(hs:sh C):m.length=C.length:=by simpa using (h.perm hs).length_eq
def ma.wf{m:List (Int × Cell)}{C:List Cell}(h:ma m C)(ok:Ah C):∀p∈m,(Lit.int .i64 p.1).wf=true:=λp hp=>by
 have:p.1∈C.map (·.key):=(h.perm ok.1).subset (zzx.2 ⟨p,hp,rfl⟩);obtain⟨c,hc,hk⟩:=zzx.1 this;have:=ok.2 c hc;rw[hk]at this
 unfold lA at this;have h1:IntKind.i64.min = -9223372036854775808:=by decide
 have h2:IntKind.i64.max=9223372036854775807:=by decide
 simp only[Lit.wf,h1,h2,zzu,zzw];exact this
open Go.RowKit
structure fZ where
 kind:Int
 keep:Int
def iU(f:fZ):Ξ:=[Γ f.kind,Γ f.keep]
def Ir(f:fZ):(iU f).length=2:=rfl
def bIr(f:fZ):∀v∈iU f,v.oneCell'=true:=by simp[iU,Value.oneCell']
def jm(f:fZ):Bool:=decide (((f.kind=1\/f.kind=3)/\f.keep=0)\/(f.kind=2/\0<=f.keep))
def mY(p:List fZ):List fZ->List fZ
 | []=>p
 | f::l=>mY (if jm f=true/\p.length<1024 then p++[f] else p) l
structure cV where
 g:da
 d:DS
 ts:List (List Cell)
 plan:List fZ
 aw:Int
 reqs:List Rq
def oR(L:List Rq)(n:iC):Option (List Rq):=
 if n.kind=2 then mi L n.id n.dG n.done
 else match pL L n.table n.weight n.at_ with
  | some L'=>if n.id=L'.length then some L' else none
  | none=>none
def ga:List Rq->List iC->Option (List Rq)
 | L,[]=>some L
 | L,n::r=>match oR L n with
  | some L'=>ga L' r
  | none=>none
def sZ(k:Nat)(x:cJ):Bool:=x.ops.all λo=>decide (o.table<k)
def gf(k:Nat)(L:List Rq)(x:cJ):Option (List Rq):=if eH x=true/\sZ k x=true then ga L x.notes else none
def cV.AT(k:cV)(x:cJ)(L:List Rq):cV:={k with ts:=(fF k.ts x.ops).1,reqs:=L,aw:=x.aw}
def gq(x:cJ):Φ:=match uw x with
 | .ok b=>b
 | .error _=>[]
def cV.gD(k:cV)(x:cJ)(L:List Rq):cV × Int:=
 let r:=fy k.g k.d (gq x)
 if r.2.2=0 then (cV.AT {k with g:=r.1.1,d:=r.1.2} x L,0) else ({k with g:=r.1.1,d:=r.1.2},r.2.2)
def cV.ks(k:cV)(x:cJ)(n:Int):cV × Int:=
 let r:=gw k.g k.d (gq x) n
 ({k with g:=r.1.1,d:=r.1.2},r.2)
def cV.fX(k:cV)(x:cJ):cV × Int:=
 if eH x=false\/(k.aw<x.aw/\gf k.ts.length k.reqs x=none) then (k,1)
 else if k.d.off=true then (k,8)
 else
  let L:=(gf k.ts.length k.reqs x).getD []
  match k.plan with
  | []=>if k.aw<x.aw then k.gD x L else (k,0)
  | f::r=>
   let k':cV:={k with plan:=r}
   if f.kind=3 then (if k.aw<x.aw then ((k'.gD x L).1,if (k'.gD x L).2=0 then 9 else (k'.gD x L).2) else (k',9))
   else if f.kind=2/\k.aw<x.aw then ((k'.ks x f.keep).1,if (k'.ks x f.keep).2=0 then 9 else (k'.ks x f.keep).2)
   else (k',9)
abbrev Tr:=List (List Cell) × List Rq × Int
def stepT(cU:Nat)(t:Tr)(x:cJ):Option Tr:=match gf cU t.2.1 x with
 | some L=>if t.2.2<x.aw then some ((fF t.1 x.ops).1,L,x.aw) else none
 | none=>none
def tZ(cU:Nat):List (Φ)->Tr->Option Tr
 | [],t=>some t
 | b::r,t=>match nV b with
  | .ok x=>match stepT cU t x with
   | some t'=>tZ cU r t'
   | none=>none
  | .error _=>none
def rV(cU:Nat):Tr:=(List.replicate cU [],[],0)
def cV.tr(k:cV):Tr:=(k.ts,k.reqs,k.aw)
def kI(d:DS)(cU size:Int):DS × Except Int cV:=
 if cU<1\/8<cU then (d,.error 1)
 else match ff d 8192 size with
  | (d',.error e)=>(d',.error e)
  | (d',.ok g)=>
   if fk g.bI≠1/\fk g.bI<=cO g.bI then (d',.error 3)
   else match tZ cU.toNat (cX g.bI) (rV cU.toNat) with
    | none=>(d',.error 3)
    | some t=>(d',.ok ⟨g,d',t.1,[],t.2.2,t.2.1⟩)
set_option maxRecDepth 100000
def W3:∀(p a b:List fZ),mY p (a++b)=mY (mY p a) b
 | p,[],b=>rfl
 | p,f::a,b=>W3 _ a b
def D1(p:List fZ)(f:fZ):mY p [f]=if jm f=true/\p.length<1024 then p++[f] else p:=rfl
def cEd{p l:List fZ}{i:Nat}(h:i<l.length):mY p (l.take (i+1))=if jm l[i]=true/\(mY p (l.take i)).length<1024 then mY p (l.take i)++[l[i]] else mY p (l.take i):=by
 rw[zze h,W3,D1]
def KJ:∀(l p:List fZ),p.length<=1024->p.length<=(mY p l).length/\(mY p l).length<=1024
 | [],p,h=>⟨zzi _,h⟩
 | f::l,p,h=>by
  unfold mY;split
  ·rename_i hc;have:=KJ l (p++[f]) (by rw[zza,yyc];omega);rw[zza,yyc]at this
   omega
  exact KJ l p h
def gJ(p:Nat)(L:List fZ):zC:=jT λv:Ε=>zH True [.pt p [v] 225,.ob (dB v 33 2 L.length (L.map iU).flatten)]
def gJ.iff{W w:Ζ}{p:Nat}{L:List fZ}{l:Β}:SL W (.ob (gJ p L)::l) w↔∃v,SL W (.pt p [v] 225::.ob (dB v 33 2 L.length (L.map iU).flatten)::l) w:=by
 unfold gJ;simp only[SL.ex,SL.fact,zzv,zzq,uuu]
def bR8:SP 138 [] [] (λv post=>∃p:Nat,v= Δ p/\post=[.ob (gJ p [])]):=by
 refine Enzz λW F w hS=>?_;apply cL2;delta bR;refine Gp ?_;refine zu hS λb w hS=>?_;have hS:=(gJ.iff (L:=[])).2 ⟨_,SL.cD (dB.ri (a:=none) (t:=33) (sz:=2) hS) (t:=.pt b [Θ] 225::.ob (dB Θ 33 2 0 [])::F) Xi⟩;exact⟨_,⟨b,rfl,rfl⟩,hS⟩
def YJ(f:fZ):SP 166 [agg (iU f)] [] (cE (.bool (jm f)) []):=by
 refine Enzz λW F w hS=>?_;apply cMu;delta aI a_ cz ai;refine zu hS λb w hS=>?_;unfold iU at hS;refine cA (λh=>?_) (λh=>?_)
 ·refine Gp ?_;have e:jm f=decide (f.keep=0):=by unfold jm;rw[yyj];omega
  rw[e];(exact cF hS)
 refine cA (λh2=>?_) (λh2=>?_)
 ·refine Gp ?_;have e:jm f=decide (f.keep=0):=by unfold jm;rw[yyj];omega
  rw[e];(exact cF hS)
 refine cA (λh3=>?_) (λh3=>?_)
 ·refine Gp ?_;have e:jm f=decide (0<=f.keep):=by unfold jm;rw[yyj];omega
  rw[e];(exact cF hS)
 have e:jm f=false:=by unfold jm;rw[xxc];omega
 rw[e];(exact cF hS)
def bR6(p:Nat)(L:List fZ):SP 71 [Δ p] [.ob (gJ p L)] (cE (Γ L.length) [.ob (gJ p L)]):=by
 refine Enzz λW F w hS=>?_;apply cTu;delta bW;obtain⟨v,hS⟩:=gJ.iff.1 hS;refine Gp ?_;refine zO hS Xh ?_;exact⟨_,⟨rfl,rfl⟩,gJ.iff.2 ⟨v,hS⟩⟩
def Z8(H:bw)(p:Nat)(L l:List fZ)(v:Ε)(hv:de H 2 v l.length (l.map iU).flatten)(hl:l.length<=1000000)(hL:L.length<=1024):
  SP 167 [Δ p,v] [.ob (gJ p L),.mem H] (cE (Γ (((mY L l).length-L.length:Nat):Int)) [.ob (gJ p (mY L l)),.mem H]):=by
 refine Enzz λW F w hS=>?_;apply cMv;delta aI bW c_ aW b_ ai;refine zo hv ?_;refine⟨λvs w=>∃i:Nat,vs=[Γ (((mY L (l.take i)).length-L.length:Nat):Int),Γ i]/\i<=l.length/\SL W (.ob (gJ p (mY L (l.take i)))::.mem H::F) w,
  λvs _=>match vs with|[_,.int _ i]=>(l.length-i).toNat|_=>0,⟨0,by simp[mY],by omega,hS⟩,?_⟩
 clear hS;rintro v5 v10 w ⟨i,eY,hi,hS⟩;cases eY;refine cA (λh=>?_) (λh=>?_)
 ·have cG:i<l.length:=by omega
  have ht:=cEd (p:=L) cG;have hle:=KJ (l.take i) L hL;refine zF hS Xh Ir hv (x:=l[i]) (by simp[cG]) cG ?_;refine Gm λb w hS=>?_;generalize hM:mY L (l.take i)=M at *
  generalize hf:l[i]=f at *
  refine Cg (YJ f) λw hS=>?_;refine yU (λhm=>?_) (λhm=>?_)
  ·obtain⟨pv,hS⟩:=gJ.iff.1 (SL.cD hS (t:=.ob (gJ p M)::.pt b (iU f) 33::.mem H::F) Xi);refine Gp ?_;refine zO hS (v:=pv) Xh ?_;refine cA (λh2=>?_) (λh2=>?_)
   ·rw[zzd ⟨hm,by omega⟩]at ht
    refine Gm λb w hS=>?_;refine qY (t:=33) (n:=M.length) (xs:=M) (y:=f) (enc:=iU) hS Xr Xh Ir bIr rfl rfl (by omega) (by omega) ?_;clear hS;intro nv w hS;have h1:=dB.one hS .hd;refine Gn λw hS=>?_;refine⟨⟨i+1,by rw[ht,zza,yyc,show M.length+1-L.length=M.length-L.length+1 by omega],by omega,?_⟩,by dsimp only;omega⟩;rw[ht];refine gJ.iff.2 ⟨nv,?_⟩;rw[show (M++[f]).length=M.length+1 by simp];exact aR hS
   rw[zzb (λh=>h2 (by omega))]at ht
   refine Gp ?_;refine⟨⟨i+1,by rw[ht],by omega,?_⟩,by dsimp only;omega⟩;rw[ht];exact gJ.iff.2 ⟨pv,aR hS⟩
  rw[zzb (λh=>by rw[hm]at h;exact Bool.false_ne_true h.1)]at ht
  refine Gp ?_;refine⟨⟨i+1,by rw[ht],by omega,?_⟩,by dsimp only;omega⟩;rw[ht];exact aR hS
 have:i=l.length:=by omega
 subst this;rw[zz0]at *
 (exact cF hS)
def bWa(p:Nat):SP 339 [Δ p] [.ob (gJ p [])] (cE (.tuple #[agg (iU ⟨0,0⟩),.bool false]) [.ob (gJ p [])]):=by
 refine Enzz λW F w hS=>?_;apply ai4;delta aI bW c_ ai;obtain⟨v,hS⟩:=gJ.iff.1 hS;refine Gm λb w hS=>?_;refine zO hS (v:=v) Xh ?_;refine Gp ?_;refine za (λh=>?_) (λh=>absurd rfl h);refine Gn λw hS=>?_;exact⟨_,⟨rfl,rfl⟩,gJ.iff.2 ⟨v,aR hS⟩⟩
def bR9(p:Nat)(f:fZ)(r:List fZ)(hr:r.length<=1024):SP 339 [Δ p] [.ob (gJ p (f::r))] (cE (.tuple #[agg (iU f),.bool true]) [.ob (gJ p r)]):=by
 refine Enzz λW F w hS=>?_;apply ai4;delta aI bW c_ ai;obtain⟨v,hS⟩:=gJ.iff.1 hS;refine Gm λb w hS=>?_;refine zO hS (v:=v) Xh ?_;refine Gp ?_;refine za (λh=>by rw[zzj]at h;omega) (λh=>?_);refine Gp ?_;refine qZ (j:=0) (k:=.i64) hS (t:=33) (v:=v) (enc:=iU) (xs:=f::r) Xh Ir rfl (by simp) ?_;refine Gm λb w hS=>?_;refine Yp (k:=1) (v:=v) (Has.front hS Xr) (by simp) λu hS=>?_;have hS:SL W (.ob (dB u 33 2 r.length (r.map iU).flatten)::_) _:=hS;have h1:=dB.one hS .hd;refine Gn λw hS=>?_;exact⟨_,⟨rfl,rfl⟩,gJ.iff.2 ⟨u,SL.cD (t:=.pt p [u] 225::.ob (dB u 33 2 r.length (r.map iU).flatten)::F) hS Xi⟩⟩
def CX(f:fZ):fZ:=if md f.kind 3=1 then ⟨2,md f.keep 300⟩ else ⟨1+md f.kind 3,0⟩
def qP(f:fZ):SP 40 [agg (iU f)] [] (cE (agg (iU (CX f))) []):=by
 refine Enzz λW F w hS=>?_;apply cR2;delta aI a_ ai;refine zu hS λb w hS=>?_;unfold iU at hS;refine Gm λb w hS=>?_;have hm:=ix f.kind 3 (by decide);refine Cg (yl f.kind 3 (by decide) (by decide)) λw hS=>?_;refine za (λh=>?_) (λh=>?_)
 ·refine Gp ?_;refine Cg (yl f.keep 300 (by decide) (by decide)) λw hS=>?_;have e:CX f=⟨2,md f.keep 300⟩:=zzd (by omega);rw[e];have e2:(1:Int)+md f.kind 3=2:=h;rw[e2]at hS ⊢
  (exact cF hS)
 refine Gn λw hS=>?_;have e:CX f=⟨1+md f.kind 3,0⟩:=zzb (by omega);rw[e];(exact cF hS)
