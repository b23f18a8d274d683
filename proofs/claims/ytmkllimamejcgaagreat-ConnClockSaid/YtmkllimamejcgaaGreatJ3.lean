/- Part of the proof. -/
import Derived.Test.YtmkllimamejcgaaGreatJ2
import Derived.Shelf.SlIterI.Nil
import Derived.Shelf.SortM.Plain
import Derived.Shelf.SortM.SortNone
import Derived.WideShapes
import Derived.Test.YtmkllimamejcgaaGreatQLay
import Derived.Test.YtmkllimamejcgaaGreatQTab
import Derived.Test.YtmkllimamejcgaaGreatQVcG
import Derived.Test.YtmkllimamejcgaaGreatQVcS
namespace Go.Proofs.YtmkllimamejcgaaGreat
set_option linter.all false
open Go.RowKit Go.Maps Go.Sort Go.Shelf
def yyu:=@congrArg
def xxs:=@List.map_map
def uui:=@callsIn_wide
def yym:=@List.length_filter_le
def yyj:=@List.pairwise_cons
def vvc:=@List.filter_cons_of_pos
def vvf:=@List.filter_eq_nil_iff
def vvd:=@List.filter_cons_of_neg
def zzg:=@List.getElem_mem
def xxk:=@List.pairwise_iff_getElem
def yy9:=@List.mem_of_getElem?
def yy5:=@List.mem_iff_getElem
def xxc:=@List.set_eq_take_append_cons_drop
def yyh:=@List.length_set
def xxi:=@List.getElem_set
def uuj:=@List.getElem_take
def zz1:=@List.mem_append
def wwq:=@List.pairwise_map
def uu8:=@List.Pairwise.imp
def vvg:=@List.getElem_cons_zero
def yy2:=@List.filter_eq_self
def uuf:=@List.eraseIdx_cons_succ
def zzn:=@List.length_map
def wwr:=@List.getElem?_map
def yyo:=@List.mem_of_mem_take
def vvt:=@List.mem_of_mem_drop
def vva:=@List.mem_of_mem_eraseIdx
def wwu:=@List.nodup_cons
def ww8:=@if_true
def uu9:=@Option.some.injEq
def uuk:=@true_and
def vvo:=@if_false
def vvq:=@List.perm_append_comm
def vvh:=@List.map_set
def uul:=@List.ext_getElem?
def zzy:=@decide_eq_true_eq
def vvi:=@Nat.mod_lt
def zz4:=@Nat.zero_le
def yyy:=@Nat.le_trans
def yyd:=@Int.le_refl
def ttm:=@enters_of
def yyv:=@Tryz.underlying2
def yyc:=@Tryz.underlying3
def ww6:=@Int.emod_nonneg
def vv9:=@Int.emod_lt_of_pos
def wwz:=@IntKind.wrap_u64
def zzu:=@List.cons_append
def zzq:=@List.nil_append
def wwh:=@Tryz.underlying166
def vvp:=@Option.map_none
def ww0:=@Option.getD_none
def yyf:=@Option.map_some
def xxd:=@Option.getD_some
def wwn:=@List.set_append_left
def vvr:=@List.set_append_right
def yyp:=@List.length_nil
def zz7:=@List.length_singleton
def vvu:=@Int.fdiv_eq_ediv_of_nonneg
def vvv:=@List.getD_eq_getElem?_getD
def uua:=@List.getElem?_take
def wwo:=@List.drop_left
def wwp:=@List.take_left
def zzx:=@List.append_nil
def wws:=@List.foldl_append
def xx4:=@List.foldl_cons
def ttj:=@List.foldl_nil
def uu1:=@List.take_zero
def wwi:=@Nat.not_lt
def xxu:=@List.mem_of_getLast?
def wwl:=@List.getElem_append_left
def vvj:=@List.getElem_cons_succ
def yy6:=@List.getLast?_concat
def xxa:=@List.take_append_of_le_length
def zz2:=@List.take_of_length_le
def zzs:=@List.map_append
def yy4:=@List.map_nil
def wwa:=@List.mem_append_left
def ttf:=@List.isEmpty_nil
def ttk:=@List.take_take
def xxn:=@Nat.min_eq_left
def zzw:=@Int.toNat_natCast
def xxx:=@Nat.lt_or_ge
def zz3:=@List.mem_singleton
def uu2:=@List.mapIdx_append
def xxp:=@List.ext_getElem
def vv3:=@List.getElem_mapIdx
def xx2:=@List.length_pos_iff
def vvk:=@List.append_eq_nil_iff
def vv4:=@List.mem_map_of_mem
def zzz:=@decide_eq_false
def uug:=@List.getLast?_cons_cons
def yy0:=@List.filter_append
def xxo:=@List.find?_cons
def vv2:=@List.mem_or_eq_of_mem_set
def zz9:=@Bool.and_eq_true
def yyg:=@decide_eq_decide
def pX{α:Type}(m:List (Int × α)):Ω:=(m.map (·.1)).mergeSort (λx y=>decide (x<=y))
section
variable {W w:Ζ} {l:Β} {P:Program} {ρ σ:Ren} {b:Nat} {α:Type} {val:α->Ε} {m:List (Int × α)}
def SL.kept{w':Ζ}(h:SL W l w)(hb:Below w.heap.size w w'):SL W l w':=by
 obtain⟨a1,a2,a3,k,s,x⟩:=h;refine⟨hb.os.trans a1,hb.tape.trans a2,hb.output.trans a3,k,s,λb o e=>?_⟩;have e1:=x b o e;rw[hb.block b (xxh.1 e1).1];exact e1
def SL.bW0{w':Ζ}{g:Nat}{cs:Ξ}{t:Ι}(h:SL W l w)(hb:Below w.heap.size w w')(hg:w.heap.size<=g)(he:w'.heap[g]?=some (.cells cs.toArray t (0,0))):SL W (.pt g cs t::l) w':=by
 obtain⟨a1,a2,a3,k,s,x⟩:=h;have hk:k g=none:=by
  cases hx:k g with
  | none=>rfl
  | some y=>have:=(xxh.1 (x g y hx)).1;omega
 refine⟨hb.os.trans a1,hb.tape.trans a2,hb.output.trans a3,λy=>if y=g then some (.cells cs.toArray t (0,0)) else k y,⟨bw.one g (.cells cs.toArray t (0,0)),k,λy=>?_,⟨(0,0),.inl rfl,rfl⟩,s⟩,λy o e=>?_⟩
 ·by_cases hy:y=g
  ·subst hy;exact .inr ⟨hk,by simp[bw.one]⟩
  exact .inl ⟨by simp[bw.one,hy],by simp[hy]⟩
 by_cases hy:y=g
 ·subst hy;simp at e;rw[he,e]
 simp[hy]at e
 have e1:=x y o e;rw[hb.block y (xxh.1 e1).1];exact e1
def SL.bW1{w':Ζ}{v:Ε}{n:Nat}{t:Ι}{xs:Ξ}(h:SL W l w)(hb:Below w.heap.size w w')(hr:w'.ownsRow w.heap.size t 1 v n xs):SL W (.ob (bI v t 1 n xs)::l) w':=by
 obtain⟨hx,h2⟩:=hr;rcases h2 with ⟨rfl,rfl⟩|⟨g,cap,cur,rfl,hg,he,h3,h4,h5,h6⟩
 ·obtain rfl:xs=[]:=zzp (by simpa using hx);exact bI.nil (h.kept hb)
 refine bI.mk (rest:=cur.toList.drop (n*1)) h3 hx ?_ (h.bW0 hb hg ?_)
 ·rw[zzr,Array.length_toList,h5,wwg]
 rw[<- h6,yyl];exact he
def b_r{H:Type}{kt:Ι}(IG:P.underlying kt=some (.int .i64))(hS:SL W l w)(hm:Has (.ob (eC (Value.int .i64) val b m)) l)(hlen:m.length<=maxLen)(xD:∀p∈m,(Lit.int .i64 p.1).wf=true):
  ∃D:DataW H,w.ownsMap P kt (λ_=>some (.nil,[])) b m.length D/\(intKeys D).Perm (m.map (·.1))/\Maps.size D=m.length:=by
 obtain⟨es,c,e1,e2,hb⟩:=hS.xJ hm;have hl:es.length=m.length:=by simpa using yyu List.length e1
 have xg:∀x∈es,∃p∈m,x.key= .int .i64 p.1:=λx hx=>by
  have:kv x∈es.map kv:=zzv.2 ⟨x,hx,rfl⟩;rw[e1]at this
  obtain⟨p,hp,hq⟩:=zzv.1 this;exact⟨p,hp,(Prod.mk.inj hq).1.symm⟩
 have dH:∀x∈es,∀a,x.key= .int .i64 a->WideElems.rd P kt (λ_=>some ((.nil:DataW H),[])) x=some (.int .i64 a,.nil):=λx hx a ha=>by
  obtain⟨p,hp,hq⟩:=xg x hx;rw[ha]at hq;cases hq
  have hw:=xD p hp;simp[WideElems.rd,keyOf,IG,mapKey,ha,hw]
 refine⟨_,⟨es.toArray,c,hb,⟨by simpa [hl] using hlen,e2,λx hx=>?_⟩,by simp[hl],rfl⟩,?_,?_⟩
 ·obtain⟨p,hp,hq⟩:=xg x (by simpa using hx);exact⟨_,dH x (by simpa using hx) _ hq⟩
 ·show (List.map (λp:Lit × DataW H=>Go.intOf p.1) _).Perm _;refine ((WideShapes.sorted_perm _).map _).trans ?_;rw[xxs];have:es.map ((λp:Lit × DataW H=>Go.intOf p.1)∘WideElems.rg P kt (λ_=>some ((.nil:DataW H),[])))=m.map (·.1):=by
   have h1:es.map ((λp:Lit × DataW H=>Go.intOf p.1)∘WideElems.rg P kt (λ_=>some ((.nil:DataW H),[])))=(es.map kv).map λq=>match q.1 with | .int _ a=>a|_=>0:=by
    rw[xxs];refine List.map_congr_left λx hx=>?_;obtain⟨p,hp,hq⟩:=xg x hx;simp[WideElems.rg_of (dH x hx _ hq),kv,hq,Go.intOf]
   rw[h1,e1,xxs];rfl
  simpa using this▸List.Perm.refl _
 rw[Maps.size_eq,(WideShapes.sorted_perm _).length_eq];simp[hl]
def U2(L7:SlLaysZI.n7 P ρ)(L6:SlLaysZI.n6 P σ)(bU8:∀m,AnyZI.SortsIn P σ Fence.wide m)(e9:∀args w,(callFunc (σ.f 9) args).run P w= .ok (.enter (σ.f 9) args) w)(e10:∀args w,(callFunc (ρ.f 10) args).run P w= .ok (.enter (ρ.f 10) args) w)
  (IG:P.underlying (ρ.t 26)=some (.int .i64)) (hS:SL W l w) (hm:Has (.ob (eC (Value.int .i64) val b m)) l) (hlen:m.length*8<=140737488355328) (xD:∀p∈m,(Lit.int .i64 p.1).wf=true) {K:Ε->Ζ->Prop}
  (h:∀v w',SL W (.ob (bI v (σ.t 26) 1 m.length ((pX m).map (Value.int .i64)))::l) w'->K v w') :
  zQ P (ρ.f 7) [.map (some b)] w λv1 w1=>zQ P (σ.f 6) [v1] w1 K:=by
 obtain⟨D,T4,CZ,fS⟩:=b_r (H:=Unit) IG hS hm (by unfold maxLen;omega) xD;refine (uui (n:=5)).1 ((AnyZI.keys_in L7 Fence.wide 5 trivial rfl (some b) w).mono ?_);rintro e w1 ⟨rfl,rfl⟩;refine⟨_,rfl,?_⟩;have pK:=T4.lt;have I7:SeqGives Fence.wide 2 P (ρ.f 10) #[.pointer (some ⟨w.heap.size,0,none⟩)] encZ (λss=>ss.Perm (intKeys D)) (Maps.size D) (w.alloc (.cells #[.map (some b)] (ρ.t 23))):=
  AnyZI.keys_gives (ρ:=ρ) {L7 with} Fence.wide _ trivial rfl (by omega) w.heap.size b m.length D _ (by simp) (by simp) (by
   obtain⟨es,clock,hb,Ft,hs,hD⟩:=T4;exact⟨es,clock,(Below.heap_alloc _ _ b pK).trans hb,Ft,hs,hD⟩)
 have cS:=AnyZI.sorted_in L6 Fence.wide 5 trivial trivial trivial trivial rfl (by omega) (bU8 _) e9 (ρ.f 10) #[.pointer (some ⟨w.heap.size,0,none⟩)] trivial e10 _ _ (by rw[fS];unfold maxLen;omega) (by rw[fS];exact hlen) _ I7;refine (uui (n:=5)).1 (cS.mono ?_);rintro e w' ⟨v,ss,rfl,A2,rl,IT,hb⟩;refine⟨v,rfl,h v w' ?_⟩;have hp:=A2.trans CZ;have bUd:ss.length=m.length:=by simpa using hp.length_eq
 have mV:ss.mergeSort (λx y=>decide (x<=y))=pX m:=mergeSort_of_perm_i hp;rw[bUd,mV]at rl
 have mP:Below w.heap.size w w':=((Below.refl _ w).alloc (zzi _) _).trans (hb.mono (by simp));exact hS.bW1 mP (ownsRow_base_a rl (by simp))
end
section
variable {α:Type} (key:α->Int)
def fE(L:List α):Prop:=L.Pairwise λa b=>key a<key b
def fk(L:List α)(k:Int):Nat:=(L.filter λx=>decide (key x<k)).length
variable {key}
def En(L:List α)(k:Int):fk key L k<=L.length:=yym _ _
def Ht{L:List α}(hs:fE key L)(k:Int):∀j (h:j<L.length),key L[j]<k↔j<fk key L k:=by
 unfold fE at hs;unfold fk;induction L with
 | nil=>intro j h;simp at h
 | cons x L ih=>
  rw[yyj]at hs
  intro j h;by_cases hx:key x<k
  ·rw[vvc (by simpa using hx)];cases j with
   | zero=>simp[hx]
   | succ j=>simpa using ih hs.2 j (by simpa using h)
  have e:L.filter (λr=>decide (key r<k))=[]:=by
   rw[vvf];intro y hy;have:=hs.1 y hy;simp;omega
  rw[vvd (by simpa using hx),e];cases j with
  | zero=>simpa using hx
  | succ j=>
   have hm:L[j]'(by simpa using h)∈L:=zzg _;have:=hs.1 _ hm;simp;omega
def aRk{L:List α}(hs:fE key L)(k:Int){i:Nat}(hi:i<=L.length)(h1:∀j (h:j<L.length),j<i->key L[j]<k)(h2:∀h:i<L.length,¬key L[i]<k):fk key L k=i:=by
 have hle:=En (key:=key) L k;rcases Nat.lt_trichotomy (fk key L k) i with h|h|h
 ·have:=(Ht hs k _ (by omega)).1 (h1 (fk key L k) (by omega) h);omega
 ·exact h
 have:=h2 (by omega);have h3:=(Ht hs k i (by omega)).2 h;exact absurd h3 this
def B9{L:List α}(hs:fE key L){k:Int}{j:Nat}(hj:j<L.length)(h:key L[j]=k):fk key L k=j:=by
 refine aRk hs k (by omega) (λi hi sq=>?_) (λ_=>by omega);have:=xxk.1 hs i j hi hj sq;omega
def ix(key:α->Int)(L:List α)(k:Int):Bool:=match L[fk key L k]? with
 | some x=>decide (key x=k)
 | none=>false
def xF{L:List α}(hs:fE key L){k:Int}:ix key L k=true↔∃x∈L,key x=k:=by
 unfold ix;constructor
 ·intro h;split at h
  ·rename_i x e;exact⟨x,yy9 e,zzm h⟩
  cases h
 rintro ⟨x,hx,rfl⟩;obtain⟨j,hj,rfl⟩:=yy5.1 hx;rw[B9 hs hj rfl,zzd hj];simp
def tE{L:List α}{k:Int}(h:ix key L k=true):∃hl:fk key L k<L.length,key L[fk key L k]=k:=by
 unfold ix at h;split at h
 ·rename_i x e;obtain⟨hl,rfl⟩:=zzj.1 e;exact⟨hl,zzm h⟩
 cases h
def Jp{L:List α}(hs:fE key L){k:Int}(h:ix key L k=false):∀x∈L,key x≠k:=λx hx e=>by
 have:=(xF hs).2 ⟨x,hx,e⟩;rw[h]at this;cases this
def dJ(key:α->Int)(L:List α)(k:Int):Option α:=if ix key L k then L[fk key L k]? else none
def fU(key:α->Int)(L:List α)(x:α):List α:=L.take (fk key L (key x))++[x]++L.drop (if ix key L (key x) then fk key L (key x)+1 else fk key L (key x))
def jA(key:α->Int)(L:List α)(k:Int):List α:=if ix key L k then L.eraseIdx (fk key L k) else L
def F1{L:List α}{x:α}(h:ix key L (key x)=true):fU key L x=L.set (fk key L (key x)) x:=by
 obtain⟨hl,_⟩:=tE h;unfold fU;rw[zzc h,xxc,zzc hl];simp
def uh{L:List α}{k:Int}{x:α}(h:dJ key L k=some x):x∈L/\key x=k:=by
 unfold dJ at h;split at h
 ·rename_i hi;obtain⟨hl,e⟩:=tE hi;rw[zzd hl]at h
  cases h;exact⟨zzg hl,e⟩
 cases h
def s8{L:List α}(hs:fE key L){x:α}(h:x∈L):dJ key L (key x)=some x:=by
 unfold dJ;rw[zzc ((xF hs).2 ⟨x,h,rfl⟩)];obtain⟨j,hj,rfl⟩:=yy5.1 h;rw[B9 hs hj rfl,zzd hj]
def HV{L:List α}(hs:fE key L){k:Int}:dJ key L k=none↔∀x∈L,key x≠k:=by
 constructor
 ·intro h x hx e;subst e;rw[s8 hs hx]at h;cases h
 intro h;cases hg:dJ key L k with
 | none=>rfl
 | some x=>obtain⟨h1,h2⟩:=uh hg;exact absurd h2 (h x h1)
def W6{L:List α}(hs:fE key L){i:Nat}(hi:i<L.length){x:α}(hx:key x=key L[i]):fE key (L.set i x):=by
 unfold fE at *
 rw[xxk]at *
 intro a b ha hb pJ;rw[yyh]at ha hb
 rw[xxi,xxi];have h1:=hs a b ha hb pJ;split<;>split
 ·omega
 ·rename_i e _;subst e;omega
 ·rename_i e;subst e;omega
 exact h1
def J'{L:List α}(hs:fE key L){x:α}(h:ix key L (key x)=false):(fU key L x).Perm (x::L):=by
 unfold fU;rw[zzb (by rw[h];decide)];have:L=L.take (fk key L (key x))++L.drop (fk key L (key x)):=by simp
 conv=>rhs;rw[this]
 rw[zzk];exact vvz
def F3{L:List α}(hs:fE key L)(x:α):fE key (fU key L x):=by
 cases h:ix key L (key x) with
 | true=>
  rw[F1 h];obtain⟨hl,e⟩:=tE h;exact W6 hs hl e.symm
 | false=>
  have hn:=Jp hs h;unfold fU;rw[zzb (by rw[h];decide)];have dd:=Ht hs (key x);have hle:=En (key:=key) L (key x);unfold fE at *
  rw[zzk,List.pairwise_append];refine⟨hs.sublist (List.take_sublist _ _),?_,λa ha b hb=>?_⟩
  ·rw[List.singleton_append,yyj];refine⟨λb hb=>?_,hs.sublist (List.drop_sublist _ _)⟩;obtain⟨j,hj,rfl⟩:=yy5.1 hb;rw[List.getElem_drop];have oh:fk key L (key x)+j<L.length:=by simp at hj;omega
   have h1:=(not_congr (dd _ oh)).2 (by omega);have h2:=hn _ (zzg oh);omega
  obtain⟨j,hj,rfl⟩:=yy5.1 ha;rw[uuj];have oh:j<fk key L (key x)/\j<L.length:=by simp at hj;omega
  have h1:=(dd j oh.2).2 oh.1;rcases zz1.1 hb with hb|hb
  ·simp at hb;subst hb;exact h1
  obtain⟨i,hi,rfl⟩:=yy5.1 hb;rw[List.getElem_drop];have l8:fk key L (key x)+i<L.length:=by simp at hi;omega
  have h3:=(not_congr (dd _ l8)).2 (by omega);omega
def RP{L:List α}(hs:fE key L)(k:Int):fE key (jA key L k):=by
 unfold jA;split
 ·exact hs.sublist (List.eraseIdx_sublist _ _)
 exact hs
def bZc{L:List α}(hs:fE key L):(L.map key).Nodup:=by
 refine wwq.2 (uu8 (R:=λa b=>key a<key b) (λ{a b} pJ=>?_) hs);omega
def aWw{L:List α}(hs:fE key L)(k:Int):jA key L k=L.filter λx=>decide (key x≠k):=by
 unfold jA;split
 ·rename_i h;obtain⟨hl,e⟩:=tE h;generalize fk key L k=i at *
  have lE:=hs;unfold fE at lE;clear h hs;induction L generalizing i with
  | nil=>simp at hl
  | cons y L ih=>
   rw[yyj]at lE
   cases i with
   | zero=>
    simp only[vvg]at e;rw[List.eraseIdx_cons_zero,vvd (by simp[e])];symm;rw[yy2];intro z hz;have:=lE.1 z hz;simp;omega
   | succ i=>
    have re:i<L.length:=by simpa using hl
    have e':key L[i]=k:=by simpa using e
    have:=lE.1 _ (zzg re);rw[uuf,vvc (by simp;omega),ih i re e' lE.2]
 rename_i h;have hn:=Jp hs (by simpa using h);symm;rw[yy2];intro x hx;simpa using hn x hx
def B'{β:Type}{kb:β->Int}{f:β->α}(hf:∀b,key (f b)=kb b)(L:List β)(k:Int):fk key (L.map f) k=fk kb L k:=by
 unfold fk;rw[List.filter_map,zzn];congr 2
 funext b
 simp[hf]
def Jq{β:Type}{kb:β->Int}{f:β->α}(hf:∀b,key (f b)=kb b)(L:List β)(k:Int):ix key (L.map f) k=ix kb L k:=by
 unfold ix;rw[B' hf,wwr];cases L[fk kb L k]? with
 | none=>rfl
 | some b=>simp[hf]
def cni{β:Type}{kb:β->Int}{f:β->α}(hf:∀b,key (f b)=kb b)(L:List β)(b:β):(fU kb L b).map f=fU key (L.map f) (f b):=by
 unfold fU;rw[Jq hf,B' hf,hf];simp
def Vf{α β:Type}(f:β->α):∀(L:List β) (i:Nat),(L.eraseIdx i).map f=(L.map f).eraseIdx i
 | [],_=>rfl
 | x::L,0=>rfl
 | x::L,i+1=>by simp only[uuf,zzo,Vf f L i]
def aWx{β:Type}{kb:β->Int}{f:β->α}(hf:∀b,key (f b)=kb b)(L:List β)(k:Int):(jA kb L k).map f=jA key (L.map f) k:=by
 unfold jA;rw[Jq hf,B' hf];split
 ·exact Vf f L _
 rfl
def Be{L:List α}{x y:α}(h:y∈fU key L x):y=x\/y∈L:=by
 unfold fU at h;rcases zz1.1 h with h|h
 ·rcases zz1.1 h with h|h
  ·exact .inr (yyo h)
  exact .inl (by simpa using h)
 exact .inr (vvt h)
def FR{L:List α}{k:Int}{y:α}(h:y∈jA key L k):y∈L:=by
 unfold jA at h;split at h
 ·exact vva h
 exact h
end
section
variable {α β:Type} {key:α->Int} {val:α->β} {m:List (Int × β)} {L:List α}
def kh(key:α->Int)(val:α->β)(m:List (Int × β))(L:List α):Prop:=m.Perm (L.map λx=>(key x,val x))/\fE key L
def kh.nodup(h:kh key val m L):(m.map (·.1)).Nodup:=by
 have:=h.1.map (·.1);rw[xxs]at this
 exact this.nodup_iff.2 (bZc h.2)
def Vu(hn:(m.map (·.1)).Nodup)(k:Int)(v:β):fK m k=some v↔(k,v)∈m:=by
 induction m with
 | nil=>simp[fK]
 | cons p m ih=>
  rw[zzo,wwu]at hn
  obtain⟨a,b⟩:=p;by_cases ha:a=k
  ·subst ha;simp only[fK,ww8,uu9,zz8,wwy,uuk];constructor
   ·rintro rfl;exact .inl rfl
   rintro (h|h)
   ·exact h.symm
   exact absurd (zzv.2 ⟨_,h,rfl⟩) hn.1
  have Jl:=ih hn.2;have dO:¬(k=a):=λe=>ha e.symm;simp only[fK,ha,vvo,Jl,zz8,wwy,dO,false_and,false_or]
def kh.get(h:kh key val m L)(k:Int):fK m k=(dJ key L k).map val:=by
 cases hg:dJ key L k with
 | some x=>
  obtain⟨hx,rfl⟩:=uh hg;exact (Vu h.nodup _ _).2 (h.1.symm.subset (zzv.2 ⟨x,hx,rfl⟩))
 | none=>
  cases hm:fK m k with
  | none=>rfl
  | some v=>
   obtain⟨x,hx,e⟩:=zzv.1 (h.1.subset ((Vu h.nodup _ _).1 hm));cases e;exact absurd rfl ((HV h.2).1 hg x hx)
def bYj(hn:(m.map (·.1)).Nodup)(k:Int):rA m k=m.filter λp=>decide (p.1≠k):=by
 induction m with
 | nil=>rfl
 | cons p m ih=>
  rw[zzo,wwu]at hn
  unfold rA;split
  ·rename_i e;rw[vvd (by simp[e])];symm;rw[yy2];intro q hq;have:q.1≠p.1:=λe2=>hn.1 (by rw[<- e2];exact zzv.2 ⟨q,hq,rfl⟩);simp;omega
  rename_i e;rw[vvc (by simpa using e),ih hn.2]
def kh.del(h:kh key val m L)(k:Int):kh key val (rA m k) (jA key L k):=by
 refine⟨?_,RP h.2 k⟩;rw[bYj h.nodup,aWw h.2];have:=h.1.filter λp=>decide (p.1≠k)
 rwa [List.filter_map]at this
def bY0{k:Int}(hn:fK m k=none)(v:β):gD m k v=m++[(k,v)]:=by
 induction m with
 | nil=>rfl
 | cons p m ih=>
  unfold fK at hn;split at hn
  ·cases hn
  rename_i e;unfold gD;rw[zzb e,ih hn];rfl
def kh.add(h:kh key val m L){x:α}(hn:ix key L (key x)=false):kh key val (gD m (key x) (val x)) (fU key L x):=by
 refine⟨?_,F3 h.2 x⟩;have hg:dJ key L (key x)=none:=(HV h.2).2 (Jp h.2 hn);rw[bY0 (by rw[h.get,hg];rfl)];have h1:=(J' h.2 hn).map λx=>(key x,val x);refine (vvq.trans ?_).trans h1.symm;rw[zzo];exact h.1.cons _
def kh.rK(h:kh key val m L){i:Nat}(hi:i<L.length){x:α}(h1:key x=key L[i])(h2:val x=val L[i]):kh key val m (L.set i x):=by
 refine⟨?_,W6 h.2 hi h1⟩;have e:(L.set i x).map (λx=>(key x,val x))=L.map λx=>(key x,val x):=by
  rw[vvh,h1,h2];refine uul λj=>?_;rw[List.getElem?_set];split
  ·rename_i sq;subst sq;rw[zzc (by simpa using hi),wwr,zzd hi];rfl
  rfl
 rw[e];exact h.1
def kh.pX(h:kh key val m L):pX m=L.map key:=by
 have hp:(m.map (·.1)).Perm (L.map key):=by
  have:=h.1.map (·.1)
  rwa [xxs]at this
 have e:YtmkllimamejcgaaGreat.pX m=(L.map key).mergeSort (λx y=>decide (x<=y)):=Go.mergeSort_of_perm_i hp;rw[e];refine List.mergeSort_of_pairwise ?_;refine wwq.2 (uu8 (R:=λa b:α=>key a<key b) (λ{a b} pJ=>?_) h.2);simp only[zzy];omega
def kh.len(h:kh key val m L):m.length=L.length:=by simpa using h.1.length_eq
def kh.nil:kh key val [] []:=⟨.refl _,.nil⟩
end
structure PF where
 id:Int
 safe:Nat
 b:Φ
def cX(x:Κ):Ε:=.int .u8 (x.toNat:Int)
structure DS where
 R:List PF
 off:Bool
 arm:Int
 ops:Nat
def xQ(f:Int):PF:=⟨f,0,[]⟩
def kH(R:List PF)(f:Int)(b:Φ):List PF:=fU PF.id R ⟨f,((dJ PF.id R f).getD (xQ f)).safe,((dJ PF.id R f).getD (xQ f)).b++b⟩
def ka(R:List PF)(f:Int)(g:PF->PF):List PF:=match dJ PF.id R f with
 | some x=>fU PF.id R {g x with id:=f}
 | none=>R
def may(s:DS)(f:Int):Int:=if s.off=true then 8 else if f<0\/16384<=f then 1 else 0
def DS.cE(s:DS):DS:={s with off:=decide (s.arm=1),arm:=if 0<s.arm then s.arm-1 else s.arm,ops:=s.ops+1}
def DS.err(s:DS):Int:=if s.off=true then 8 else 0
def DS.find(s:DS)(f:Int):Int:=if may s f≠0 then may s f else if ix PF.id s.R f=true then 0 else 5
def DS.append(s:DS)(f:Int)(b:Φ):DS × Int:=if may s f≠0 then (s,may s f) else ({s.cE with R:=kH s.R f b},s.cE.err)
def DS.sync(s:DS)(f:Int):DS × Int:=if s.find f≠0 then (s,s.find f) else if s.cE.off=true then (s.cE,8) else ({s.cE with R:=ka s.R f λx=>{x with safe:=x.b.length}},0)
def gf(R:List PF)(f:Int):Int:=match dJ PF.id R f with
 | some x=>x.b.length
 | none=>-1
def jd(n:Nat)(x:PF):PF:={x with b:=x.b.take n,safe:=min x.safe n}
def DS.cut(s:DS)(f n:Int):DS × Int:=if s.find f≠0 then (s,s.find f) else if n<0\/gf s.R f<n then (s,1) else if s.cE.off=true then (s.cE,8) else ({s.cE with R:=ka s.R f (jd n.toNat)},0)
def DS.remove(s:DS)(f:Int):DS × Int:=if s.find f≠0 then (s,s.find f) else if s.cE.off=true then (s.cE,8) else ({s.cE with R:=jA PF.id s.R f},0)
def DS.p5(s:DS)(n:Int):DS:={s with arm:=max n 0}
def jO(keep:Ω)(i:Nat)(x:PF):Nat:=match keep[i]? with
 | some k=>if 0<k then k.toNat % (x.b.length-x.safe+1) else 0
 | none=>0
def iV(keep:Ω)(i:Nat)(x:PF):PF:=⟨x.id,min (x.safe+jO keep i x) x.b.length,x.b.take (x.safe+jO keep i x)⟩
def eT(R:List PF)(keep:Ω):List PF:=R.mapIdx (iV keep)
def DS.eD(s:DS)(keep:Ω):DS:={s with R:=eT s.R keep,off:=false,arm:=0}
structure DS.Ok(s:DS)(N:Nat):Prop where
 sorted:fE PF.id s.R
 ids:∀x∈s.R,0<=x.id/\x.id<16384
 safe:∀x∈s.R,x.safe<=x.b.length
 len:∀x∈s.R,x.b.length<=N
 px:0<=s.arm
 p4:s.arm<=9223372036854775807
def xN{keep:Ω}{i:Nat}{x:PF}(h:x.safe<=x.b.length):x.safe+jO keep i x<=x.b.length:=by
 unfold jO;split
 ·split
  ·have:=vvi (Int.toNat ‹Int›) (show 0<x.b.length-x.safe+1 by omega);omega
  omega
 omega
def B_{keep:Ω}{i:Nat}{x:PF}(h:x.safe<=x.b.length):(iV keep i x).b.length=x.safe+jO keep i x:=by
 have:=xN (keep:=keep) (i:=i) h;simp[iV];omega
def Ep{keep:Ω}{i:Nat}{x:PF}(h:x.safe<=x.b.length):(iV keep i x).safe=x.safe+jO keep i x:=by
 have:=xN (keep:=keep) (i:=i) h;simp[iV];omega
def FT{R:List PF}{f:Int}{g:PF->PF}{y:PF}(h:y∈ka R f g):y∈R\/∃x∈R,x.id=f/\y={g x with id:=f}:=by
 unfold ka at h;split at h
 ·rename_i x e;obtain⟨h1,h2⟩:=uh e;rcases Be h with h|h
  ·exact .inr ⟨x,h1,h2,h⟩
  exact .inl h
 exact .inl h
def SE{R:List PF}{f:Int}{N:Nat}(h:∀x∈R,x.b.length<=N):((dJ PF.id R f).getD (xQ f)).b.length<=N:=by
 cases e:dJ PF.id R f with
 | none=>exact zz4 _
 | some x=>exact h x (uh e).1
def bFv{R:List PF}{f:Int}(h:∀x∈R,x.safe<=x.b.length):((dJ PF.id R f).getD (xQ f)).safe<=((dJ PF.id R f).getD (xQ f)).b.length:=by
 cases e:dJ PF.id R f with
 | none=>exact zz4 _
 | some x=>exact h x (uh e).1
def DS.Ok.mono{s:DS}{N M:Nat}(h:s.Ok N)(hm:N<=M):s.Ok M:=⟨h.sorted,h.ids,h.safe,λx hx=>yyy (h.len x hx) hm,h.px,h.p4⟩
def DS.Ok.cE{s:DS}{N:Nat}(h:s.Ok N):s.cE.Ok N:=by
 have h0:=h.px;have h1:=h.p4;refine⟨h.sorted,h.ids,h.safe,h.len,?_,?_⟩<;>simp only[DS.cE]<;>split<;>omega
def DS.Ok.KQ{s:DS}{N:Nat}(h:s.Ok N){R:List PF}(h1:fE PF.id R)(h2:∀x∈R,0<=x.id/\x.id<16384)(h3:∀x∈R,x.safe<=x.b.length)(h4:∀x∈R,x.b.length<=N):({s with R:=R}:DS).Ok N:=
 ⟨h1,h2,h3,h4,h.px,h.p4⟩
def Dm{s:DS}{f:Int}(h:may s f=0):s.off=false/\0<=f/\f<16384:=by
 unfold may at h;split at h
 ·cases h
 split at h
 ·cases h
 rename_i h1 h2;refine⟨by simpa using h1,by omega,by omega⟩
def DS.Ok.append{s:DS}{N:Nat}(h:s.Ok N)(f:Int)(b:Φ):(s.append f b).1.Ok (N+b.length):=by
 unfold DS.append;split
 ·exact h.mono (by omega)
 rename_i hm;have hm:may s f=0:=by simpa using hm
 obtain⟨_,f0,f1⟩:=Dm hm;have hl:=SE (f:=f) h.len;have hs:=bFv (f:=f) h.safe;refine (h.cE.mono (Nat.le_add_right N b.length)).KQ (F3 h.sorted _) ?_ ?_ ?_
 ·intro x hx;rcases Be hx with rfl|hx
  ·exact⟨f0,f1⟩
  exact h.ids x hx
 ·intro x hx;rcases Be hx with rfl|hx
  ·simp only[zza];omega
  exact h.safe x hx
 intro x hx;rcases Be hx with rfl|hx
 ·simp only[zza];omega
 have:=h.len x hx;omega
def cCp{R:List PF}(h:fE PF.id R)(f:Int)(g:PF->PF):fE PF.id (ka R f g):=by
 unfold ka;split
 ·exact F3 h _
 exact h
def DS.Ok.rK{s:DS}{N:Nat}(h:s.Ok N)(f:Int)(g:PF->PF)(h1:∀x,x.safe<=x.b.length->(g x).safe<=(g x).b.length)(h2:∀x,(g x).b.length<=x.b.length):({s.cE with R:=ka s.R f g}:DS).Ok N:=by
 refine h.cE.KQ (cCp h.sorted f g) ?_ ?_ ?_
 ·intro x hx;rcases FT hx with hx|⟨y,hy,rfl,rfl⟩
  ·exact h.ids x hx
  exact h.ids y hy
 ·intro x hx;rcases FT hx with hx|⟨y,hy,rfl,rfl⟩
  ·exact h.safe x hx
  exact h1 y (h.safe y hy)
 intro x hx;rcases FT hx with hx|⟨y,hy,rfl,rfl⟩
 ·exact h.len x hx
 exact yyy (h2 y) (h.len y hy)
def DS.Ok.sync{s:DS}{N:Nat}(h:s.Ok N)(f:Int):(s.sync f).1.Ok N:=by
 unfold DS.sync;split
 ·exact h
 split
 ·exact h.cE
 exact h.rK f _ (λx _=>zzi _) (λx=>zzi _)
def DS.Ok.cut{s:DS}{N:Nat}(h:s.Ok N)(f n:Int):(s.cut f n).1.Ok N:=by
 unfold DS.cut;split
 ·exact h
 split
 ·exact h
 split
 ·exact h.cE
 exact h.rK f _ (λx hx=>by simp only[jd,zzf];omega) (λx=>by simp only[jd,zzf];omega)
def DS.Ok.remove{s:DS}{N:Nat}(h:s.Ok N)(f:Int):(s.remove f).1.Ok N:=by
 unfold DS.remove;split
 ·exact h
 split
 ·exact h.cE
 exact h.cE.KQ (RP h.sorted _) (λx hx=>h.ids x (FR hx)) (λx hx=>h.safe x (FR hx)) (λx hx=>h.len x (FR hx))
def DS.Ok.eD{s:DS}{N:Nat}(h:s.Ok N)(keep:Ω):(s.eD keep).Ok N:=by
 have hm:∀y∈eT s.R keep,∃x∈s.R,∃i,y=iV keep i x:=λy hy=>by
  obtain⟨i,hi,rfl⟩:=yy5.1 hy;unfold eT at *
  simp only[List.length_mapIdx]at hi;exact⟨s.R[i],zzg hi,i,by simp⟩
 refine⟨?_,?_,?_,?_,yyd _,by simp[DS.eD]⟩
 ·show fE PF.id (eT s.R keep);have:=h.sorted;unfold fE at *
  rw[xxk]at *
  intro i j hi hj sq;unfold eT at *
  simp only[List.length_mapIdx]at hi hj;simpa [iV] using this i j hi hj sq
 ·intro y hy;obtain⟨x,hx,i,rfl⟩:=hm y hy;exact h.ids x hx
 ·intro y hy;obtain⟨x,hx,i,rfl⟩:=hm y hy;rw[B_ (h.safe x hx),Ep (h.safe x hx)];exact zzi _
 intro y hy;obtain⟨x,hx,i,rfl⟩:=hm y hy;rw[B_ (h.safe x hx)];exact yyy (xN (h.safe x hx)) (h.len x hx)
def gK:DS:=⟨[],false,0,0⟩
def DD(N:Nat):gK.Ok N:=⟨.nil,by simp[gK],by simp[gK],by simp[gK],by simp[gK],by simp[gK]⟩
set_option maxRecDepth 100000
open Go.RowKit Go.Maps Go.Sort Go.Shelf
def cAm(m:Nat):AnyZI.SortsIn Tryz.prog W3 Fence.wide m:=
 ⟨λoK off cap ss W hH hblk fS=>uui.2 (AnyM.slices_Sort_int WY oK off cap ss W hH hblk fS),
  λp cap W=>uui.2 (AnyM.slices_Sort_int_none WY p cap W)⟩
def cAn(m:Nat):AnyZI.SortsIn Tryz.prog W4 Fence.wide m:=
 ⟨λoK off cap ss W hH hblk fS=>uui.2 (AnyM.slices_Sort_int WZ oK off cap ss W hH hblk fS),
  λp cap W=>uui.2 (AnyM.slices_Sort_int_none WZ p cap W)⟩
section
variable {W w:Ζ} {l:Β} {b:Nat} {α:Type} {val:α->Ε} {m:List (Int × α)}
def cx1(hS:SL W l w)(hm:Has (.ob (eC (Value.int .i64) val b m)) l)(hlen:m.length*8<=140737488355328)(xD:∀p∈m,(Lit.int .i64 p.1).wf=true){K:Ε->Ζ->Prop}
  (h:∀v w',SL W (.ob (bI v 2 1 m.length ((pX m).map (Value.int .i64)))::l) w'->K v w') :
  aF 83 [.map (some b)] w λv1 w1=>aF 82 [v1] w1 K:=
 U2 bW2 cAi cAm (ttm Tryz.func132 (by kernel_rfl) rfl) (ttm Tryz.func133 (by kernel_rfl) rfl) yyv hS hm hlen xD h
def cx2(hS:SL W l w)(hm:Has (.ob (eC (Value.int .i64) val b m)) l)(hlen:m.length*8<=140737488355328)(xD:∀p∈m,(Lit.int .i64 p.1).wf=true){K:Ε->Ζ->Prop}
  (h:∀v w',SL W (.ob (bI v 3 1 m.length ((pX m).map (Value.int .i64)))::l) w'->K v w') :
  aF 254 [.map (some b)] w λv1 w1=>aF 253 [v1] w1 K:=
 U2 bW4 cAj cAn (ttm Tryz.func312 (by kernel_rfl) rfl) (ttm Tryz.func313 (by kernel_rfl) rfl) yyc hS hm hlen xD h
end
set_option maxRecDepth 100000
open Go.RowKit
abbrev SP := Spec Tryz.prog
def md(v:Int)(n:Nat):Nat:=((IntKind.u64.wrap v) % (n:Int)).toNat
def ie(v:Int)(n:Nat)(hn:0<n):md v n<n:=by
 unfold md;have h1:=ww6 (IntKind.u64.wrap v) (show (n:Int)≠0 by omega);have h2:=vv9 (IntKind.u64.wrap v) (show (0:Int)<n by omega);omega
def yl(v:Int)(n:Nat)(h1:0<n)(h2:n<=9223372036854775807):SP 15 [Γ v,Γ (n:Int)] [] (cC (Γ (md v n:Int)) []):=by
 refine Enzz λW F w hS=>?_;apply cD5;unfold LP;have hn:IntKind.u64.wrap (n:Int)=n:=by rw[wwz];omega
 have hv:0<=IntKind.u64.wrap v:=by rw[wwz];omega
 refine zW (zW ?_);rw[hn];refine ZL (by omega) ?_;have e:(IntKind.u64.wrap v).tmod (n:Int)=(md v n:Int):=by
  rw[xxt hv];unfold md;have:=ww6 (IntKind.u64.wrap v) (show (n:Int)≠0 by omega);omega
 rw[e];have:=ie v n h1;refine yz (by omega) ?_;(exact cA hS)
def zO(v:Int)(n:Nat)(h1:0<n)(h2:n<=9223372036854775807):SP 38 [Γ v,Γ (n:Int)] [] (cC (Γ (md v n:Int)) []):=by
 refine Enzz λW F w hS=>?_;apply cJd;unfold OU;have hn:IntKind.u64.wrap (n:Int)=n:=by rw[wwz];omega
 have hv:0<=IntKind.u64.wrap v:=by rw[wwz];omega
 refine zW (zW ?_);rw[hn];refine ZL (by omega) ?_;have e:(IntKind.u64.wrap v).tmod (n:Int)=(md v n:Int):=by
  rw[xxt hv];unfold md;have:=ww6 (IntKind.u64.wrap v) (show (n:Int)≠0 by omega);omega
 rw[e];have:=ie v n h1;refine yz (by omega) ?_;(exact cA hS)
section
variable {W w:Ζ} {l:Β}
def ze.perm{α:Type}{A:α->zC}{xs ys:List α}(h:SL W (.ob (ze A xs)::l) w)(p:xs.Perm ys):SL W (.ob (ze A ys)::l) w:=
 ze.iff.2 ((ze.iff.1 h).perm ((p.map _).append_right l))
def SL.rD{v:Ε}{t:Ι}{sz n:Nat}{cells:Ξ}(h:SL W l w)(m:Has (.ob (bI v t sz n cells)) l):v.oneCell'=true:=by
 obtain⟨a,cap,rfl,_⟩:=bI.at h m;rfl
def WD{t:Ι}{a:Option Addr}{n c:Nat}{K:Ε->Prop}(h:K (.bool a.isNone)):HEq (.slice t) false (.slice a n c) Θ K:=⟨a.isNone,by cases a<;>rfl,h⟩
end
def bFu{α β:Type}{key:α->Int}{kb:β->Int}{f:β->α}(hf:∀b,key (f b)=kb b)(L:List β)(k:Int):dJ key (L.map f) k=(dJ kb L k).map f:=by
 unfold dJ;rw[Jq hf,B' hf];split
 ·rw[wwr]
 rfl
def vl{α:Type}{key:α->Int}{L:List α}{k:Int}{x:α}(h:dJ key L k=some x):L[fk key L k]?=some x/\fk key L k<L.length/\key x=k:=by
 unfold dJ at h;split at h
 ·rename_i hi;obtain⟨hl,e⟩:=tE hi;refine⟨h,hl,?_⟩;rw[zzd hl]at h
  cases h;exact e
 cases h
def Cq{α:Type}{key:α->Int}{L:List α}{k:Int}:(dJ key L k).isSome=ix key L k:=by
 cases h:ix key L k with
 | true=>
  obtain⟨hl,_⟩:=tE h;unfold dJ;rw[zzc h,zzd hl];rfl
 | false=>unfold dJ;rw[zzb (by rw[h];decide)];rfl
def gj(b:Nat):Ε:=Δ b
abbrev EF:=PF × Nat
def fI(x:EF):Int:=x.1.id
def FB(x:EF):PF.id (Prod.fst x)=fI x:=rfl
abbrev KY(x:EF)(v:Ε):Β:=[.pt x.2 [v,Γ x.1.safe] 296,.ob (bI v 5 1 x.1.b.length (x.1.b.map cX))]
def eG(x:EF):zC:=jF λv:Ε=>zH True (KY x v)
def eG.iff{W w:Ζ}{x:EF}{l:Β}:SL W (.ob (eG x)::l) w↔∃v,SL W (.pt x.2 [v,Γ x.1.safe] 296::.ob (bI v 5 1 x.1.b.length (x.1.b.map cX))::l) w:=by
 unfold eG KY;simp only[SL.ex,SL.fact,zzu,zzq,uuk]
abbrev iC(mb:Nat)(s:DS):Ξ:=[.map (some mb),.bool s.off,Γ s.arm,Γ s.ops]
abbrev KX(dp:Nat)(s:DS)(mb:Nat)(m:List (Int × Nat)):Β:=[.pt dp (iC mb s) 168,.ob (eC (Value.int .i64) gj mb m)]
structure lR(m:List (Int × Nat))(L:List EF)(R:List PF):Prop where
 rel:kh fI Prod.snd m L
 eq:L.map Prod.fst=R
def bX(dp:Nat)(s:DS):zC:=jF λx:Nat × List (Int × Nat) × List EF=>zH (lR x.2.1 x.2.2 s.R) [.pt dp (iC x.1 s) 168,.ob (eC (Value.int .i64) gj x.1 x.2.1),.ob (ze eG x.2.2)]
def bX.iff{W w:Ζ}{dp:Nat}{s:DS}{l:Β}:SL W (.ob (bX dp s)::l) w↔∃mb m L,lR m L s.R/\SL W (.pt dp (iC mb s) 168::.ob (eC (Value.int .i64) gj mb m)::.ob (ze eG L)::l) w:=by
 unfold bX;simp only[SL.ex,SL.fact,zzu,zzq];exact⟨λ⟨x,h1,h2⟩=>⟨x.1,x.2.1,x.2.2,h1,h2⟩,λ⟨mb,m,L,h1,h2⟩=>⟨(mb,m,L),h1,h2⟩⟩
def lR.get{m:List (Int × Nat)}{L:List EF}{R:List PF}(h:lR m L R)(f:Int):fK m f=(dJ fI L f).map Prod.snd:=h.rel.get f
def lR.eU{m:List (Int × Nat)}{L:List EF}{R:List PF}(h:lR m L R)(f:Int):dJ PF.id R f=(dJ fI L f).map Prod.fst:=by
 rw[<- h.eq];exact bFu FB L f
def lR.len{m:List (Int × Nat)}{L:List EF}{R:List PF}(h:lR m L R):L.length=R.length:=by rw[<- h.eq,zzn]
def lR.set{m:List (Int × Nat)}{L:List EF}{R:List PF}(h:lR m L R){f:Int}{x:EF}(hx:dJ fI L f=some x){y:PF}(hy:y.id=f):lR m (L.set (fk fI L f) (y,x.2)) (fU PF.id R y):=by
 obtain⟨h1,h2,h3⟩:=vl hx;obtain⟨h4,h5⟩:=zzj.1 h1;refine⟨h.rel.rK h2 (by rw[h5,h3];exact hy) (by rw[h5]),?_⟩;have hi:ix PF.id R y.id=true:=by
  rw[<- Cq,hy,h.eU,hx];rfl
 rw[F1 hi,hy,<- h.eq,B' FB,vvh]
def lR.new{m:List (Int × Nat)}{L:List EF}{R:List PF}(h:lR m L R){f:Int}(hx:dJ fI L f=none){y:PF}(hy:y.id=f)(p:Nat):lR (gD m f p) (fU fI L (y,p)) (fU PF.id R y):=by
 have hi:ix fI L (fI (y,p))=false:=by
  rw[<- Cq,show fI (y,p)=f from hy,hx];rfl
 have:=h.rel.add (x:=(y,p)) hi;refine⟨by rw[<- hy];exact this,?_⟩;rw[<- h.eq];exact cni FB L (y,p)
def lR.del{m:List (Int × Nat)}{L:List EF}{R:List PF}(h:lR m L R)(f:Int):lR (rA m f) (jA fI L f) (jA PF.id R f):=by
 refine⟨h.rel.del f,?_⟩;rw[<- h.eq];exact aWx FB L f
def bY6:SP 40 [] [] (λv post=>∃dp:Nat,v= Δ dp/\post=[.ob (bX dp gK)]):=by
 refine Enzz λW F w hS=>?_;apply cJh;delta OY ai;refine yX rfl ?_;refine⟨_,rfl,zE (cs:=[.map (some w.heap.size),.bool false,Γ 0,Γ 0]) (SL.Jy (key:=Value.int .i64) (val:=gj) hS) ?_⟩;intro dp w' gA;refine⟨_,⟨dp,rfl,rfl⟩,bX.iff.2 ⟨w.heap.size,[],[],⟨kh.nil,rfl⟩,?_⟩⟩;have pI:SL W (.pt dp (iC w.heap.size gK) 168::.ob (eC (Value.int .i64) gj w.heap.size [])::F) w':=gA;have h2:=ze.nil (A:=eG) pI;exact SL.bZ h2 Xi
def YC(dp mb:Nat)(s:DS)(f:Int):SP 287 [Δ dp,Γ f] [.pt dp (iC mb s) 168] (cC (Γ (may s f)) [.pt dp (iC mb s) 168]):=by
 refine Enzz λW F w hS=>?_;apply cHj;delta NW aI bU ai;refine Gp ?_;unfold may;refine yU (λh=>?_) (λh=>?_)
 ·rw[zzc h];(exact cA hS)
 rw[zzb (by rw[h];decide)];refine bY (λh2=>?_) (λh2=>?_)
 ·rw[zzc (.inl h2)];(exact cA hS)
 refine bY (λh3=>?_) (λh3=>?_)
 ·rw[zzc (.inr h3)];(exact cA hS)
 rw[zzb (by omega)];(exact cA hS)
def Ck(s:DS)(m:List (Int × Nat))(f:Int):Ε:=if may s f≠0 then .tuple #[.pointer none,Γ (may s f)] else match fK m f with
 | none=>.tuple #[.pointer none,Γ 5]
 | some p=>.tuple #[gj p,Γ 0]
def y5(dp mb:Nat)(s:DS)(m:List (Int × Nat))(f:Int):SP 289 [Δ dp,Γ f] (KX dp s mb m) (cC (Ck s m f) (KX dp s mb m)):=by
 refine Enzz λW F w hS=>?_;apply cHl;delta NY aI bU ai cT;refine Cg (YC dp mb s f) λw hS=>?_;unfold Ck;refine za (λh=>?_) (λh=>?_)
 ·rw[zzc h];(exact cA hS)
 rw[zzb h];refine Gp ?_;refine yM hS Xh (o9 .i64) wwh yyc (λ_=>rfl) ?_;cases hm:fK m f with
 | none=>
  simp only[vvp,ww0];refine Yc (zq ?_);(exact cA hS)
 | some p=>
  simp only[yyf,xxd];unfold gj;refine Yc (zp ?_);(exact cA hS)
def yj(dp mb:Nat)(s:DS)(h0:s.off=false)(h1:0<=s.arm)(h2:s.arm<=9223372036854775807)(h3:s.ops<=100000):SP 288 [Δ dp] [.pt dp (iC mb s) 168]
  (cC (Γ s.cE.err) [.pt dp (iC mb s.cE) 168]):=by
 refine Enzz λW F w hS=>?_;apply cHk;delta NX aI bU cV ai;refine Gn λw hS=>?_;refine za (λh=>?_) (λh=>?_)
 ·refine Gn λw hS=>?_;have e:decide (s.arm-1=0)=decide (s.arm=1):=by congr 1;exact propext ⟨λ_=>by omega,λ_=>by omega⟩
  rw[e];rw[e]at hS
  have hS:SL W (.pt dp (iC mb s.cE) 168::F) w:=by
   simp only[iC,DS.cE,zzc h];exact hS
  unfold DS.err;refine za (λh4=>?_) (λh4=>?_)
  ·rw[zzc (by simp[DS.cE,h4])];(exact cA hS)
  rw[zzb (by simp[DS.cE,h4])];(exact cA hS)
 refine Gp ?_;have ha:¬s.arm=1:=by omega
 have hS:SL W (.pt dp (iC mb s.cE) 168::F) w:=by
  simp only[iC,DS.cE,zzb h,ha,ww7];rw[h0]at hS
  exact hS
 rw[h0];refine zp ?_;have:s.cE.err=0:=by simp[DS.err,DS.cE,ha]
 rw[this];(exact cA hS)
def HR{α:Type}{enc:α->Ξ}{n:Nat}(hn:∀x,(enc x).length=n):∀(xs:List α) (j k:Nat) (hj:j<xs.length) (x:α) (v:Ε),k<n->(enc xs[j]).set k v=enc x->((xs.map enc).flatten).set (j*n+k) v=((xs.set j x).map enc).flatten
 | y::xs,0,k,_,x,v,hk,h=>by
  simp only[zzo,zz5,List.set_cons_zero,uuh,yye];rw[wwn _ _ (by rw[hn];exact hk)];rw[show (enc y).set k v=enc x from h]
 | y::xs,j+1,k,hj,x,v,hk,h=>by
  simp only[zzo,zz5,List.set_cons_succ];rw[vvr _ _ (by rw[hn,yyz];omega),hn,show (j+1)*n+k-n=j*n+k by rw[yyz];omega,HR hn xs j k (by simpa using hj) x v hk (by simpa using h)]
def BW(sz gT:Nat)(z:Ξ)(t ts:Ι)(v0:Ε)(w:Ζ)(R:Ε->Ζ->Prop):Prop:=
 HEq (.slice ts) false v0 (.slice Option.none 0 0) λv4=>
 dm v4
 (R (.slice Option.none 0 0) w)
 (zn (cK z 0) [] t 0 w λv5 pf=>
 zx sz gT z t v5 v0 pf λv7 sK=>
 R v7 sK)
def Hr{W w:Ζ}{F:Β}{sz gT n:Nat}{z cs:Ξ}{t ts:Ι}{v:Ε}{K:Ε->Ζ->Prop}(hv:∃a c,v= .slice a n c)(iw:∀w' c,SL W (c::F) w'->kE w' sz v n cs)(hl:cs.length=n*sz)(hz:z.length=sz)(h0:0<sz)(h1:∀v∈cs,v.oneCell'=true)(hb:n*gT<=140737488355328)(hn:n<=140737488355328)
  (hS:SL W F w) (h:∀u w',SL W (.ob (bI u t sz n cs)::F) w'->K u w'):BW sz gT z t ts v w K:=by
 obtain⟨a,c,rfl⟩:=hv;unfold BW;refine WD ?_;cases a with
 | none=>
  refine zq ?_;have hs:=iw _ _ (bI.nil (t:=t) (sz:=sz) hS);obtain rfl:cs=[]:=hs.2;obtain rfl:n=0:=by
   rw[yyp]at hl
   rcases Nat.mul_eq_zero.1 hl.symm with h|h
   ·exact h
   omega
  exact h _ _ (bI.nil hS)
 | some p=>
  refine zp ?_;refine zN hS rfl ?_;intro b w' gA;have pI:SL W (.ob (bI (.slice (some ⟨b,0,none⟩) 0 0) t sz 0 [])::F) w':=bI.full (by simp) (by simpa [cK] using gA);refine zJ pI .hd (iw _ _ pI) hl hz h1 (by rw[yye];exact hb) (by omega) ?_;intro u w2 AG;rw[yye,zzq]at AG
  exact h u w2 AG
section
variable {P:Program} {f:FuncId} {sz gT n:Nat} {z cs:Ξ} {t ts:Ι}
def Ro(vc:∀v0 w R,BW sz gT z t ts v0 w R->zQ P f [v0] w R)(hz:z.length=sz)(h0:0<sz){H:bw}{v:Ε}(hv:dx H sz v n cs)(h1:∀v∈cs,v.oneCell'=true)(hb:n*gT<=140737488355328)(hn:n<=140737488355328):
  Spec P f [v] [.mem H] (λu post=>post=[.ob (bI u t sz n cs),.mem H]):=by
 intro W F w hS;have hS:SL W (.mem H::F) w:=hS;exact vc _ _ _ (Hr (let ⟨_,a,c,e,_⟩:=hv;⟨a,c,e⟩) (λw' c h=>Ko h (.tl .hd) hv) hv.1 hz h0 h1 hb hn hS λu w' hS=>⟨_,rfl,hS⟩)
def aRc(vc:∀v0 w R,BW sz gT z t ts v0 w R->zQ P f [v0] w R)(hz:z.length=sz)(h0:0<sz){v:Ε}(h1:∀v∈cs,v.oneCell'=true)(hl:cs.length=n*sz)(hb:n*gT<=140737488355328)(hn:n<=140737488355328):
  Spec P f [v] [.ob (bI v t sz n cs)] (λu post=>post=[.ob (bI u t sz n cs),.ob (bI v t sz n cs)]):=by
 intro W F w hS;have hS:SL W (.ob (bI v t sz n cs)::F) w:=hS;exact vc _ _ _ (Hr (let ⟨a,c,e,_⟩:=bI.at hS .hd;⟨a,c,e⟩) (λw' c h=>mZ h (.tl .hd)) hl hz h0 h1 hb hn hS λu w' hS=>⟨_,rfl,hS⟩)
end
section
variable {W w:Ζ} {l F:Β} {α:Type} {enc:α->Ξ} {t:Ι} {sz:Nat}
def zw{cs:Ξ}{K:Ε->Ζ->Prop}(hS:SL W l w)(h:∀b w,SL W (.pt b cs t::l) w->K (Δ b) w):∃pA:Ξ,Value.agg cs.toArray= .agg pA.toArray/\zh pA t w K:=⟨cs,rfl,zE hS h⟩
def qO{v:Ε}{n j:Nat}{k:IntKind}{xs:List α}{x:α}{K:Ε->Prop}(h:SL W l w)(m:Has (.ob (dq v t sz n (xs.map enc).flatten)) l)(hn:∀x,(enc x).length=sz)(hx:xs[j]?=some x)(hj:j<n)(hK:K (agg (enc x))):
  zk sz v (.int k (j:Int)) λp=>zg sz p w K:=by
 refine y2 h m hj λb o hb=>⟨⟨b,o,none⟩,enc x,rfl,hn x,λi u hu=>?_,hK⟩;rw[yyb];have hi:i<sz:=by rw[<- hn x];exact (zzj.1 hu).1
 exact hb i u hi (p' hn xs j i x u hx hu)
def qL{x:Ε}{gT n b:Nat}{z:Ξ}{xs:List α}{y:α}{K:Ε->Ζ->Prop}(hS:SL W l w)(hr:fY (.ob (dq x t sz n (xs.map enc).flatten)) l F)(hm:Has (.pt b (enc y) t) l)(hn:∀x,(enc x).length=sz)(h1:∀x,∀v∈enc x,v.oneCell'=true)(hz:z.length=sz)(hl:xs.length=n)(hb:(n+1)*gT<=140737488355328)(IP:n+1<=140737488355328)
  (h:∀v' w',SL W (.ob (dq v' t sz (n+1) ((xs++[y]).map enc).flatten)::F) w'->K v' w'):zx sz gT z t x (.slice (some ⟨b,0,none⟩) 1 1) w K:=
 ZQ hS hr (j8 hS hm (by rw[hn,wwm])) (by rw[hn,wwm]) hz (h1 y) hb IP λv' w' hS=>h v' w' (by rw[vj];exact hS)
def yy{x:Ε}{gT n b:Nat}{z:Ξ}{xs:List α}{y:α}{K:Ε->Ζ->Prop}(hS:SL W l w)(hr:fY (.ob (bI x t sz n (xs.map enc).flatten)) l F)(hm:Has (.pt b (enc y) t) l)(hn:∀x,(enc x).length=sz)(h1:∀x,∀v∈enc x,v.oneCell'=true)(hz:z.length=sz)(hb:(n+1)*gT<=140737488355328)(IP:n+1<=140737488355328)
  (h:∀v' w',SL W (.ob (bI v' t sz (n+1) ((xs++[y]).map enc).flatten)::F) w'->K v' w'):zx sz gT z t x (.slice (some ⟨b,0,none⟩) 1 1) w K:=
 zJ hS hr (j8 hS hm (by rw[hn,wwm])) (by rw[hn,wwm]) hz (h1 y) hb IP λv' w' hS=>h v' w' (by rw[vj];exact hS)
def SL.pY{v:Ε}{cs:Ξ}{xs:List α}{x:α}(hS:SL W (.ob (bI v t sz (xs.length+1) cs)::l) w):SL W (.ob (bI v t sz (xs++[x]).length cs)::l) w:=by
 rw[zza,zz7];exact hS
def SL.Kd{H:bw}{b n:Nat}{cs:Ξ}(hS:SL W l w)(hp:gx [.mem H,.pt b cs t] l F)(hl:cs.length=n*sz):∃H',H.le H'/\dx H' sz (.slice (some ⟨b,0,none⟩) n n) n cs/\SL W (.mem H'::F) w:=by
 have hS:=hS.pick hp;exact bI.freeze ((bI.full hl (hS.perm (.swap _ _ _))).perm (.swap _ _ _))
end
def BE(a b:Int):Int:=IntKind.u32.wrap ((BitVec.ofInt IntKind.u32.bits a ^^^ BitVec.ofInt IntKind.u32.bits b).toNat)
def PW(a b:Int):Int:=IntKind.u32.wrap ((BitVec.ofInt IntKind.u32.bits a &&& BitVec.ofInt IntKind.u32.bits b).toNat)
def Eo(a:Int):Int:=IntKind.u32.wrap ((BitVec.ofInt IntKind.u32.bits IntKind.u32.max ^^^ BitVec.ofInt IntKind.u32.bits a).toNat)
def Eh(c:Int):Int:=if PW c 1=1 then BE (c.fdiv (2 ^ 1)) 3988292384 else c.fdiv (2 ^ 1)
def B5:Nat->Int->Int
 | 0,c=>c
 | n+1,c=>Eh (B5 n c)
def Kr(c:Int)(b:Κ):Int:=B5 8 (BE c (b.toNat:Int))
def vJ(s:Int)(b:Φ):Int:=Eo (b.foldl Kr (Eo s))
def gO(n:Int):Κ:=UInt8.ofNat (n % 256).toNat
def bXw(n:Int):cX (gO n)= .int .u8 (IntKind.u8.wrap n):=by
 unfold cX gO;congr 1;rw[UInt8.toNat_ofNat'];simp only[IntKind.wrap,IntKind.bits,IntKind.signed];have h1:=ww6 n (show (256:Int)≠0 by omega);have h2:=vv9 n (show (0:Int)<256 by omega);simp;omega
def four(x:Int):Φ:=[gO (x.fdiv (2 ^ 24)),gO (x.fdiv (2 ^ 16)),gO (x.fdiv (2 ^ 8)),gO x]
def Az(x:Int):(four x).length=4:=rfl
def sumOf(p:Φ):Int:=vJ (vJ 0 (four p.length)) p
def cZ(p:Φ):Φ:=four p.length++four (sumOf p)++p
def kD(p:Φ):(cZ p).length=8+p.length:=by simp[cZ,Az];omega
def ja(b:Φ):Nat:=((b.getD 0 0).toNat*16777216+(b.getD 1 0).toNat*65536)+(b.getD 2 0).toNat*256+(b.getD 3 0).toNat
def gQ(b:Φ):Except Int (Φ × Nat):=
 if b.length<8 then .error 2
 else if 1048576<ja b then .error 3
 else if b.length<8+ja b then .error 2
 else if four (sumOf ((b.drop 8).take (ja b)))≠(b.drop 4).take 4 then .error 4
 else .ok ((b.drop 8).take (ja b),8+ja b)
def rG:Nat->Φ->List (Φ) × Nat
 | 0,_=>([],0)
 | f+1,b=>match gQ b with
  | .ok (p,n)=>(p::(rG f (b.drop n)).1,n+(rG f (b.drop n)).2)
  | .error _=>([],0)
def bZn(b:Φ):ja b<4294967296:=by
 unfold ja;have h:∀i,(b.getD i 0).toNat<256:=λi=>UInt8.toNat_lt _;have:=h 0;have:=h 1;have:=h 2;have:=h 3;omega
def Jx(n:Nat):(gO (n:Int)).toNat=n % 256:=by
 unfold gO;rw[UInt8.toNat_ofNat'];omega
def Cj(n k:Nat)(hk:0<k):(n:Int).fdiv (k:Int)=((n / k:Nat):Int):=by
 rw[vvu _ (by omega)];exact (Int.natCast_ediv n k).symm
def bZm(n:Nat)(r:Φ)(h:n<4294967296):ja (four n++r)=n:=by
 unfold ja four;have e1:((n:Int).fdiv (2 ^ 24))=((n / 16777216:Nat):Int):=Cj n 16777216 (by decide);have e2:((n:Int).fdiv (2 ^ 16))=((n / 65536:Nat):Int):=Cj n 65536 (by decide);have e3:((n:Int).fdiv (2 ^ 8))=((n / 256:Nat):Int):=Cj n 256 (by decide);rw[e1,e2,e3];simp only[zzu,zzq,List.getD_cons_zero,List.getD_cons_succ,Jx];omega
def bZo{b:Φ}{k:Nat}(h:4<=k):ja (b.take k)=ja b:=by
 unfold ja;have e:∀i,i<4->(b.take k).getD i 0=b.getD i 0:=λi hi=>by
  rw[vvv,vvv,uua,zzc (by omega)]
 rw[e 0 (by omega),e 1 (by omega),e 2 (by omega),e 3 (by omega)]
def Wl{p r:Φ}(h:p.length<=1048576):ja (cZ p++r)=p.length:=by
 unfold cZ;rw[zzk,zzk];exact bZm p.length _ (by omega)
def KA{p r:Φ}(h:p.length<=1048576):gQ (cZ p++r)= .ok (p,8+p.length):=by
 have hn:=Wl (r:=r) h;have hl:(cZ p++r).length=8+p.length+r.length:=by rw[zza,kD]
 have hd8:((cZ p++r).drop 8).take p.length=p:=by
  unfold cZ;rw[show (8:Nat)=(four p.length++four (sumOf p)).length by simp[Az],zzk (four (p.length:Int)++four (sumOf p)) p r,wwo];exact wwp
 have hd4:((cZ p++r).drop 4).take 4=four (sumOf p):=by
  unfold cZ;rw[zzk,zzk,show (4:Nat)=(four (p.length:Int)).length by simp[Az],wwo,show (four (p.length:Int)).length=(four (sumOf p)).length from rfl];exact wwp
 unfold gQ;rw[hn,zzb (by omega),zzb (by omega),zzb (by omega),hd8,hd4,zzb (by simp)]
def Xl{p:Φ}(h:p.length<=1048576){k:Nat}(hk:k<8+p.length):∃e,gQ ((cZ p).take k)= .error e/\e≠0:=by
 have hl:((cZ p).take k).length=k:=by rw[zzf,kD];omega
 unfold gQ;rw[hl];by_cases h8:k<8
 ·rw[zzc h8];exact⟨2,rfl,by decide⟩
 rw[zzb h8,bZo (by omega)];have hn:=Wl (r:=[]) h;rw[zzx]at hn
 rw[hn,zzb (by omega),zzc hk];exact⟨2,rfl,by decide⟩
def Xn:gQ []= .error 2:=rfl
def Ge{f:Nat}{b p:Φ}{n:Nat}(h:gQ b= .ok (p,n)):rG (f+1) b=(p::(rG f (b.drop n)).1,n+(rG f (b.drop n)).2):=by simp only[rG,h]
def Gd{f:Nat}{b:Φ}{e:Int}(h:gQ b= .error e):rG (f+1) b=([],0):=by simp only[rG,h]
def dY(ps:List (Φ)):Φ:=(ps.map cZ).flatten
def mY(p:Φ)(ps:List (Φ)):dY (p::ps)=cZ p++dY ps:=by simp[dY]
def Wn(ps:List (Φ))(p:Φ):dY (ps++[p])=dY ps++cZ p:=by simp[dY]
def cwz(ps qs:List (Φ)):dY (ps++qs)=dY ps++dY qs:=by simp[dY]
def WQ:∀(ps:List (Φ)) (r:Φ) (f:Nat),(∀p∈ps,p.length<=1048576)->(∃e,gQ r= .error e)->ps.length<f->rG f (dY ps++r)=(ps,(dY ps).length)
 | [],r,f+1,_,⟨e,he⟩,_=>by
  rw[show dY []++r=r from rfl,Gd he];rfl
 | p::ps,r,f+1,hp,he,hf=>by
  have vA:=hp p (.head _);have ih:=WQ ps r f (λq hq=>hp q (.tail _ hq)) he (Nat.lt_of_succ_lt_succ hf);rw[mY,zzk,Ge (KA vA),<- kD,wwo,ih,zza]
def DM{b p:Φ}{n:Nat}(h:gQ b= .ok (p,n)):8<=n/\n<=b.length/\p.length<=1048576/\n=8+p.length/\p=(b.drop 8).take p.length:=by
 unfold gQ at h;split at h
 ·cases h
 split at h
 ·cases h
 split at h
 ·cases h
 split at h
 ·cases h
 rename_i h1 h2 h3 h4;have h:=Except.ok.inj h;generalize ja b=k at *
 cases h;have:((b.drop 8).take k).length=k:=by rw[zzf,zzr];omega
 exact⟨by omega,by omega,by omega,by omega,by rw[this]⟩
def Xm{b:Φ}{e:Int}(h:gQ b= .error e):e=2\/e=3\/e=4:=by
 unfold gQ at h;split at h
 ·cases h;simp
 split at h
 ·cases h;simp
 split at h
 ·cases h;simp
 split at h
 ·cases h;simp
 cases h
def WO:∀(f g:Nat) (b:Φ),b.length<f->b.length<g->rG f b=rG g b
 | f+1,g+1,b,hf,hg=>by
  cases h:gQ b with
  | error e=>rw[Gd h,Gd h]
  | ok x=>
   obtain⟨p,n⟩:=x;have:=DM h;rw[Ge h,Ge h,WO f g (b.drop n) (by rw[zzr];omega) (by rw[zzr];omega)]
def jh(b:Φ):List (Φ) × Nat:=rG (b.length+1) b
def Gc{b p:Φ}{n:Nat}(h:gQ b= .ok (p,n)):jh b=(p::(jh (b.drop n)).1,n+(jh (b.drop n)).2):=by
 have:=DM h;unfold jh;rw[Ge h,WO b.length ((b.drop n).length+1) (b.drop n) (by rw[zzr];omega) (by omega)]
def DF{b:Φ}{e:Int}(h:gQ b= .error e):jh b=([],0):=Gd h
def czt(f:Nat):∀b:Φ,b.length<f->(jh b).2<=b.length:=by
 induction f with
 | zero=>intro b h;omega
 | succ f ih=>
  intro b hb;cases h:gQ b with
  | error e=>rw[DF h];exact zz4 _
  | ok x=>
   obtain⟨p,n⟩:=x;have h2:=DM h;have:=ih (b.drop n) (by rw[zzr];omega);rw[Gc h];rw[zzr]at this
   show n+_<=_;omega
def Wm:∀ps:List (Φ),ps.length*8<=(dY ps).length
 | []=>by simp
 | p::ps=>by
  have:=Wm ps;rw[mY,zza,kD,zzh];omega
def czv(ps:List (Φ))(r:Φ)(hp:∀p∈ps,p.length<=1048576)(he:∃e,gQ r= .error e):jh (dY ps++r)=(ps,(dY ps).length):=by
 refine WQ ps r _ hp he ?_;have:=Wm ps;rw[zza];omega
structure dD where
 kind:Int
 n:Int
 s:Η
def gd(x:dD):Ξ:=[Γ x.kind,Γ x.n,.string x.s]
def wL:dD:=⟨0,0,⟨#[]⟩⟩
def eQ(x:Int):Nat->Φ
 | 0=>[]
 | n+1=>gO (x.fdiv (2 ^ (8*n)))::eQ x n
def lJ(x:Int):∀n,(eQ x n).length=n
 | 0=>rfl
 | n+1=>by simp[eQ,lJ x n]
def oC(x:dD):Bool:=if x.kind=1 then decide (x.s=⟨#[]⟩) else if x.kind=2 then decide (x.n=0) && decide (x.s.size<=4096) else false
def vU(n:Int):Int:=n % 18446744073709551616
def fr(x:dD):Φ:=if x.kind=1 then gO x.kind::eQ (vU x.n) 8 else gO x.kind::(eQ x.s.size 2++x.s.data.toList)
def n_(l:List dD):Except Int (Φ):=if 32767<l.length then .error 1 else if l.all oC then .ok (eQ l.length 2++(l.map fr).flatten) else .error 1
structure jj where
 b:Φ
 e:Int
def gJ(n:Nat)(r:jj):Φ × jj:=if r.e≠0 then ([],r) else if r.b.length<n then ([],{r with e:=2}) else (r.b.take n,{r with b:=r.b.drop n})
def iQ(b:Φ):Nat:=b.foldl (λx c=>(x*256+c.toNat) % 18446744073709551616) 0
def fM(n:Nat)(r:jj):Nat × jj:=(iQ (gJ n r).1,(gJ n r).2)
def gI(m:Nat)(r:jj):Nat × jj:=if m<(fM 2 r).1 then (0,{(fM 2 r).2 with e:=3}) else fM 2 r
def sig(n:Nat):Int:=if n<9223372036854775808 then n else (n:Int)-18446744073709551616
def iE(r:jj):dD × jj:=
 if (fM 1 r).1=1 then (⟨1,sig (fM 8 (fM 1 r).2).1,⟨#[]⟩⟩,(fM 8 (fM 1 r).2).2)
 else if (fM 1 r).1=2 then (⟨2,0,⟨(gJ (gI 4096 (fM 1 r).2).1 (gI 4096 (fM 1 r).2).2).1.toArray⟩⟩,(gJ (gI 4096 (fM 1 r).2).1 (gI 4096 (fM 1 r).2).2).2)
 else (wL,if (fM 1 r).2.e=0 then {(fM 1 r).2 with e:=3} else (fM 1 r).2)
def ia:Nat->jj->List dD × jj
 | 0,r=>([],r)
 | i+1,r=>if r.e=0 then ((iE r).1::(ia i (iE r).2).1,(ia i (iE r).2).2) else ([],r)
def jz(b:Φ):Except Int (List dD):=
 let m:=gI 32767 ⟨b,0⟩
 let x:=ia m.1 m.2
 let e:=if x.2.e=0 then if 0<x.2.b.length then 3 else 0 else x.2.e
 if e=0 then .ok x.1 else .error e
def dN(n:Nat):Φ:=[0,1,1]++eQ n 8
def AK(n:Nat):(dN n).length=11:=by simp[dN,lJ]
def aFz(x:Nat)(b:Φ)(c:Κ)(h:iQ b=x):iQ (b++[c])=(x*256+c.toNat) % 18446744073709551616:=by
 unfold iQ at *
 rw[wws,h];rfl
def VK{n:Nat}(h:n<1152921504606846976):iQ (eQ n 8)=n:=by
 have f:∀k,((n:Int).fdiv (2 ^ (8*k)))=((n / 2 ^ (8*k):Nat):Int):=λk=>by
  have:=Cj n (2 ^ (8*k)) (Nat.two_pow_pos _);rw[<- this];push_cast;rfl
 unfold eQ eQ eQ eQ eQ eQ eQ eQ eQ;simp only[f,iQ,xx4,ttj,Jx,show (2:Nat) ^ (8*7)=72057594037927936 from rfl,show (2:Nat) ^ (8*6)=281474976710656 from rfl,show (2:Nat) ^ (8*5)=1099511627776 from rfl,
  show (2:Nat) ^ (8*4)=4294967296 from rfl,show (2:Nat) ^ (8*3)=16777216 from rfl,show (2:Nat) ^ (8*2)=65536 from rfl,show (2:Nat) ^ (8*1)=256 from rfl,show (2:Nat) ^ (8*0)=1 from rfl]
 omega
def bY9{x y:Φ}{n:Nat}(h:x.length=n):gJ n ⟨x++y,0⟩=(x,⟨y,0⟩):=by
 subst h;unfold gJ;rw[zzb (by simp),zzb (by simp)];simp
def JN{x y:Φ}{n:Nat}(h:x.length=n):fM n ⟨x++y,0⟩=(iQ x,⟨y,0⟩):=by
 unfold fM;rw[bY9 h]
def aWj{n:Nat}(h:n<1152921504606846976):jz (dN n)= .ok [⟨1,n,⟨#[]⟩⟩]:=by
 have h8:=VK h;have hl:=lJ (n:Int) 8;unfold dN;generalize eQ (n:Int) 8=y at *
 have e1:gI 32767 ⟨[0,1,1]++y,0⟩=(1,⟨[1]++y,0⟩):=by
  have:fM 2 ⟨[0,1]++([1]++y),0⟩=(1,⟨[1]++y,0⟩):=JN rfl;unfold gI;rw[show ([0,1,1]++y:Φ)=[0,1]++([1]++y) from rfl,this,zzb (by show ¬32767<1;omega)]
 have e3:fM 1 ⟨[1]++y,0⟩=(1,⟨y,0⟩):=JN rfl;have e4:fM 8 ⟨y,0⟩=(n,⟨[],0⟩):=by
  have:=JN (x:=y) (y:=[]) hl;rw[zzx,h8]at this;exact this
 have e2:iE ⟨[1]++y,0⟩=(⟨1,n,⟨#[]⟩⟩,⟨[],0⟩):=by
  unfold iE;rw[e3,zzc rfl,e4,sig,zzc (by omega)]
 have e5:ia 1 ⟨[1]++y,0⟩=([⟨1,n,⟨#[]⟩⟩],⟨[],0⟩):=by
  show (if (0:Int)=0 then _ else _)=_;rw[zzc rfl,e2];rfl
 unfold jz;simp only[e1,e5];rfl
def E5(l:List dD):Option Int:=match l with
 | [f]=>if f.kind=1/\1<=f.n/\f.n<=1099511627776 then some f.n else none
 | _=>none
def oX(b:Φ):Option Int:=match jz b with
 | .ok l=>E5 l
 | .error _=>none
def Tp{n:Nat}(h1:1<=n)(h:n<=1099511627776):oX (dN n)=some (n:Int):=by
 unfold oX;rw[aWj (by omega)];show (if (1:Int)=1/\1<=(n:Int)/\(n:Int)<=1099511627776 then some (n:Int) else none)=_;rw[zzc ⟨rfl,by omega,by omega⟩]
def gP(q:Φ):Option (Int × List (Φ) × Nat):=match (jh q).1 with
 | []=>none
 | h::l=>(oX h).map λn=>(n,l,(jh q).2)
def oM(l:List dD)(i:Nat)(r:jj):Except Int (List dD):=
 if (ia i r).2.e=0 then (if 0<(ia i r).2.b.length then .error 3 else .ok (l++(ia i r).1)) else .error (ia i r).2.e
def bw5:∀(i:Nat) (r:jj),r.e≠0->ia i r=([],r)
 | 0,r,_=>rfl
 | i+1,r,h=>by rw[ia,zzb h]
def Et{l:List dD}{i:Nat}{r:jj}(h:r.e≠0):oM l i r= .error r.e:=by
 unfold oM;rw[bw5 i r h,zzb h]
def aWm(l:List dD)(b:Φ):oM l 0 ⟨b,0⟩=if 0<b.length then .error 3 else .ok l:=by
 unfold oM ia;rw[zzc rfl,zzx]
def RI(l:List dD)(i:Nat)(b:Φ):oM l (i+1) ⟨b,0⟩=oM (l++[(iE ⟨b,0⟩).1]) i (iE ⟨b,0⟩).2:=by
 unfold oM;have e:ia (i+1) ⟨b,0⟩=((iE ⟨b,0⟩).1::(ia i (iE ⟨b,0⟩).2).1,(ia i (iE ⟨b,0⟩).2).2):=by rw[ia,zzc rfl]
 rw[e];simp only[zzk,zzu,zzq]
def VB{b:Φ}{n:Nat}(h:n<=b.length):gJ n ⟨b,0⟩=(b.take n,⟨b.drop n,0⟩):=by
 unfold gJ;rw[zzb (by simp),zzb (by show ¬b.length<n;omega)]
def VC{b:Φ}{n:Nat}(h:b.length<n):gJ n ⟨b,0⟩=([],⟨b,2⟩):=by
 unfold gJ;rw[zzb (by simp),zzc (by show b.length<n;omega)]
def Dt{b:Φ}{n:Nat}(h:n<=b.length):fM n ⟨b,0⟩=(iQ (b.take n),⟨b.drop n,0⟩):=by unfold fM;rw[VB h]
def VL{b:Φ}{n:Nat}(h:b.length<n):fM n ⟨b,0⟩=(0,⟨b,2⟩):=by unfold fM;rw[VC h];rfl
def aWi{b:Φ}(h:2<=b.length)(hn:iQ (b.take 2)<=32767):jz b=oM [] (iQ (b.take 2)) ⟨b.drop 2,0⟩:=by
 have e:gI 32767 ⟨b,0⟩=(iQ (b.take 2),⟨b.drop 2,0⟩):=by unfold gI;rw[Dt h,zzb (by show ¬32767<iQ (b.take 2);omega)]
 unfold jz oM;simp only[e,zzq];by_cases h1:(ia (iQ (b.take 2)) ⟨b.drop 2,0⟩).2.e=0
 ·rw[zzc h1,zzc h1];by_cases h2:0<(ia (iQ (b.take 2)) ⟨b.drop 2,0⟩).2.b.length
  ·rw[zzc h2,zzc h2,zzb (by decide)]
  rw[zzb h2,zzb h2,zzc rfl]
 rw[zzb h1,zzb h1,zzb h1]
def VH(k:Κ)(b:Φ):fM 1 ⟨k::b,0⟩=(k.toNat,⟨b,0⟩):=by
 rw[Dt (by simp)];have:=k.toNat_lt;simp only[xxq,uu1,uuy,List.drop_zero,iQ,xx4,ttj];rw[show (0*256+k.toNat) % 18446744073709551616=k.toNat by omega]
def aWk{l:List dD}{i:Nat}{k:Κ}{b:Φ}(hk:k.toNat=1):oM l (i+1) ⟨k::b,0⟩=if b.length<8 then .error 2 else oM (l++[⟨1,sig (iQ (b.take 8)),⟨#[]⟩⟩]) i ⟨b.drop 8,0⟩:=by
 rw[RI];unfold iE;rw[VH,zzc hk];by_cases h:b.length<8
 ·simp only[VL h];rw[zzc h,Et (by simp)]
 simp only[Dt (wwi.1 h)];rw[zzb h]
def aWl{l:List dD}{i:Nat}{k:Κ}{b:Φ}(hk:k.toNat=2):oM l (i+1) ⟨k::b,0⟩=if b.length<2 then .error 2 else if 4096<iQ (b.take 2) then .error 3 else if b.length-2<iQ (b.take 2) then .error 2 else
  oM (l++[⟨2,0,⟨((b.drop 2).take (iQ (b.take 2))).toArray⟩⟩]) i ⟨(b.drop 2).drop (iQ (b.take 2)),0⟩:=by
 rw[RI];unfold iE;rw[VH,zzb (by omega),zzc hk];by_cases h:b.length<2
 ·have e:gI 4096 ⟨b,0⟩=(0,⟨b,2⟩):=by unfold gI;rw[VL h,zzb (by simp)]
  have e2:gJ 0 ⟨b,2⟩=([],⟨b,2⟩):=by unfold gJ;rw[zzc (by simp)]
  simp only[e,e2];rw[zzc h,Et (by simp)]
 rw[zzb h];by_cases h2:4096<iQ (b.take 2)
 ·have e:gI 4096 ⟨b,0⟩=(0,⟨b.drop 2,3⟩):=by unfold gI;rw[Dt (wwi.1 h),zzc h2]
  have e2:gJ 0 ⟨b.drop 2,3⟩=([],⟨b.drop 2,3⟩):=by unfold gJ;rw[zzc (by simp)]
  simp only[e,e2];rw[zzc h2,Et (by simp)]
 have e:gI 4096 ⟨b,0⟩=(iQ (b.take 2),⟨b.drop 2,0⟩):=by unfold gI;rw[Dt (wwi.1 h),zzb h2]
 simp only[e];rw[zzb h2];by_cases h3:b.length-2<iQ (b.take 2)
 ·rw[VC (by rw[zzr];exact h3),zzc h3,Et (by simp)]
 rw[VB (by rw[zzr];omega),zzb h3]
structure Rq where
 id:Int
 table:Int
 weight:Int
 at_:Int
 dz:Int
 chunks:Int
 done:Bool
deriving DecidableEq
def iD(r:Rq):Ξ:=[Γ r.id,Γ r.table,Γ r.weight,Γ r.at_,Γ r.dz,Γ r.chunks,.bool r.done]
def nC(r:Rq):(iD r).length=7:=rfl
def Ez(r:Rq):∀v∈iD r,v.oneCell'=true:=by simp[iD,Value.oneCell']
abbrev jc(H:bw)(v:Ε)(L:List Rq):Prop:=dx H 7 v L.length (L.map iD).flatten
def P_(late t:Int):Int:=IntKind.i64.wrap ((BitVec.ofInt IntKind.i64.bits (late.fdiv (2 ^ (min t.toNat IntKind.i64.bits))) &&& BitVec.ofInt IntKind.i64.bits 1).toNat)
def cxi{k:IntKind}{a b:Int}{K:Ε->Prop}(hb:0<=b)(h:K (Γ (P_ a b))):zc .shr (Γ a) (.int k b) λv=>zc .and v (Γ 1) K:=by
 refine⟨Γ (a.fdiv (2 ^ (min b.toNat IntKind.i64.bits))),?_,⟨_,?_,h⟩⟩
 ·simp only[jw];rw[zzb (by omega)]
 simp only[jw,ww8];rfl
structure il where
 kind:Int
 id:Int
 table:Int
 weight:Int
 at_:Int
 dz:Int
 done:Bool
deriving DecidableEq
structure cD where
 aw:Int
 ops:List gl
 notes:List il
def kI(n:il):Ξ:=[Γ n.kind,Γ n.id,Γ n.table,Γ n.weight,Γ n.at_,Γ n.dz,.bool n.done]
def wI(n:il):(kI n).length=7:=rfl
def emp:Η:=⟨#[]⟩
def kO(o:gl)(aw:Int):Bool:=decide (1<=o.aw/\o.aw<=aw/\0<=o.table/\o.table<8/\1<=o.key/\o.key<=1099511627776/\o.val.size<=32/\(o.gone=true->o.val=emp))
def jg(n:il)(aw:Int):Bool:=decide (1<=n.id/\n.id<=64 /\
 ((n.kind=1/\0<=n.table/\n.table<8/\1<=n.weight/\n.weight<=8/\1<=n.at_/\n.at_<=aw/\n.dz=0/\n.done=false)\/(n.kind=2/\n.table=0/\n.weight=0/\n.at_=0/\0<=n.dz/\n.dz<=1099511627776)))
def ep(x:cD):Bool:=decide (1<=x.aw/\x.aw<=1099511627776/\x.ops.length<=4096/\x.notes.length<=256) && x.ops.all (λo=>kO o x.aw) && x.notes.all (λn=>jg n x.aw)
def iF(n:Int):dD:=⟨1,n,emp⟩
def tF(s:Η):dD:=⟨2,0,s⟩
def gS(b:Bool):Int:=if b=true then 1 else 0
def pG(o:gl):List dD:=[iF o.aw,iF o.table,iF o.key,iF (gS o.gone),tF o.val]
def pF(n:il):List dD:=[iF n.kind,iF n.id,iF n.table,iF n.weight,iF n.at_,iF n.dz,iF (gS n.done)]
def kV(x:cD):List dD:=[iF x.aw,iF x.ops.length]++(x.ops.map pG).flatten++([iF x.notes.length]++(x.notes.map pF).flatten)
def ud(x:cD):Except Int (Φ):=if ep x=true then n_ (kV x) else .error 1
structure cY where
 l:List dD
 bad:Bool
def pV(k:Int)(r:cY):dD × cY:=match r.bad,r.l with
 | false,f::l=>if f.kind=k then (f,⟨l,false⟩) else (wL,⟨f::l,true⟩)
 | _,l=>(wL,⟨l,true⟩)
def fu(r:cY):Int × cY:=((pV 1 r).1.n,(pV 1 r).2)
def pd(r:cY):Η × cY:=((pV 2 r).1.s,(pV 2 r).2)
def dB(m:Int)(r:cY):Int × cY:=if (fu r).1<0\/m<(fu r).1 then (0,{(fu r).2 with bad:=true}) else fu r
def sV(r:cY):Bool × cY:=(decide ((dB 1 r).1=1),(dB 1 r).2)
def nO(r:cY):gl × cY:=
 let a:=fu r;let b:=dB 8 a.2;let c:=fu b.2;let d:=sV c.2;let e:=pd d.2
 (⟨a.1,b.1,c.1,d.1,e.1⟩,e.2)
def o_(r:cY):il × cY:=
 let a:=dB 2 r;let b:=dB 64 a.2;let c:=dB 8 b.2;let d:=dB 8 c.2;let e:=fu d.2;let f:=fu e.2;let g:=sV f.2
 (⟨a.1,b.1,c.1,d.1,e.1,f.1,g.1⟩,g.2)
def iR{α:Type}(one:cY->α × cY):Nat->cY->List α × cY
 | 0,r=>([],r)
 | i+1,r=>if r.bad=true then ([],r) else ((one r).1::(iR one i (one r).2).1,(iR one i (one r).2).2)
def nL(r:cY):cD × cY:=
 let a:=fu r;let n:=dB 4096 a.2;let os:=iR nO n.1.toNat n.2;let m:=dB 256 os.2;let ns:=iR o_ m.1.toNat m.2
 (⟨a.1,os.1,ns.1⟩,ns.2)
def Ak(l:List dD):Option cD:=
 let x:=nL ⟨l,false⟩
 if x.2.bad=false/\x.2.l=[]/\ep x.1=true then some x.1 else none
def nA(b:Φ):Except Int cD:=match jz b with
 | .error e=>.error e
 | .ok l=>match Ak l with
  | some x=>.ok x
  | none=>.error 3
def vM(i:Nat)(r:Rq):Prop:=r.id=(i:Int)+1/\0<=r.table/\r.table<8/\1<=r.weight/\r.weight<=8/\1<=r.at_/\r.at_<=1099511627776/\0<=r.dz/\r.dz<=1099511627776/\0<=r.chunks/\r.chunks<=1099511627776
def DX(L:List Rq)(i:Nat):Prop:=∀h:i<L.length,vM i L[i]/\(∀h0:0<i,L[i-1].at_<=L[i].at_)/\∀k (hk:k<i),¬(L[k].table=L[i].table/\L[k].done=false)
def gg(L:List Rq):Prop:=L.length<=64/\∀i,DX L i
instance (i:Nat) (r:Rq):Decidable (vM i r):=by unfold vM;infer_instance
def gg.fin{L:List Rq}:gg L↔L.length<=64/\∀i:Fin L.length,vM i.1 L[i.1]/\(0<i.1->(L[i.1-1]'(by omega)).at_<=L[i.1].at_)/\∀k:Fin i.1,¬((L[k.1]'(by omega)).table=L[i.1].table/\(L[k.1]'(by omega)).done=false):=
 ⟨λh=>⟨h.1,λi=>⟨(h.2 i.1 i.2).1,(h.2 i.1 i.2).2.1,λk=>(h.2 i.1 i.2).2.2 k.1 k.2⟩⟩,
  λh=>⟨h.1,λi hi=>⟨(h.2 ⟨i,hi⟩).1,(h.2 ⟨i,hi⟩).2.1,λk hk=>(h.2 ⟨i,hi⟩).2.2 ⟨k,hk⟩⟩⟩⟩
instance (L:List Rq):Decidable (gg L):=decidable_of_iff _ gg.fin.symm
def cxe(L:List Rq):∀v∈(L.map iD).flatten,v.oneCell'=true:=tK Ez L
def xR(L:List Rq)(t w a:Int):Rq:=⟨((L.length+1:Nat):Int),t,w,a,0,0,false⟩
def pw(L:List Rq)(t w a:Int):Option (List Rq):=if gg L/\gg (L++[xR L t w a]) then some (L++[xR L t w a]) else none
def lW(L:List Rq)(id c:Int)(dn:Bool):Option (List Rq):=
 if gg L/\1<=id/\id<=L.length then match L[(id-1).toNat]? with
  | some r=>if r.done=true\/c<r.dz\/1099511627776<c\/1099511627776<=r.chunks then none else some (L.set (id-1).toNat {r with dz:=c,chunks:=r.chunks+1,done:=dn})
  | none=>none
 else none
def aI8{L:List Rq}(hM:gg L){j:Nat}(hj:j<L.length)(c:Int)(dn:Bool):lW L ((j+1:Nat):Int) c dn =
  if L[j].done=true\/c<L[j].dz\/1099511627776<c\/1099511627776<=L[j].chunks then none else some (L.set j {L[j] with dz:=c,chunks:=L[j].chunks+1,done:=dn}):=by
 unfold lW;have e:(((j+1:Nat):Int)-1).toNat=j:=by omega
 rw[zzc ⟨hM,by omega,by omega⟩,e,zzd hj]
def aRa{L:List Rq}{id c:Int}{dn:Bool}(h:¬(gg L/\1<=id/\id<=L.length)):lW L id c dn=none:=zzb h
def B2{L L':List Rq}{t w a:Int}(h:pw L t w a=some L'):gg L':=by
 unfold pw at h;split at h
 ·rename_i hm;cases h;exact hm.2
 cases h
def Ek{L L':List Rq}{id c:Int}{dn:Bool}(h:lW L id c dn=some L'):gg L':=by
 unfold lW at h;split at h
 ·rename_i hm;obtain⟨hM,h1,h2⟩:=hm;split at h
  ·rename_i r hr;split at h
   ·cases h
   rename_i hc;cases h;generalize (id-1).toNat=j at *
   obtain⟨hj,hr⟩:=zzj.1 hr;refine⟨by rw[yyh];exact hM.1,λi hi=>?_⟩;rw[yyh]at hi
   have ib:∀k (hk:k<L.length),((L.set j {r with dz:=c,chunks:=r.chunks+1,done:=dn})[k]'(by rw[yyh];exact hk)).at_=L[k].at_/\((L.set j {r with dz:=c,chunks:=r.chunks+1,done:=dn})[k]'(by rw[yyh];exact hk)).table=L[k].table:=λk hk=>by
    rw[xxi];split
    ·rename_i e;subst e;rw[hr];exact⟨rfl,rfl⟩
    exact⟨rfl,rfl⟩
   obtain⟨k1,k2,k3⟩:=hM.2 i hi;refine⟨?_,λh0=>?_,λk hk=>?_⟩
   ·rw[xxi];split
    ·rename_i e;subst e;rw[hr]at k1
     unfold vM at k1 ⊢;simp only;omega
    exact k1
   ·rw[(ib (i-1) (by omega)).1,(ib i hi).1];exact k2 h0
   rw[(ib k (by omega)).2,(ib i hi).2];rintro ⟨e1,e2⟩;rw[xxi]at e2
   split at e2
   ·rename_i e;subst e;refine k3 j hk ⟨e1,?_⟩;rw[hr];cases hd:r.done with
    | false=>rfl
    | true=>exact absurd (.inl hd) hc
   exact k3 k hk ⟨e1,e2⟩
  cases h
 cases h
structure da where
 file:Int
 first:Int
 size:Nat
 l:List (Φ)
structure v_ where
 file:Int
 oe:Int
 fresh:Bool
structure cU where
 bF:List da
 base:Int
 size:Int
 du:Option v_
def da.next(s:da):Int:=s.first+s.l.length
def cI(L:List da):Int:=match L.getLast? with
 | none=>0
 | some s=>s.next-1
def eZ(L:List da):Int:=match L with
 | []=>1
 | s::_=>s.first
def mE:List da->Int->Option (Φ)
 | [],_=>none
 | s::r,n=>if s.first<=n/\n<s.next then s.l[(n-s.first).toNat]? else mE r n
structure hU where
 file:Int
 fresh:Bool
 b:Φ
def mu(g:cU)(f:Int)(p:Φ):Except Int hU:=
 if g.base+4096<=f then .error 7 else .ok ⟨f,true,cZ (dN (cI g.bF+1).toNat)++cZ p⟩
def eN(g:cU)(off:Bool)(p:Φ):Except Int hU:=
 if 1048576<p.length then .error 1
 else if off=true then .error 8
 else if 1099511627776<=cI g.bF then .error 7
 else match g.bF.getLast? with
  | none=>mu g g.base p
  | some s=>if s.l.length=0\/(s.size:Int)+(cZ p).length<=g.size then .ok ⟨s.file,false,cZ p⟩ else mu g (s.file+1) p
def de(g:cU)(d:DS):(cU × DS) × Int:=match g.du with
 | none=>((g,d),0)
 | some x=>(({g with du:=if (if x.fresh=true then d.remove x.file else d.cut x.file x.oe).2=0 then none else some x},(if x.fresh=true then d.remove x.file else d.cut x.file x.oe).1),(if x.fresh=true then d.remove x.file else d.cut x.file x.oe).2)
def jD(L:List da)(x:hU)(p:Φ):List da:=
 let L:=if x.fresh=true then L++[⟨x.file,cI L+1,0,[]⟩] else L
 L.dropLast++L.getLast?.toList.map λs=>{s with size:=s.size+x.b.length,l:=s.l++[p]}
def fj(g:cU)(d:DS)(p:Φ):(cU × DS) × (Int × Int):=match eN g d.off p with
 | .error e=>((g,d),(0,e))
 | .ok x=>
  let m:=de g d
  if m.2≠0 then (m.1,(0,m.2)) else
  let a:=m.1.2.append x.file x.b
  if a.2≠0 then ((m.1.1,a.1),(0,a.2)) else
  let s:=a.1.sync x.file
  if s.2≠0 then ((m.1.1,s.1),(0,s.2)) else
  (({m.1.1 with bF:=jD m.1.1.bF x p},s.1),(cI (jD m.1.1.bF x p),0))
def lH(L:List da):Int:=match L.getLast? with
 | none=>0
 | some s=>s.size
def gk(g:cU)(d:DS)(p:Φ)(k:Int):(cU × DS) × Int:=
 if k<0 then ((g,d),1) else match eN g d.off p with
 | .error e=>((g,d),e)
 | .ok x=>
  let m:=de g d
  if m.2≠0 then (m.1,m.2) else
  let a:=m.1.2.append x.file (x.b.take (k.toNat % x.b.length))
  if a.2≠0 then ((m.1.1,a.1),a.2) else
  (({m.1.1 with du:=some ⟨x.file,if x.fresh=true then 0 else lH m.1.1.bF,x.fresh⟩},a.1),0)
def gE:List da->DS->Int->(List da × DS) × Int
 | s::t::r,d,n=>if s.next-1<=n then (if (d.remove s.file).2≠0 then ((s::t::r,(d.remove s.file).1),(d.remove s.file).2) else gE (t::r) (d.remove s.file).1 n) else ((s::t::r,d),0)
 | L,d,_=>((L,d),0)
def gR(g:cU)(d:DS)(n:Int):(cU × DS) × Int:=
 if d.off=true then ((g,d),8) else (({g with bF:=(gE g.bF d n).1.1},(gE g.bF d n).1.2),(gE g.bF d n).2)
def fJ(base:Int)(R:List PF):Ω:=(R.map PF.id).filter λf=>decide (base<=f/\f<base+4096)
def iY(L:List da)(R:List PF)(f:Int)(last:Bool):(Bool × Bool) × List da:=
 let b:=((dJ PF.id R f).map PF.b).getD []
 match gP b with
 | none=>((false,last),L)
 | some (first,l,n)=>
  if (last=false/\(n≠b.length\/l.length=0))\/(0<L.length/\first≠cI L+1)\/1099511627776<first+l.length-1 then ((true,false),L)
  else ((true,true),L++[⟨f,first,n,l⟩])
def lI(R:List PF):Ω->Option Int->List da->Bool->Option (List da × Bool)
 | [],_,L,whole=>some (L,whole)
 | f::r,prev,L,whole=>
  let x:=iY L R f r.isEmpty
  if x.1.2=false then none else if (match prev with|none=>false|some g=>decide (f≠g+1))=true then none else lI R r (some f) x.2 x.1.1
def jl(L:List da)(d:DS)(ids:Ω)(whole:Bool):DS × Int:=match ids.getLast? with
 | none=>(d,0)
 | some f=>if whole=false then d.remove f else if lH L<gf d.R f then d.cut f (lH L) else (d,0)
def eV(d:DS)(base size:Int):DS × Except Int cU:=
 if base<0\/12288<base\/size<64\/65536<size then (d,.error 1)
 else if d.off=true then (d,.error 8)
 else match lI d.R (fJ base d.R) none [] true with
  | none=>(d,.error 3)
  | some (L,whole)=>if (jl L d (fJ base d.R) whole).2≠0 then ((jl L d (fJ base d.R) whole).1,.error (jl L d (fJ base d.R) whole).2) else ((jl L d (fJ base d.R) whole).1,.ok ⟨L,base,size,none⟩)
structure kR(s:da)(N:Nat):Prop where
 f0:0<=s.file
 f1:s.file<=100000
 n0:1<=s.first
 n1:s.first<=1099511627776
 sz:s.size<=N
 ln:s.l.length<=N
 bl:∀b∈s.l,b.length<=1048576
structure cU.Ok(g:cU)(N:Nat):Prop where
 bF:∀s∈g.bF,kR s N
 b0:0<=g.base
 b1:g.base<=12288
 s0:64<=g.size
 s1:g.size<=65536
 ln:g.bF.length<=N
def th{L:List da}{N:Nat}(h:∀s∈L,kR s N):0<=cI L/\cI L<=1099511627776+N:=by
 unfold cI;split
 ·omega
 rename_i s hs;have:=h s (xxu hs);have h1:=this.n0;have h2:=this.n1;have h3:=this.ln;simp only[da.next];omega
section
variable {A:List PF} {x:PF}
def Rt(hs:fE PF.id (A++[x])):fk PF.id (A++[x]) x.id=A.length:=B9 hs (j:=A.length) (by simp) (by simp)
def Df(hs:fE PF.id (A++[x])):ix PF.id (A++[x]) x.id=true:=(xF hs).2 ⟨x,by simp,rfl⟩
def Cr(hs:fE PF.id (A++[x])):dJ PF.id (A++[x]) x.id=some x:=s8 hs (by simp)
def Wi(hs:fE PF.id (A++[x])){y:PF}(hy:y.id=x.id):fU PF.id (A++[x]) y=A++[y]:=by
 have h1:ix PF.id (A++[x]) y.id=true:=by rw[hy];exact Df hs
 rw[F1 h1,hy,Rt hs];simp
def KC(hs:fE PF.id (A++[x]))(g:PF->PF):ka (A++[x]) x.id g=A++[{g x with id:=x.id}]:=by
 unfold ka;rw[Cr hs];exact Wi hs rfl
def RT(hs:fE PF.id (A++[x])):jA PF.id (A++[x]) x.id=A:=by
 rw[jA,zzc (Df hs),Rt hs];simp[List.eraseIdx_append_of_length_le]
def aWz(hs:fE PF.id (x::A)):jA PF.id (x::A) x.id=A:=by
 have h1:ix PF.id (x::A) x.id=true:=(xF hs).2 ⟨x,by simp,rfl⟩;have h2:fk PF.id (x::A) x.id=0:=B9 hs (j:=0) (by simp) rfl;rw[jA,zzc h1,h2];rfl
def aws(hs:fE PF.id (A++[x]))(b:Φ):kH (A++[x]) x.id b=A++[⟨x.id,x.safe,x.b++b⟩]:=by
 unfold kH;rw[Cr hs];exact Wi hs rfl
def awt(hs:fE PF.id A){f:Int}(h:∀y∈A,y.id<f)(b:Φ):kH A f b=A++[⟨f,0,b⟩]:=by
 have h1:dJ PF.id A f=none:=(HV hs).2 λy hy=>by have:=h y hy;omega
 have h2:ix PF.id A f=false:=by
  cases e:ix PF.id A f with
  | false=>rfl
  | true=>obtain⟨y,hy,e⟩:=(xF hs).1 e;have:=h y hy;omega
 have h3:fk PF.id A f=A.length:=by
  unfold fk;rw[yy2.2 λy hy=>by simpa using h y hy]
 unfold kH;rw[h1];unfold fU;simp only[h2,h3];simp[xQ]
end
def ph(f:Int)(R:List PF):Prop:=∀i (h:i<R.length),R[i].id=f+i
def ph.sorted{f:Int}{R:List PF}(h:ph f R):fE PF.id R:=by
 unfold fE;rw[xxk];intro i j hi hj sq;rw[h i hi,h j hj];omega
def ph.mem{f:Int}{R:List PF}(h:ph f R){x:PF}(hx:x∈R):f<=x.id/\x.id<f+R.length:=by
 obtain⟨i,hi,rfl⟩:=yy5.1 hx;rw[h i hi];omega
def ph.snoc{f:Int}{R:List PF}(h:ph f R){x:PF}(hx:x.id=f+R.length):ph f (R++[x]):=by
 intro i hi;by_cases hl:i<R.length
 ·rw[wwl hl];exact h i hl
 have:i=R.length:=by simp at hi;omega
 subst this;simp[hx]
def gW(s:da):Φ:=dY (dN s.first.toNat::s.l)
def ez(s:da):PF:=⟨s.file,(gW s).length,gW s⟩
def gG:Int->Int->List da->Prop
 | _,_,[]=>True
 | f,n,s::r=>s.file=f/\s.first=n/\s.size=(gW s).length/\(∀p∈s.l,p.length<=1048576)/\(r≠[]->s.l≠[])/\gG (f+1) (n+s.l.length) r
def cR(L:List da):List (Φ):=(L.map da.l).flatten
def pB(s:da)(L:List da):cR (s::L)=s.l++cR L:=by simp[cR]
def wK(A B:List da):cR (A++B)=cR A++cR B:=by simp[cR]
def gG.app:∀{f n:Int} {A B:List da},gG f n (A++B)↔gG f n A/\(B≠[]->∀s∈A,s.l≠[])/\gG (f+A.length) (n+(cR A).length) B
 | f,n,[],B=>by simp[gG,cR]
 | f,n,s::A,B=>by
  have ih:=gG.app (f:=f+1) (n:=n+s.l.length) (A:=A) (B:=B);have e1:f+1+(A.length:Int)=f+((s::A).length:Int):=by simp;omega
  have e2:n+(s.l.length:Int)+((cR A).length:Int)=n+((cR (s::A)).length:Int):=by rw[pB,zza];omega
  rw[e1,e2]at ih
  rw[zzu];simp only[gG,ih];constructor
  ·rintro ⟨h1,h2,h3,h4,h5,h6,h7,h8⟩;refine⟨⟨h1,h2,h3,h4,λhA=>h5 (by simp[hA]),h6⟩,λhB t ht=>?_,h8⟩;rcases zz8.1 ht with rfl|ht
   ·exact h5 (by simp[hB])
   exact h7 hB t ht
  rintro ⟨⟨h1,h2,h3,h4,h5,h6⟩,h7,h8⟩;refine⟨h1,h2,h3,h4,λh=>?_,h6,λhB t ht=>h7 hB t (.tail _ ht),h8⟩;by_cases hA:A=[]
  ·subst hA;exact h7 (by simpa using h) s (.head _)
  exact h5 hA
def gG.sX:∀{f n:Int} {L:List da},gG f n L->ph f (L.map ez)
 | f,n,[],_=>λi h=>by simp at h
 | f,n,s::L,h=>by
  obtain⟨h1,_,_,_,_,h6⟩:=h;have ih:=h6.sX;intro i hi;cases i with
  | zero=>simpa [ez] using h1
  | succ i=>
   have:=ih i (by simpa using hi);simp only[zzo,vvj];rw[this];push_cast;omega
def gG.head{f n:Int}{L:List da}(h:gG f n L)(hL:L≠[]):cI L=n+(cR L).length-1:=by
 obtain⟨A,s,rfl⟩:∃A s,L=A++[s]:=⟨L.dropLast,L.getLast hL,(List.dropLast_concat_getLast hL).symm⟩;obtain⟨_,_,h3⟩:=gG.app.1 h;obtain⟨_,h4,_⟩:=h3;unfold cI;rw[yy6,wK];simp only[da.next,h4,zza];simp[cR];omega
def gG.low{f n:Int}{L:List da}(h:gG f n L)(hL:L≠[]):eZ L=n:=by
 cases L with
 | nil=>exact absurd rfl hL
 | cons s L=>exact h.2.1
def gG.read:∀{f n:Int} {L:List da},gG f n L->∀i,mE L i=if n<=i then (cR L)[(i-n).toNat]? else none
 | f,n,[],_,i=>by simp[mE,cR]
 | f,n,s::L,h,i=>by
  obtain⟨_,h2,_,_,_,h6⟩:=h;have ih:=h6.read i;subst h2;rw[mE,ih,pB];have o8:s.next=s.first+s.l.length:=rfl;by_cases h1:s.first<=i
  ·rw[zzc (c:=s.first<=i) h1];by_cases h3:i<s.next
   ·rw[zzc (c:=s.first<=i/\i<s.next) ⟨h1,h3⟩,zzt (by omega)]
   rw[zzb (c:=s.first<=i/\i<s.next) (by omega),zzc (by omega),yya (by omega)];congr 1;omega
  rw[zzb (c:=s.first<=i/\i<s.next) (by omega),zzb (by omega),zzb h1]
def gG.bl:∀{f n:Int} {L:List da},gG f n L->∀s∈L,s.size=(gW s).length/\∀p∈s.l,p.length<=1048576
 | f,n,[],_,s,hs=>by cases hs
 | f,n,t::L,h,s,hs=>by
  obtain⟨_,_,h3,h4,_,h6⟩:=h;rcases zz8.1 hs with rfl|hs
  ·exact⟨h3,h4⟩
  exact h6.bl s hs
def To(n:Nat):(dN n).length<=1048576:=by rw[AK];omega
def WN:∀(ps:List (Φ)) (k:Nat),(∀p∈ps,p.length<=1048576)->∃j,j<=ps.length/\(∀i,i<=ps.length->((dY (ps.take i)).length<=k↔i<=j))/\jh ((dY ps).take k)=(ps.take j,(dY (ps.take j)).length)
 | [],k,_=>⟨0,zzi _,λi hi=>by simp at hi;subst hi;simp[dY],by
   rw[show (dY []).take k=[] by simp[dY],DF Xn];rfl⟩
 | p::ps,k,hp=>by
  have vA:=hp p (.head _);by_cases hk:k<(cZ p).length
  ·refine⟨0,zz4 _,λi hi=>?_,?_⟩
   ·cases i with
    | zero=>simp[dY]
    | succ i=>
     rw[xxq,mY,zza];constructor<;>intro h<;>omega
   obtain⟨e,he,_⟩:=Xl vA (k:=k) (by rw[<- kD];exact hk);rw[mY,xxa (by omega),DF he];rfl
  obtain⟨j,h1,h2,h5⟩:=WN ps (k-(cZ p).length) (λq hq=>hp q (.tail _ hq));refine⟨j+1,by simpa using h1,λi hi=>?_,?_⟩
  ·cases i with
   | zero=>simp[dY]
   | succ i=>
    have:=h2 i (by simpa using hi);rw[xxq,mY,zza];constructor<;>intro h<;>omega
  have e:(dY (p::ps)).take k=cZ p++(dY ps).take (k-(cZ p).length):=by
   rw[mY,List.take_append,zz2 (by omega)]
  rw[e,Gc (KA vA),<- kD,wwo,h5,xxq,mY,zza]
def cwy{n:Nat}{l:List (Φ)}(h1:1<=n)(h2:n<=1099511627776)(hl:∀p∈l,p.length<=1048576):gP (dY (dN n::l))=some ((n:Int),l,(dY (dN n::l)).length):=by
 have:=czv (dN n::l) [] (λp hp=>by rcases zz8.1 hp with rfl|hp;exact To n;exact hl p hp) ⟨2,Xn⟩;rw[zzx]at this
 unfold gP;rw[this];simp only[Tp h1 h2,yyf]
def cww{n:Nat}{l:List (Φ)}(k:Nat)(h1:1<=n)(h2:n<=1099511627776)(hl:∀p∈l,p.length<=1048576):
  (gP ((dY (dN n::l)).take k)=none/\k<(dY [dN n]).length)\/∃j,j<=l.length/\(∀i,i<=l.length->((dY (dN n::l.take i)).length<=k↔i<=j))/\gP ((dY (dN n::l)).take k)=some ((n:Int),l.take j,(dY (dN n::l.take j)).length):=by
 obtain⟨j,h3,h4,h5⟩:=WN (dN n::l) k (λp hp=>by rcases zz8.1 hp with rfl|hp;exact To n;exact hl p hp);cases j with
 | zero=>
  left;unfold gP;rw[h5];refine⟨rfl,?_⟩;have:=h4 1 (by simp);rw[xxq,uu1]at this
  omega
 | succ j=>
  right;refine⟨j,by simpa using h3,λi hi=>?_,?_⟩
  ·have:=h4 (i+1) (by simpa using hi);rw[xxq]at this
   omega
  unfold gP;rw[h5,xxq];simp only[Tp h1 h2,yyf]
def bXp{R:List PF}{L0:List da}{f n:Int}{s:da}{last:Bool}{x:PF}(hx:dJ PF.id R f=some x)(hb:x.b=gW s)(h1:s.file=f)(h2:s.first=n)(h3:s.size=(gW s).length)(h4:∀p∈s.l,p.length<=1048576)
  (n1:1<=n) (n2:n+s.l.length<=1099511627776) (hl:last=false->s.l≠[]) (h0:L0=[]\/cI L0+1=n):iY L0 R f last=((true,true),L0++[s]):=by
 unfold iY;rw[hx];simp only[yyf,xxd,hb];have hr:gP (gW s)=some (s.first,s.l,(gW s).length):=by
  have:=cwy (n:=s.first.toNat) (l:=s.l) (by omega) (by omega) h4;unfold gW;rw[this];congr 2;omega
 rw[hr];have hs:(⟨f,s.first,(gW s).length,s.l⟩:da)=s:=by
  obtain⟨a,b,c,d⟩:=s;simp only at h1 h3;simp[<- h1,<- h3]
 simp only;rw[zzb,hs];rintro (⟨e1,e2⟩|⟨e1,e2⟩|e)
 ·rcases e2 with e2|e2
  ·exact e2 rfl
  exact hl e1 (zzp e2)
 ·rcases h0 with rfl|h0
  ·simp at e1
  omega
 omega
def vk(prev:Option Int)(f:Int):Bool:=match prev with
 | none=>false
 | some g=>decide (f≠g+1)
def Bb(R:List PF)(f:Int)(r:Ω)(prev:Option Int)(L:List da)(wh:Bool):lI R (f::r) prev L wh =
  if (iY L R f r.isEmpty).1.2=false then none else if vk prev f=true then none else lI R r (some f) (iY L R f r.isEmpty).2 (iY L R f r.isEmpty).1.1:=rfl
def Jw(R:List PF):∀(r:List da) (f n:Int) (L0:List da) (prev:Option Int) (ids:Ω) (wh:Bool),gG f n r->(∀s∈r,∃x,dJ PF.id R s.file=some x/\x.b=gW s)->(L0=[]\/cI L0+1=n)->(prev=none\/prev=some (f-1))->1<=n->n+(cR r).length<=1099511627776->(ids≠[]->∀s∈r,s.l≠[]) ->
  lI R (r.map da.file++ids) prev L0 wh=lI R ids (if r=[] then prev else some (f+r.length-1)) (L0++r) (if r=[] then wh else true)
 | [],f,n,L0,prev,ids,wh,_,_,_,_,_,_,_=>by simp
 | s::r,f,n,L0,prev,ids,wh,hc,hg,h0,hp,n1,n2,hi=>by
  obtain⟨h1,h2,h3,h4,h5,h6⟩:=hc;obtain⟨x,hx,hb⟩:=hg s (.head _);rw[pB,zza]at n2
  have jM:iY L0 R s.file (r.map da.file++ids).isEmpty=((true,true),L0++[s]):=by
   refine bXp hx hb rfl h2 h3 h4 n1 (by omega) (λhl=>?_) h0;by_cases hr:r=[]
   ·subst hr;refine hi (λe=>?_) s (.head _);subst e;simp at hl
   exact h5 hr
  rw[zzo,zzu,Bb];simp only[jM];rw[zzb (by simp),zzb ?_]
  ·rw[Jw R r (f+1) (n+s.l.length) (L0++[s]) (some s.file) ids true h6 (λt ht=>hg t (.tail _ ht)) (.inr ?_) (.inr (by rw[h1];congr 1;omega)) (by omega) (by omega) (λhd t ht=>hi hd t (.tail _ ht))]
   ·rw[zzb (by simp:¬(s::r=[])),zzb (by simp:¬(s::r=[])),zzk];by_cases hr:r=[]
    ·subst hr;simp[h1]
    rw[zzb hr,zzb hr];congr 2;simp;omega
   unfold cI;rw[yy6];simp only[da.next];omega
  rcases hp with rfl|rfl
  ·simp[vk]
  simp[vk,h1]
def Ux{R:List PF}{f base:Int}(h:ph f R)(h1:base<=f)(h2:f+R.length<=base+4096):fJ base R=R.map PF.id:=by
 unfold fJ;rw[yy2];intro a ha;obtain⟨x,hx,rfl⟩:=zzv.1 ha;have:=h.mem hx;simp only[zzy];omega
def SG{f n:Int}{L:List da}{R:List PF}(hR:ph f R)(hs:∀s∈L,ez s∈R):∀s∈L,∃x,dJ PF.id R s.file=some x/\x.b=gW s:=λs h=>⟨ez s,s8 hR.sorted (hs s h),rfl⟩
def Vg(L:List da):(L.map ez).map PF.id=L.map da.file:=by rw[xxs];rfl
def JX{d:DS}{L:List da}{f n base size:Int}(hc:gG f n L)(hR:d.R=L.map ez)(iu:d.off=false)(b0:0<=base)(b1:base<=12288)(s0:64<=size)(s1:size<=65536)(hf:base<=f)(xa:f+L.length<=base+4096)
  (n1:1<=n) (n2:n+(cR L).length<=1099511627776):eV d base size=(d,.ok ⟨L,base,size,none⟩):=by
 have nE:=hc.sX;have vt:fJ base d.R=L.map da.file:=by
  rw[hR,Ux nE hf (by rw[zzn];exact xa),Vg]
 have hl:=Jw d.R L f n [] none [] true hc (SG (f:=f) (n:=n) (by rw[hR];exact nE) (λs hs=>by rw[hR];exact zzv.2 ⟨s,hs,rfl⟩)) (.inl rfl) (.inl rfl) n1 n2 (λh=>absurd rfl h);rw[zzx]at hl
 unfold eV;rw[zzb (by omega),zzb (by simp[iu]),vt,hl];simp only[lI,zzq];have hb:jl L d (L.map da.file) (if L=[] then true else true)=(d,0):=by
  unfold jl;rcases List.eq_nil_or_concat L with rfl|⟨A,s,rfl⟩
  ·rfl
  simp only[List.concat_eq_append,zzs,zzo,yy4,yy6];rw[zzb (by simp),zzb];have fS:=(hc.bl s (by simp)).1;have:dJ PF.id d.R s.file=some (ez s):=by
   rw[hR];exact s8 (x:=ez s) nE.sorted (by simp)
  unfold gf lH;rw[this,yy6];simp only[ez,fS];omega
 rw[hb];simp
def b_h{d:DS}{A:List da}{l:List (Φ)}{f n base size:Int}{k:Nat}{x:PF}(hc:gG f n A)(hA:∀s∈A,s.l≠[])(hl:∀p∈l,p.length<=1048576)(hR:d.R=A.map ez++[x])(hid:x.id=f+A.length)(uD:x.safe=x.b.length)
  (hb:x.b=(dY (dN (n+(cR A).length).toNat::l)).take k) (iu:d.off=false) (sh:d.arm=0) (b0:0<=base) (b1:base<=12288) (s0:64<=size) (s1:size<=65536) (hf:base<=f) (xa:f+A.length+1<=base+4096)
  (n1:1<=n) (n2:n+(cR A).length+l.length<=1099511627776) :
  ∃L j d',j<=l.length/\(∀i,i<=l.length->(dY (dN (n+(cR A).length).toNat::l.take i)).length<=k->i<=j)/\(∀i,i<=l.length->k<(dY (dN (n+(cR A).length).toNat::l.take i)).length->j<i\/j=0) /\
   eV d base size=(d',.ok ⟨L,base,size,none⟩)/\gG f n L/\cR L=cR A++l.take j/\d'.R=L.map ez/\d'.off=false/\d'.arm=0/\d'.ops<=d.ops+1/\L.length<=A.length+1/\A.length<=L.length/\(A=[]->j=0->L=[]\/(L.length=1/\(dY [dN (n+(cR A).length).toNat]).length<=k))/\((dY [dN (n+(cR A).length).toNat]).length<=k->L≠[]):=by
 have nE:ph f d.R:=by rw[hR];exact hc.sX.snoc (by simpa using hid)
 have sx:=nE.sorted;have vt:fJ base d.R=A.map da.file++[x.id]:=by
  rw[Ux nE hf (by rw[hR];simp;omega),hR,zzs,Vg];rfl
 have jM:=Jw d.R A f n [] none [x.id] true hc (SG (f:=f) (n:=n) nE (λs hs=>by rw[hR];exact wwa _ (zzv.2 ⟨s,hs,rfl⟩))) (.inl rfl) (.inl rfl) n1 (by omega) (λ_=>hA);have AO:dJ PF.id d.R x.id=some x:=by
  have:=sx;rw[hR]at this ⊢;exact Cr this
 have T6:∀b:Bool,vk (if A=[] then (none:Option Int) else some (f+A.length-1)) x.id=false:=by
  intro _;unfold vk;split
  ·rfl
  rename_i g hg;split at hg
  ·cases hg
  cases hg;simp;omega
 have bRh:jA PF.id d.R x.id=A.map ez:=by
  have:=sx;rw[hR]at this ⊢;exact RT this
 have jX:may d x.id=0:=by
  unfold may;rw[zzb (by simp[iu]),zzb (by omega)]
 have bR5:ix PF.id d.R x.id=true:=by
  have:=sx;rw[hR]at this ⊢;exact Df this
 have mS:d.find x.id=0:=by
  unfold DS.find;rw[zzb (by simp[jX]),zzc bR5]
 have AI:d.cE.off=false:=by simp[DS.cE,sh]
 have Td:d.cE.arm=0:=by simp[DS.cE,sh]
 have hh:A≠[]->cI ([]++A)+1=n+(cR A).length:=λh=>by rw[zzq,hc.head h];omega
 have rj:((n+(cR A).length).toNat:Int)=n+(cR A).length:=by omega
 have hbound:¬(base<0\/12288<base\/size<64\/65536<size):=by omega
 rcases cww (n:=(n+(cR A).length).toNat) (l:=l) k (by omega) (by omega) hl with ⟨h1,h2⟩|⟨j,h1,h2,h3⟩
 ·have vw:iY ([]++A) d.R x.id true=((false,true),A):=by
   unfold iY;rw[AO];simp only[yyf,xxd,hb,h1];rfl
  have mU:lI d.R [x.id] (if A=[] then none else some (f+A.length-1)) ([]++A) (if A=[] then true else true)=some (A,false):=by
   rw[Bb];simp only[ttf,vw];rw[T6 true];rfl
  rw[mU]at jM
  refine⟨A,0,{d.cE with R:=A.map ez},zz4 _,λi hi hk=>?_,λi _ _=>.inr rfl,?_,hc,by simp,rfl,AI,Td,by simp[DS.cE],by omega,zzi _,λh _=>.inl h,λhk=>?_⟩
  ·rw[mY,zza]at hk
   rw[mY,zza]at h2
   have:(dY []).length=0:=rfl;omega
  ·have Io:jl A d (A.map da.file++[x.id]) false=({d.cE with R:=A.map ez},0):=by
    unfold jl;rw[yy6];simp only[ww8,DS.remove];rw[zzb (by simp[mS]),zzb (by simp[AI]),bRh]
   unfold eV;rw[zzb hbound,zzb (by simp[iu]),vt,jM];simp only[Io];rfl
  rw[mY,zza]at hk
  rw[mY,zza]at h2
  have:(dY []).length=0:=rfl;omega
 let s:da:=⟨x.id,n+(cR A).length,(dY (dN (n+(cR A).length).toNat::l.take j)).length,l.take j⟩
 have vw:iY ([]++A) d.R x.id true=((true,true),A++[s]):=by
  unfold iY;rw[AO];simp only[yyf,xxd,hb,h3];rw[zzb,rj]
  ·rfl
  rintro (⟨e1,e2⟩|⟨e1,e2⟩|e)
  ·cases e1
  ·by_cases EM:A=[]
   ·subst EM;simp at e1
   have:=hh EM;omega
  rw[zzf]at e;omega
 have mU:lI d.R [x.id] (if A=[] then none else some (f+A.length-1)) ([]++A) (if A=[] then true else true)=some (A++[s],true):=by
  rw[Bb];simp only[ttf,vw];rw[T6 true];rfl
 rw[mU]at jM
 have Ud:gW s=dY (dN (n+(cR A).length).toNat::l.take j):=rfl;have iL:gG f n (A++[s]):=gG.app.2 ⟨hc,λ_=>hA,hid,rfl,rfl,λp hp=>hl p (yyo hp),λh=>absurd rfl h,trivial⟩;have fS:lH (A++[s])=(gW s).length:=by unfold lH;rw[yy6];rfl
 have xf:(gW s).length<=k:=by
  have:=(h2 j h1).2 (zzi _);rw[Ud];exact this
 have rn:(dY (dN (n+(cR A).length).toNat::l)).take (gW s).length=gW s:=by
  have:dY (dN (n+(cR A).length).toNat::l)=gW s++dY (l.drop j):=by
   rw[Ud,mY,mY,zzk,<- cwz,yyl]
  rw[this,wwp]
 have hlen:(gW s).length<=(dY (dN (n+(cR A).length).toNat::l)).length:=by
  rw[<- rn,zzf];omega
 have jY:(gW s).length<=x.b.length:=by rw[hb,zzf];omega
 have Ur:x.b.take (gW s).length=gW s:=by rw[hb,ttk,xxn xf,rn]
 have TJ:gf d.R x.id=x.b.length:=by unfold gf;rw[AO]
 have C5:∃d',jl (A++[s]) d (A.map da.file++[x.id]) true=(d',0)/\d'.R=(A++[s]).map ez/\d'.off=false/\d'.arm=0/\d'.ops<=d.ops+1:=by
  unfold jl;rw[yy6];simp only[TJ,fS];rw[zzb (by simp)];by_cases dd:((gW s).length:Int)<x.b.length
  ·rw[zzc dd];unfold DS.cut;rw[zzb (by simp[mS]),zzb (by rw[TJ];omega),zzb (by simp[AI])];refine⟨_,rfl,?_,AI,Td,by simp[DS.cE]⟩;show ka d.R x.id (jd (((gW s).length:Nat):Int).toNat)=_;rw[hR,KC (by rw[<- hR];exact sx),zzw,zzs];congr 1;simp only[jd,Ur,uD,zzo,yy4,ez];rw[Nat.min_eq_right jY]
  rw[zzb dd];refine⟨d,rfl,?_,iu,sh,by omega⟩;rw[hR,zzs];congr 1;have:x.b=gW s:=by rw[<- Ur,zz2 (by omega)]
  obtain⟨xi,xs,xb⟩:=x;simp only at this uD;simp only[zzo,yy4,ez];rw[uD,this]
 obtain⟨d',Io,r1,r2,r3,r4⟩:=C5;refine⟨A++[s],j,d',h1,λi hi hk=>(h2 i hi).1 hk,λi hi hk=>.inl ?_,?_,iL,by rw[wK];simp[cR,s],r1,r2,r3,r4,by simp,by simp,λh _=>.inr ⟨by simp[h],?_⟩,λ_=>by simp⟩
 ·rcases xxx j i with h|h
  ·exact h
  have:=(h2 i hi).2 h;omega
 ·unfold eV;rw[zzb hbound,zzb (by simp[iu]),vt,jM];simp only[Io];rfl
 have:=(h2 0 (zz4 _)).2 (zz4 _)
 rwa [uu1]at this
def gG.sB:∀{f n:Int} {L:List da},gG f n L->L.length<=(cR L).length+1
 | f,n,[],_=>by simp
 | f,n,[s],_=>by simp
 | f,n,s::t::L,h=>by
  obtain⟨_,_,_,_,h5,h6⟩:=h;have:=h6.sB;have h0:s.l.length≠0:=λe=>h5 (by simp) (zzp e);rw[pB,zza,zzh];omega
structure gw(g:cU)(d:DS)(f n:Int)(es:List (Φ)):Prop where
 chain:gG f n g.bF
 gv:cR g.bF=es
 files:d.R=g.bF.map ez
 nil:g.bF=[]->f=g.base/\n=1
 base:g.base<=f
 b0:0<=g.base
 b1:g.base<=12288
 s0:64<=g.size
 s1:g.size<=65536
 n1:1<=n
 fi:f+es.length+2<=g.base+4096
 off:d.off=false
 du:g.du=none
def gw.head{g:cU}{d:DS}{f n:Int}{es:List (Φ)}(h:gw g d f n es):cI g.bF=n+es.length-1:=by
 by_cases hL:g.bF=[]
 ·have:=h.nil hL;have e:=h.gv;rw[hL]at e ⊢
  rw[<- e,this.2];rfl
 rw[h.chain.head hL,h.gv]
structure wa(g:cU)(f n:Int)(es:List (Φ))(p:Φ)(x:hU)(A:List da)(l0:List (Φ))(pre:Φ):Prop where
 chain:gG f n A
 full:∀s∈A,s.l≠[]
 file:x.file=f+A.length
 gv:cR A++l0=es
 bl:∀q∈l0,q.length<=1048576
 all:pre++x.b=dY (dN (n+(cR A).length).toNat::(l0++[p]))
 b_7:l0=[]\/pre=dY (dN (n+(cR A).length).toNat::l0)
 app:∀t,kH (g.bF.map ez) x.file t=A.map ez++[⟨x.file,pre.length,pre++t⟩]
 put:gG f n (jD g.bF x p)
 Wc:cR (jD g.bF x p)=es++[p]
 cne:(jD g.bF x p).map ez=A.map ez++[⟨x.file,(pre++x.b).length,pre++x.b⟩]
 eO:jD g.bF x p≠[]
 cna:∀s∈jD g.bF x p,s.l≠[]
 pos:0<x.b.length
 len:x.b.length<=27+p.length
 fresh:x.fresh=true->g.bF=A/\pre=[]
 nN:x.fresh=false->g.bF.map ez=A.map ez++[⟨x.file,pre.length,pre⟩]/\lH g.bF=pre.length
def FZ{g:cU}{d:DS}{f n:Int}{es:List (Φ)}(h:gw g d f n es){p:Φ}(hp:p.length<=1048576)(hn:n+es.length<=100000):∃x A l0 pre,eN g false p= .ok x/\wa g f n es p x A l0 pre:=by
 have hh:=h.head;have hc:=h.chain;have hle:=hc.sB;rw[h.gv]at hle
 have tj:=h.fi;have nG:=h.n1;have sx:=hc.sX.sorted;have Tz:∀F:Int,F=f+g.bF.length->(∀s∈g.bF,s.l≠[])->∃x A l0 pre,mu g F p= .ok x/\wa g f n es p x A l0 pre:=by
  intro F hF AN;have e1:(cI g.bF+1).toNat=(n+(cR g.bF).length).toNat:=by rw[hh,h.gv];congr 1;omega
  have ky:jD g.bF ⟨F,true,cZ (dN (cI g.bF+1).toNat)++cZ p⟩ p=g.bF++[⟨F,cI g.bF+1,(cZ (dN (cI g.bF+1).toNat)++cZ p).length,[p]⟩]:=by
   unfold jD;simp
  have eE:cZ (dN (cI g.bF+1).toNat)++cZ p=dY (dN (n+(cR g.bF).length).toNat::[p]):=by rw[e1,mY,mY];simp[dY]
  refine⟨⟨F,true,cZ (dN (cI g.bF+1).toNat)++cZ p⟩,g.bF,[],[],?_,hc,AN,hF,by rw[zzx];exact h.gv,by simp,?_,.inl rfl,λt=>?_,?_,?_,?_,?_,?_,?_,?_,λ_=>⟨rfl,rfl⟩,λe=>by cases e⟩
  ·unfold mu;rw[zzb (by omega)]
  ·exact eE
  ·refine awt sx (λy hy=>?_) t;have:=hc.sX.mem hy;rw[zzn]at this
   show y.id<F;omega
  ·rw[ky];refine gG.app.2 ⟨hc,λ_=>AN,hF,?_,?_,by simpa using hp,λh=>absurd rfl h,trivial⟩
   ·show cI g.bF+1=_;rw[hh,h.gv];omega
   show (cZ (dN (cI g.bF+1).toNat)++cZ p).length=(gW _).length;unfold gW;rw[eE,e1]
  ·rw[ky,wK,h.gv];simp[cR]
  ·rw[ky,zzs,zzq];congr 1;simp only[zzo,yy4,ez,gW];rw[eE,e1]
  ·rw[ky];simp
  ·rw[ky];intro s hs;rcases zz1.1 hs with hs|hs
   ·exact AN s hs
   rw[zz3.1 hs];simp
  ·show 0<(cZ (dN (cI g.bF+1).toNat)++cZ p).length;rw[zza,kD];omega
  show (cZ (dN (cI g.bF+1).toNat)++cZ p).length<=_;rw[zza,kD,kD,AK];omega
 unfold eN;rw[zzb (by omega),zzb (by simp),zzb (by omega)];rcases List.eq_nil_or_concat g.bF with hL|⟨A,s,hL⟩
 ·have IT:=h.nil hL;rw[hL];simp only[List.getLast?_nil];exact Tz g.base (by rw[hL];simp;omega) (by rw[hL];simp)
 rw[List.concat_eq_append]at hL
 have hLg:g.bF.getLast?=some s:=by rw[hL,yy6]
 rw[hLg];simp only;rw[hL]at hc
 obtain⟨h1,h2,c1,c2,c3,c4,c5,c6⟩:=gG.app.1 hc;have Fa:=h2 (by simp);by_cases Is:s.l.length=0\/(s.size:Int)+(cZ p).length<=g.size
 ·rw[zzc Is];have ky:jD g.bF ⟨s.file,false,cZ p⟩ p=A++[{s with size:=s.size+(cZ p).length,l:=s.l++[p]}]:=by
   unfold jD;rw[zzb (by simp)];simp only[hL,List.dropLast_concat,yy6];rfl
  have eE:gW s++cZ p=dY (dN (n+(cR A).length).toNat::(s.l++[p])):=by
   unfold gW;rw[c2,<- zzu,Wn]
  have SS:gW {s with size:=s.size+(cZ p).length,l:=s.l++[p]}=gW s++cZ p:=by
   unfold gW;rw[<- zzu,Wn]
  refine⟨⟨s.file,false,cZ p⟩,A,s.l,gW s,rfl,h1,Fa,c1,?_,c4,eE,.inr (by unfold gW;rw[c2]),λt=>?_,?_,?_,?_,?_,?_,?_,?_,λe=>(by cases e),λ_=>⟨?_,?_⟩⟩
  ·rw[<- h.gv,hL,wK];simp[cR]
  ·rw[hL,zzs]at sx ⊢
   exact aws (x:=ez s) sx t
  ·rw[ky];refine gG.app.2 ⟨h1,λ_=>Fa,c1,c2,?_,λq hq=>?_,λh=>absurd rfl h,trivial⟩
   ·rw[SS,zza,<- c3]
   rcases zz1.1 hq with hq|hq
   ·exact c4 q hq
   rw[zz3.1 hq];exact hp
  ·rw[ky,wK,<- h.gv,hL,wK];simp[cR]
  ·rw[ky,zzs];simp only[zzo,yy4,ez,SS]
  ·rw[ky];simp
  ·rw[ky];intro t ht;rcases zz1.1 ht with ht|ht
   ·exact Fa t ht
   rw[zz3.1 ht];simp
  ·show 0<(cZ p).length;rw[kD];omega
  ·show (cZ p).length<=_;rw[kD];omega
  ·rw[hL,zzs];rfl
  unfold lH;rw[hL,yy6];show ((s.size:Nat):Int)=_;rw[c3]
 rw[zzb Is];refine Tz (s.file+1) (by rw[hL,c1];simp;omega) (by
  intro t ht;rw[hL]at ht
  rcases zz1.1 ht with ht|ht
  ·exact Fa t ht
  rw[zz3.1 ht];intro e;exact Is (.inl (by rw[e];rfl)))
def oG(d:DS)(f n:Int)(es:List (Φ))(p:Φ)(whole:Bool):Prop:=∃A l0 pre k,
 gG f n A/\(∀s∈A,s.l≠[])/\cR A++l0=es/\(∀q∈l0++[p],q.length<=1048576)/\(l0=[]\/pre=(dY (dN (n+(cR A).length).toNat::l0)).length)/\pre<=k/\k<=(dY (dN (n+(cR A).length).toNat::(l0++[p]))).length /\
 (whole=false->k<(dY (dN (n+(cR A).length).toNat::(l0++[p]))).length)/\d.R=A.map ez++[⟨f+A.length,pre,(dY (dN (n+(cR A).length).toNat::(l0++[p]))).take k⟩]
def wa.du{g:cU}{f n:Int}{es:List (Φ)}{p:Φ}{x:hU}{A:List da}{l0:List (Φ)}{pre:Φ}(h:wa g f n es p x A l0 pre)(hp:p.length<=1048576){d:DS}{m:Nat}{whole:Bool}(hm:m<=x.b.length)(hw:whole=false->m<x.b.length)
  (hR:d.R=kH (g.bF.map ez) x.file (x.b.take m)):oG d f n es p whole:=by
 have eE:=h.all;have hl:(dY (dN (n+(cR A).length).toNat::(l0++[p]))).length=pre.length+x.b.length:=by rw[<- eE,zza]
 refine⟨A,l0,pre.length,pre.length+m,h.chain,h.full,h.gv,λq hq=>?_,?_,by omega,by omega,λe=>by have:=hw e;omega,?_⟩
 ·rcases zz1.1 hq with hq|hq
  ·exact h.bl q hq
  rw[zz3.1 hq];exact hp
 ·rcases h.b_7 with h1|h1
  ·exact .inl h1
  exact .inr (by rw[h1])
 rw[hR,h.app,<- eE,wwd,h.file]
def Hv(A B:List PF)(keep:Ω):∀hA:(∀x∈A,x.safe=x.b.length),eT (A++B) keep=A++B.mapIdx λi=>iV keep (A.length+i):=by
 intro hA;unfold eT;rw[uu2];congr 1
 ·refine xxp (by simp) λi h1 h2=>?_;rw[vv3];have hx:=hA A[i] (zzg h2);have hm:jO keep i A[i]=0:=by
   have:=xN (keep:=keep) (i:=i) (x:=A[i]) (by omega);omega
  unfold iV;rw[hm,hx,xxg,Nat.min_self,zz0,<- hx]
 congr 1
 funext i
 rw[uu0]
def WS(A:List da):∀x∈A.map ez,x.safe=x.b.length:=λx hx=>by
 obtain⟨s,_,rfl⟩:=zzv.1 hx;rfl
def Rx{L:List da}(keep:Ω):eT (L.map ez) keep=L.map ez:=by
 have:=Hv (L.map ez) [] keep (WS L);simpa using this
def Xq{d:DS}{f n:Int}{es:List (Φ)}{p:Φ}{whole:Bool}(h:oG d f n es p whole)(keep:Ω){base size:Int}(b0:0<=base)(b1:base<=12288)(s0:64<=size)(s1:size<=65536)(hf:base<=f)(xa:f+es.length+4<=base+4096)
  (n1:1<=n) (n2:n+es.length+1<=100000) (hn:es=[]->(f=base/\n=1)\/∀y∈d.R,(dY [dN n.toNat]).length<=y.safe) :
  ∃g d' iK,eV (d.eD keep) base size=(d',.ok g)/\gw g d' f n iK/\d'.arm=0/\d'.ops<=d.ops+1/\g.base=base/\g.size=size/\(iK=es\/(whole=true/\iK=es++[p])):=by
 obtain⟨A,l0,pre,k,hA,AN,Iv,pK,pR,o7,fO,hw,hR⟩:=h;have se:=hA.sB;have hl:(cR A).length+l0.length=es.length:=by rw[<- Iv,zza]
 let T:=dY (dN (n+(cR A).length).toNat::(l0++[p]))
 have S4:(T.take k).length=k:=by rw[zzf];exact xxn fO
 let y:=iV keep (A.map ez).length ⟨f+A.length,pre,T.take k⟩
 have l6:(d.eD keep).R=A.map ez++[y]:=by
  show eT d.R keep=_;rw[hR,Hv _ _ _ (WS A)];rfl
 have uD:pre<=(T.take k).length:=by rw[S4];exact o7
 have uG:y.b.length=pre+jO keep (A.map ez).length ⟨f+A.length,pre,T.take k⟩:=B_ (x:=⟨f+A.length,pre,T.take k⟩) uD;have hy2:y.safe=pre+jO keep (A.map ez).length ⟨f+A.length,pre,T.take k⟩:=Ep (x:=⟨f+A.length,pre,T.take k⟩) uD;have mw:pre+jO keep (A.map ez).length ⟨f+A.length,pre,T.take k⟩<=k:=by
  have:=xN (keep:=keep) (i:=(A.map ez).length) (x:=⟨f+A.length,pre,T.take k⟩) uD;simpa [S4] using this
 have hyb:y.b=T.take (pre+jO keep (A.map ez).length ⟨f+A.length,pre,T.take k⟩):=by
  show (T.take k).take _=_;rw[ttk,xxn mw]
 generalize hm:pre+jO keep (A.map ez).length ⟨f+A.length,pre,T.take k⟩=m at *
 obtain⟨L,j,d',j1,j2,j3,ho,hc,he,hR',IU,uq,dS,_,_,_,bIx⟩:=b_h (d:=d.eD keep) (A:=A) (l:=l0++[p]) (f:=f) (n:=n) (base:=base) (size:=size) (k:=m) (x:=y) hA AN pK l6 rfl (by rw[uG,hy2]) hyb rfl rfl b0 b1 s0 s1 hf (by omega) n1 (by simp;omega);have tq:l0.length<=j:=by
  rcases pR with rfl|pR
  ·simp
  refine j2 l0.length (by simp) ?_;rw[wwp,<- pR];omega
 have CO:j<=l0.length+1:=by simpa using j1
 refine⟨⟨L,base,size,none⟩,d',cR L,ho,⟨hc,rfl,hR',λhL=>?_,hf,b0,b1,s0,s1,n1,?_,IU,rfl⟩,uq,dS,rfl,rfl,?_⟩
 ·have hL:L=[]:=hL;have h0:(cR L).length=0:=by rw[hL];rfl
  rw[he,zza,zzf,zza]at h0
  simp only[zzh,yyp]at h0;rcases hn (zzp (by omega)) with hn|hn
  ·exact hn
  have EM:A=[]:=by
   cases A with
   | nil=>rfl
   | cons s r=>
    have h1:=AN s (.head _);have h2:0<s.l.length:=xx2.2 h1;rw[pB,zza]at h0
    omega
  have hs:=hn ⟨f+A.length,pre,(dY (dN (n+(cR A).length).toNat::(l0++[p]))).take k⟩ (by rw[hR];simp);refine absurd hL (bIx ?_);have hs:(dY [dN n.toNat]).length<=pre:=hs;subst EM;show (dY [dN (n+((cR []).length:Nat)).toNat]).length<=m;rw[show n+((cR ([]:List da)).length:Int)=n by show n+((0:Nat):Int)=n;omega];omega
 ·show f+((cR L).length:Int)+2<=base+4096;rw[he,zza,zzf];simp;omega
 rw[he];rcases xxx l0.length j with hj|hj
 ·right;have:j=l0.length+1:=by omega
  subst this;refine⟨?_,by rw[zz2 (by simp),<- zzk,Iv]⟩;cases whole with
  | true=>rfl
  | false=>
   have h1:=hw rfl;rcases j3 (l0.length+1) (by simp) (by rw[zz2 (by simp)];exact Nat.lt_of_le_of_lt mw h1) with h2|h2<;>omega
 left;have:j=l0.length:=by omega
 subst this;rw[wwp,Iv]
def cCc{d:DS}{f n:Int}{es:List (Φ)}{p:Φ}{whole:Bool}(h:oG d f n es p whole)(keep:Ω){base size:Int}(b0:0<=base)(b1:base<=12288)(s0:64<=size)(s1:size<=65536)(hf:base<=f)(xa:f+es.length+4<=base+4096)
  (n1:1<=n) (n2:n+es.length+1<=100000) (hn:f=base/\n=1) :
  ∃g d' iK,eV (d.eD keep) base size=(d',.ok g)/\gw g d' f n iK/\d'.arm=0/\d'.ops<=d.ops+1/\g.base=base/\g.size=size/\(iK=es\/(whole=true/\iK=es++[p])):=
 Xq h keep b0 b1 s0 s1 hf xa n1 n2 λ_=>.inl hn
def wa.may{g:cU}{d:DS}{f n:Int}{es:List (Φ)}{p:Φ}{x:hU}{A:List da}{l0:List (Φ)}{pre:Φ}(h:wa g f n es p x A l0 pre)(hi:gw g d f n es){d':DS}(ho:d'.off=false):may d' x.file=0/\0<=x.file/\x.file<16384:=by
 have h1:=h.chain.sB;have h2:(cR A).length+l0.length=es.length:=by rw[<- h.gv,zza]
 have:=hi.fi;have:=hi.base;have:=hi.b0;have:=hi.b1;have h3:=h.file;refine⟨?_,by omega,by omega⟩;unfold Go.Proofs.YtmkllimamejcgaaGreat.may;rw[zzb (by simp[ho]),zzb (by omega)]
def Hf{g:cU}{d a s:DS}{p:Φ}{x:hU}{e1 e2:Int}(hp:eN g d.off p= .ok x)(hm:de g d=((g,d),0))(ha:d.append x.file x.b=(a,e1))(hs:a.sync x.file=(s,e2)):
  fj g d p=if e1≠0 then ((g,a),(0,e1)) else if e2≠0 then ((g,s),(0,e2)) else (({g with bF:=jD g.bF x p},s),(cI (jD g.bF x p),0)):=by
 unfold fj;rw[hp];simp only[hm];rw[zzb (by decide),ha];simp only[hs]
def cBw{g:cU}{d a:DS}{p:Φ}{k:Int}{x:hU}(hk:0<=k)(hp:eN g d.off p= .ok x)(hm:de g d=((g,d),0))(ha:d.append x.file (x.b.take (k.toNat % x.b.length))=(a,0)):
  gk g d p k=(({g with du:=some ⟨x.file,if x.fresh=true then 0 else lH g.bF,x.fresh⟩},a),0):=by
 unfold gk;rw[zzb (by omega),hp];simp only[hm];rw[zzb (by decide),ha];simp only;rw[zzb (by decide)]
def append_eq{d:DS}{f:Int}{b:Φ}(hm:may d f=0):d.append f b=({d.cE with R:=kH d.R f b},d.cE.err):=by
 unfold DS.append;rw[zzb (by simp[hm])]
def aw0{g:cU}{d:DS}{f n:Int}{es:List (Φ)}(h:gw g d f n es){p:Φ}{x:hU}{A:List da}{l0:List (Φ)}{pre:Φ}(hx:eN g false p= .ok x)(hr:wa g f n es p x A l0 pre)(he:es=[])(hs:g.bF≠[]):(dY [dN n.toNat]).length<=pre.length:=by
 have h1:=hr.gv;rw[he]at h1
 obtain⟨wU,rh⟩:=vvk.1 h1;have hA:A=[]:=by
  cases A with
  | nil=>rfl
  | cons s r=>rw[pB]at wU;exact absurd (vvk.1 wU).1 (hr.full s (.head _))
 subst hA rh;have eE:=hr.all;have hb:x.b=cZ p:=by
  unfold eN at hx;split at hx
  ·cases hx
  rw[zzb (by decide)]at hx
  split at hx
  ·cases hx
  cases hg:g.bF.getLast? with
  | none=>exact absurd (List.getLast?_eq_none_iff.1 hg) hs
  | some s=>
   rw[hg]at hx
   simp only at hx;have I8:s.l=[]:=by
    have h2:=h.gv;rw[he]at h2
    have hm:=xxu hg;unfold cR at h2;exact List.flatten_eq_nil_iff.1 h2 _ (vv4 hm)
   rw[zzc (.inl (by rw[I8];rfl))]at hx
   cases hx;rfl
 rw[hb,zzq,mY,show dY [p]=cZ p by simp[dY]]at eE
 have:=yyu List.length eE;rw[zza,zza]at this
 rw[show n+((cR ([]:List da)).length:Int)=n by show n+((0:Nat):Int)=n;omega]at this
 rw[mY,zza,show dY []=[] from rfl,yyp];omega
def P1{g:cU}{d:DS}{f n:Int}{es:List (Φ)}(h:gw g d f n es){p:Φ}(hp:p.length<=1048576)(hn:n+es.length<=100000)(tj:f+es.length+3<=g.base+4096)(ha:0<=d.arm):
  (∃g' d',fj g d p=((g',d'),(n+es.length,0))/\gw g' d' f n (es++[p])/\d'.ops=d.ops+2/\0<=d'.arm/\(d.arm=0->d'.arm=0)/\g'.base=g.base/\g'.size=g.size/\(∀s∈g'.bF,s.l≠[])/\d.arm≠1/\d.arm≠2) \/
  (∃d',fj g d p=((g,d'),(0,8))/\oG d' f n es p true/\d'.off=true/\d'.ops<=d.ops+2/\d.arm≠0/\(es=[]->g.bF≠[]->∀y∈d'.R,(dY [dN n.toNat]).length<=y.safe)):=by
 obtain⟨x,A,l0,pre,dZ,hr⟩:=FZ h hp hn;have tm:∀R:List PF,R=kH d.R x.file x.b->es=[]->g.bF≠[]->∀y∈R,(dY [dN n.toNat]).length<=y.safe:=λR hR he hs y hy=>by
  have h1:=aw0 h dZ hr he hs;have h2:=hr.gv;rw[he]at h2
  have hA:A=[]:=by
   cases A with
   | nil=>rfl
   | cons s r=>rw[pB,zzk]at h2;exact absurd (vvk.1 h2).1 (hr.full s (.head _))
  have tc:=hr.app x.b;rw[<- h.files,hA]at tc
  rw[hR,tc]at hy
  have:y=⟨x.file,pre.length,pre++x.b⟩:=by simpa using hy
  rw[this];exact h1
 have iu:=h.off;have hm:de g d=((g,d),0):=by unfold de;rw[h.du]
 obtain⟨jX,f0,f1⟩:=hr.may h iu;have tf:=append_eq (b:=x.b) jX;by_cases h1:d.arm=1
 ·right;have e:d.cE.off=true:=by simp[DS.cE,h1]
  refine⟨{d.cE with R:=kH d.R x.file x.b},?_,hr.du hp (m:=x.b.length) (zzi _) (λe=>by cases e) (by rw[zz0,h.files]),e,by simp[DS.cE],by omega,tm _ rfl⟩;have e2:d.cE.err=8:=by unfold DS.err;rw[e];rfl
  rw[Hf (by rw[iu];exact dZ) hm tf rfl,e2];rfl
 have e:d.cE.off=false:=by simp[DS.cE,h1]
 have e2:d.cE.err=0:=by unfold DS.err;rw[e];rfl
 have tc:=hr.app x.b;rw[<- h.files]at tc
 let d1:DS:={d.cE with R:=kH d.R x.file x.b}
 have nE:ph f (A.map ez++[⟨x.file,pre.length,pre++x.b⟩]):=hr.chain.sX.snoc (by rw[zzn];exact hr.file);have jC:d1.R=A.map ez++[⟨x.file,pre.length,pre++x.b⟩]:=tc;have mS:d1.find x.file=0:=by
  unfold DS.find;rw[zzb (by rw[(hr.may h (d':=d1) e).1];simp)];have hs:=nE.sorted;rw[jC,zzc (Df (x:=⟨x.file,pre.length,pre++x.b⟩) hs)]
 rw[e2]at tf
 by_cases h2:d.arm=2
 ·right;have e3:d1.cE.off=true:=by simp[DS.cE,d1,h2]
  have I9:d1.sync x.file=(d1.cE,8):=by
   unfold DS.sync;rw[zzb (by simp[mS]),zzc e3]
  rw[Hf (by rw[iu];exact dZ) hm tf I9];refine⟨d1.cE,rfl,hr.du hp (m:=x.b.length) (zzi _) (λe=>by cases e) (by rw[zz0,<- h.files];rfl),e3,by simp[DS.cE,d1],by omega,tm _ rfl⟩
 left;have S8:d1.arm=if 0<d.arm then d.arm-1 else d.arm:=rfl
 have e3:d1.cE.off=false:=zzz (by rw[S8];split<;>omega);have CE:0<=d1.arm:=by rw[S8];split<;>omega
 have I9:d1.sync x.file=({d1.cE with R:=ka d1.R x.file λy=>{y with safe:=y.b.length}},0):=by
  unfold DS.sync;rw[zzb (by simp[mS]),zzb (by simp[e3])]
 rw[Hf (by rw[iu];exact dZ) hm tf I9];have jV:=hr.put;have hup:ka d1.R x.file (λy=>{y with safe:=y.b.length})=(jD g.bF x p).map ez:=by
  rw[jC,KC (x:=⟨x.file,pre.length,pre++x.b⟩) nE.sorted,hr.cne]
 refine⟨{g with bF:=jD g.bF x p},{d1.cE with R:=ka d1.R x.file λy=>{y with safe:=y.b.length}},?_,⟨jV,hr.Wc,hup,λe=>absurd e hr.eO,h.base,h.b0,h.b1,h.s0,h.s1,h.n1,?_,e3,h.du⟩,by simp[DS.cE,d1],?_,λh0=>by simp[DS.cE,d1,h0],rfl,rfl,hr.cna,h1,h2⟩
 ·have:cI (jD g.bF x p)=n+es.length:=by
   rw[jV.head hr.eO,hr.Wc,zza];simp;omega
  rw[zzb (by decide),zzb (by decide),this]
 ·show f+((es++[p]).length:Int)+2<=g.base+4096;rw[zza];simp;omega
 show 0<=if 0<d1.arm then d1.arm-1 else d1.arm
 split<;>omega
def aw1{g:cU}{d:DS}{f n:Int}{es:List (Φ)}(h:gw g d f n es){p:Φ}(hp:p.length<=1048576)(hn:n+es.length<=100000)(tj:f+es.length+3<=g.base+4096)(ha:0<=d.arm):
  (∃g' d',fj g d p=((g',d'),(n+es.length,0))/\gw g' d' f n (es++[p])/\d'.ops=d.ops+2/\0<=d'.arm/\(d.arm=0->d'.arm=0)/\g'.base=g.base/\g'.size=g.size/\(∀s∈g'.bF,s.l≠[])/\d.arm≠1/\d.arm≠2) \/
  (∃d',fj g d p=((g,d'),(0,8))/\oG d' f n es p true/\d'.off=true/\d'.ops<=d.ops+2/\d.arm≠0):=by
 rcases P1 h hp hn tj ha with h1|⟨d',a,b,c,e,k,_⟩
 ·exact .inl h1
 exact .inr ⟨d',a,b,c,e,k⟩
def oG.sM{d d':DS}{f n:Int}{es:List (Φ)}{p:Φ}{whole:Bool}(h:oG d f n es p whole)(hR:d'.R=d.R):oG d' f n es p whole:=by
 obtain⟨A,l0,pre,k,h⟩:=h;exact⟨A,l0,pre,k,by rw[hR];exact h⟩
def aw3{g g1:cU}{d d1:DS}{p:Φ}(hm:de g d=((g1,d1),0))(hs:g1.bF=g.bF)(hb:g1.base=g.base)(hz:g1.size=g.size)(ho:d.off=false)(vy:d1.off=false)(ht:g1.du=none){x:hU}(hx:eN g1 false p= .ok x):fj g d p=fj g1 d1 p:=by
 have hp:eN g false p=eN g1 false p:=by
  unfold eN mu;rw[hs,hb,hz]
 have CR:de g1 d1=((g1,d1),0):=by unfold de;rw[ht]
 unfold fj;rw[ho,vy,hp,hx];simp only[hm,CR]
def J6{g:cU}{off:Bool}{p:Φ}{x:hU}(h:eN g off p= .ok x):x.b.length<=27+p.length:=by
 have hf:∀F,mu g F p= .ok x->x.b.length<=27+p.length:=λF h=>by
  unfold mu at h;split at h
  ·cases h
  cases h;simp only[zza,kD,AK];omega
 unfold eN at h;split at h
 ·cases h
 split at h
 ·cases h
 split at h
 ·cases h
 split at h
 ·exact hf _ h
 split at h
 ·cases h;simp only[kD];omega
 exact hf _ h
def FU{g:cU}{d:DS}{N:Nat}(h:d.Ok N):(de g d).1.2.Ok N:=by
 unfold de;split
 ·exact h
 simp only;split
 ·exact h.remove _
 exact h.cut _ _
def P0{g:cU}{d:DS}{N:Nat}(h:d.Ok N)(p:Φ):(fj g d p).1.2.Ok (N+(27+p.length)):=by
 unfold fj;split
 ·exact h.mono (by omega)
 rename_i x hx;have hl:=J6 hx;have hm:=FU (g:=g) h;simp only;split
 ·exact hm.mono (by omega)
 have ha:=(hm.append x.file x.b).mono (M:=N+(27+p.length)) (by omega);split
 ·exact ha
 have hs:=ha.sync x.file;split
 ·exact hs
 exact hs
def cB0{g:cU}{d:DS}{N:Nat}(h:d.Ok N)(p:Φ)(k:Int):(gk g d p k).1.2.Ok (N+(27+p.length)):=by
 unfold gk;split
 ·exact h.mono (by omega)
 split
 ·exact h.mono (by omega)
 rename_i x hx;have hl:=J6 hx;have hm:=FU (g:=g) h;simp only;split
 ·exact hm.mono (by omega)
 have ha:=(hm.append x.file (x.b.take (k.toNat % x.b.length))).mono (M:=N+(27+p.length)) (by rw[zzf];omega);split
 ·exact ha
 exact ha
def Xw{N:Nat}(k:Int):∀(L:List da) (d:DS),d.Ok N->(gE L d k).1.2.Ok N
 | [],d,h=>h
 | [s],d,h=>h
 | s::t::L,d,h=>by
  rw[gE];split
  ·split
   ·exact h.remove _
   exact Xw k (t::L) _ (h.remove _)
  exact h
def cCg{g:cU}{d:DS}{N:Nat}(h:d.Ok N)(k:Int):(gR g d k).1.2.Ok N:=by
 unfold gR;split
 ·exact h
 exact Xw k g.bF d h
def Hl{L:List da}{d:DS}{ids:Ω}{wh:Bool}{N:Nat}(h:d.Ok N):(jl L d ids wh).1.Ok N:=by
 unfold jl;split
 ·exact h
 split
 ·exact h.remove _
 split
 ·exact h.cut _ _
 exact h
def FW{d:DS}{base size:Int}{N:Nat}(h:d.Ok N):(eV d base size).1.Ok N:=by
 unfold eV;split
 ·exact h
 split
 ·exact h
 split
 ·exact h
 split
 ·exact Hl h
 exact Hl h
def kR.mono{s:da}{N M:Nat}(h:kR s N)(hm:N<=M):kR s M:=⟨h.f0,h.f1,h.n0,h.n1,yyy h.sz hm,yyy h.ln hm,h.bl⟩
def cU.Ok.mono{g:cU}{N M:Nat}(h:g.Ok N)(hm:N<=M):g.Ok M:=⟨λs hs=>(h.bF s hs).mono hm,h.b0,h.b1,h.s0,h.s1,yyy h.ln hm⟩
def cU.Ok.congr{g g':cU}{N:Nat}(h:g.Ok N)(h1:g'.bF=g.bF)(h2:g'.base=g.base)(h3:g'.size=g.size):g'.Ok N:=
 ⟨by rw[h1];exact h.bF,by rw[h2];exact h.b0,by rw[h2];exact h.b1,by rw[h3];exact h.s0,by rw[h3];exact h.s1,by rw[h1];exact h.ln⟩
def tH(g:cU)(d:DS):(de g d).1.1.bF=g.bF/\(de g d).1.1.base=g.base/\(de g d).1.1.size=g.size:=by
 unfold de;split<;>exact⟨rfl,rfl,rfl⟩
def JF{g:cU}{d:DS}{N:Nat}(h:g.Ok N):(de g d).1.1.Ok N:=let ⟨a,b,c⟩:=tH g d;h.congr a b c
structure Ad(g:cU)(p:Φ)(x:hU):Prop where
 pl:p.length<=1048576
 hd:cI g.bF<1099511627776
 nN:x.fresh=false->∃s,g.bF.getLast?=some s/\x.file=s.file
 f0:x.fresh=true->0<=x.file/\x.file<=100000
 bl:x.b.length<=27+p.length
 pos:8<=x.b.length
def FY{g:cU}{N:Nat}(h:g.Ok N){off:Bool}{p:Φ}{x:hU}(hx:eN g off p= .ok x):Ad g p x:=by
 have hb:=J6 hx;have h0:=h.b0;have h1:=h.b1;have hp:p.length<=1048576:=by
  unfold eN at hx;split at hx
  ·cases hx
  omega
 have uw:∀F,0<=F->cI g.bF<1099511627776->mu g F p= .ok x->Ad g p x:=λF hF hd hx=>by
  unfold mu at hx;split at hx
  ·cases hx
  cases hx;exact⟨hp,hd,λe=>(by cases e),λ_=>⟨hF,by show F<=100000;omega⟩,hb,by show 8<=(cZ _++cZ p).length;rw[zza,kD];omega⟩
 unfold eN at hx;rw[zzb (by omega)]at hx
 split at hx
 ·cases hx
 split at hx
 ·cases hx
 rename_i hd;have hd:cI g.bF<1099511627776:=by omega
 split at hx
 ·exact uw _ h0 hd hx
 rename_i s hs;split at hx
 ·cases hx;exact⟨hp,hd,λ_=>⟨s,hs,rfl⟩,λe=>(by cases e),hb,by show 8<=(cZ p).length;rw[kD];omega⟩
 have:=(h.bF s (xxu hs)).f0;exact uw _ (by omega) hd hx
def tI(L:List da)(x:hU):List da:=if x.fresh=true then L++[⟨x.file,cI L+1,0,[]⟩] else L
def uZ(s:da)(n:Nat)(p:Φ):da:={s with size:=s.size+n,l:=s.l++[p]}
def F0(L:List da)(x:hU)(p:Φ){A:List da}{s:da}(h:tI L x=A++[s]):jD L x p=A++[uZ s x.b.length p]:=by
 unfold jD;have:(if x.fresh=true then L++[⟨x.file,cI L+1,0,[]⟩] else L)=A++[s]:=h;rw[this];simp only[List.dropLast_concat,yy6];rfl
def JG{g:cU}{p:Φ}{x:hU}(h:Ad g p x):∃A s,tI g.bF x=A++[s]:=by
 unfold tI;cases hf:x.fresh with
 | true=>exact⟨_,_,rfl⟩
 | false=>
  obtain⟨s,hs,_⟩:=h.nN hf;obtain⟨A,hA⟩:=List.getLast?_eq_some_iff.1 hs;exact⟨A,s,by rw[zzb (by decide)];exact hA⟩
def Vy{g:cU}{N:Nat}(hg:g.Ok N){p:Φ}{x:hU}(h:Ad g p x):∀s∈tI g.bF x,kR s N:=by
 intro s hs;unfold tI at hs;split at hs
 ·rename_i hf;rcases zz1.1 hs with hs|hs
  ·exact hg.bF s hs
  rw[zz3.1 hs];have:=th hg.bF;have:=h.hd;exact⟨(h.f0 hf).1,(h.f0 hf).2,by show 1<=cI g.bF+1;omega,by show cI g.bF+1<=_;omega,zz4 _,zz4 _,λb hb=>by cases hb⟩
 exact hg.bF s hs
def bYy(L:List da)(x:hU):(tI L x).length<=L.length+1:=by
 unfold tI;split<;>simp
def Wd{g:cU}{N:Nat}(hg:g.Ok N){p:Φ}{x:hU}(h:Ad g p x):(∀s∈jD g.bF x p,kR s (N+(28+p.length)))/\(jD g.bF x p).length<=N+1:=by
 obtain⟨A,s,hA⟩:=JG h;have cG:=Vy hg h;have hl:=bYy g.bF x;have hn:=hg.ln;rw[F0 _ _ _ hA];rw[hA]at cG hl
 refine⟨λt ht=>?_,by simp at hl ⊢;omega⟩;rcases zz1.1 ht with ht|ht
 ·exact (cG t (wwa _ ht)).mono (by omega)
 rw[zz3.1 ht];have hs:=cG s (by simp);have:=hs.sz;have:=hs.ln;have:=h.bl;refine⟨hs.f0,hs.f1,hs.n0,hs.n1,by show s.size+x.b.length<=_;omega,by show (s.l++[p]).length<=_;simp;omega,λb hb=>?_⟩;rcases zz1.1 hb with hb|hb
 ·exact hs.bl b hb
 rw[zz3.1 hb];exact h.pl
def KB(n:Int):∀(L:List da) (d:DS),(∀s∈(gE L d n).1.1,s∈L)/\(gE L d n).1.1.length<=L.length
 | [],d=>⟨λs hs=>hs,zzi _⟩
 | [t],d=>⟨λs hs=>hs,zzi _⟩
 | t::u::L,d=>by
  rw[gE];split
  ·split
   ·exact⟨λs hs=>hs,zzi _⟩
   obtain⟨h1,h2⟩:=KB n (u::L) (d.remove t.file).1;exact⟨λs hs=>.tail _ (h1 s hs),by simp at h2 ⊢;omega⟩
  exact⟨λs hs=>hs,zzi _⟩
def cCf{g:cU}{d:DS}{N:Nat}(h:g.Ok N)(n:Int):(gR g d n).1.1.Ok N:=by
 unfold gR;split
 ·exact h
 obtain⟨h1,h2⟩:=KB n g.bF d;exact⟨λs hs=>h.bF s (h1 s hs),h.b0,h.b1,h.s0,h.s1,yyy h2 h.ln⟩
def iP:List da->Prop
 | []=>True
 | [_]=>True
 | s::t::r=>t.first=s.next/\iP (t::r)
def iP.tail{s:da}{L:List da}(h:iP (s::L)):iP L:=by
 cases L with
 | nil=>trivial
 | cons t r=>exact h.2
def iP.drop{L:List da}(h:iP L):∀i,iP (L.drop i)
 | 0=>h
 | i+1=>by
  cases L with
  | nil=>exact trivial
  | cons s L=>exact iP.drop h.tail i
def iP.snoc:∀{L:List da} {x:da},iP L->(L≠[]->x.first=cI L+1)->iP (L++[x])
 | [],x,_,_=>trivial
 | [s],x,_,h=>⟨by have:=h (by simp);simp only[cI,List.getLast?_singleton]at this;omega,trivial⟩
 | s::t::r,x,h,hx=>by
  refine⟨h.1,?_⟩;refine iP.snoc (L:=t::r) h.2 λ_=>?_;have:=hx (by simp);simp only[cI,uug]at this ⊢;exact this
def iP.last:∀{A:List da} {s t:da},iP (A++[s])->t.first=s.first->iP (A++[t])
 | [],s,t,_,_=>trivial
 | [a],s,t,h,e=>⟨by rw[e];exact h.1,trivial⟩
 | a::b::r,s,t,h,e=>⟨h.1,iP.last (A:=b::r) h.2 e⟩
def TOk(g:cU):Prop:=∀x,g.du=some x->0<=x.file/\x.file<=100000/\(x.fresh=false->∃s,g.bF.getLast?=some s/\s.file=x.file/\x.oe=s.size)/\(x.fresh=true->∀s,g.bF.getLast?=some s->s.file≠x.file)
structure ij(g:cU)(M:Nat):Prop where
 ok:g.Ok M
 seq:iP g.bF
 hd:cI g.bF<=1099511627776
 du:TOk g
def ij.mono{g:cU}{N M:Nat}(h:ij g N)(hm:N<=M):ij g M:=⟨h.ok.mono hm,h.seq,h.hd,h.du⟩
def Vs(g:cU)(d:DS):(de g d).1.1.du=if (de g d).2=0 then none else g.du:=by
 unfold de;split
 ·rename_i h;simp[h]
 rename_i x h;simp only;split<;>simp[h]
def Vq{g:cU}{d:DS}{M:Nat}(h:ij g M):ij (de g d).1.1 M:=by
 obtain⟨h1,h2,h3⟩:=tH g d;refine⟨JF h.ok,by rw[h1];exact h.seq,by rw[h1];exact h.hd,λx hx=>?_⟩;rw[Vs]at hx
 split at hx
 ·cases hx
 rw[h1];exact h.du x hx
def Iu(A:List da)(s:da):cI (A++[s])=s.next-1:=by
 unfold cI;rw[yy6]
def cng{g:cU}{M:Nat}(h:ij g M){p:Φ}{x:hU}(hw:Ad g p x)(ht:g.du=none):ij {g with bF:=jD g.bF x p} (M+(28+p.length)):=by
 obtain⟨k1,k2⟩:=Wd h.ok hw;have hb:=h.ok;have tm:=hw.hd;obtain⟨A,s,hA⟩:=JG hw;have I7:iP (A++[s])/\s.next-1<=cI g.bF:=by
  rw[<- hA];unfold tI at hA ⊢;split
  ·rename_i hf;rw[zzc hf]at hA
   have hs:=List.append_inj' hA rfl;have e:s=⟨x.file,cI g.bF+1,0,[]⟩:=by simpa using hs.2.symm
   refine⟨h.seq.snoc λ_=>rfl,?_⟩;rw[e];simp[da.next]
  rename_i hf;rw[zzb hf]at hA
  refine⟨h.seq,?_⟩;rw[hA,Iu];exact yyd _
 rw[F0 _ _ _ hA]at k1 k2 ⊢
 refine⟨⟨k1,hb.b0,hb.b1,hb.s0,hb.s1,by show (A++[uZ s x.b.length p]).length<=_;omega⟩,I7.1.last rfl,?_,λy hy=>?_⟩
 ·show cI (A++[uZ s x.b.length p])<=_;rw[Iu];have e:(uZ s x.b.length p).next=s.next+1:=by simp[da.next,uZ];omega
  rw[e];omega
 have:g.du=some y:=hy;rw[ht]at this;cases this
def PZ{g:cU}{d:DS}{M:Nat}(h:ij g M)(p:Φ):ij (fj g d p).1.1 (M+(28+p.length)):=by
 unfold fj;split
 ·exact h.mono (by omega)
 rename_i x hx;have hw:=FY h.ok hx;have hm:=Vq (d:=d) h;obtain⟨m1,_,_⟩:=tH g d;have mt:=Vs g d;simp only;split
 ·exact hm.mono (by omega)
 rename_i h0;have h0:(de g d).2=0:=by simpa using h0
 rw[zzc h0]at mt
 split
 ·exact hm.mono (by omega)
 split
 ·exact hm.mono (by omega)
 refine cng hm ⟨hw.pl,by rw[m1];exact hw.hd,by rw[m1];exact hw.nN,hw.f0,hw.bl,hw.pos⟩ mt
def b_2{g:cU}{M:Nat}(h:g.Ok M){off:Bool}{p:Φ}{x:hU}(hx:eN g off p= .ok x):0<=x.file/\x.file<=100000/\(x.fresh=false->∃s,g.bF.getLast?=some s/\s.file=x.file)/\(x.fresh=true->∀s,g.bF.getLast?=some s->s.file≠x.file):=by
 have hw:=FY h hx;cases hf:x.fresh with
 | false=>
  obtain⟨s,h1,h2⟩:=hw.nN hf;have:=h.bF s (xxu h1);exact⟨by rw[h2];exact this.f0,by rw[h2];exact this.f1,λ_=>⟨s,h1,h2.symm⟩,λe=>by cases e⟩
 | true=>
  obtain⟨f0,f1⟩:=hw.f0 hf;refine⟨f0,f1,(λe=>by cases e),λ_ s hs=>?_⟩;unfold eN at hx;rw[hs]at hx
  split at hx
  ·cases hx
  split at hx
  ·cases hx
  split at hx
  ·cases hx
  simp only at hx;split at hx
  ·cases hx;cases hf
  unfold mu at hx;split at hx
  ·cases hx
  cases hx;show s.file≠s.file+1;omega
def cBu{g:cU}{d:DS}{M:Nat}(h:ij g M)(p:Φ)(k:Int):ij (gk g d p k).1.1 M:=by
 unfold gk;split
 ·exact h
 split
 ·exact h
 rename_i x hx;have hm:=Vq (d:=d) h;obtain⟨m1,m2,m3⟩:=tH g d;obtain⟨f0,f1,f2,f3⟩:=b_2 h.ok hx;simp only;split
 ·exact hm
 split
 ·exact hm
 refine⟨hm.ok.congr rfl rfl rfl,hm.seq,hm.hd,λy hy=>?_⟩;have hy:some (⟨x.file,if x.fresh=true then 0 else lH (de g d).1.1.bF,x.fresh⟩:v_)=some y:=hy;cases hy;refine⟨f0,f1,λhf=>?_,λhf s hs=>f3 hf s (by rw[<- m1];exact hs)⟩;have hf:x.fresh=false:=hf;obtain⟨s,h1,h2⟩:=f2 hf;refine⟨s,by rw[<- m1]at h1;exact h1,h2,?_⟩;show (if x.fresh=true then 0 else lH (de g d).1.1.bF)=_;rw[zzb (by rw[hf];decide)];unfold lH;rw[m1,h1]
def Xv(n:Int):∀(L:List da) (d:DS),∃i,(gE L d n).1.1=L.drop i/\(i=0\/i<L.length)
 | [],d=>⟨0,rfl,.inl rfl⟩
 | [t],d=>⟨0,rfl,.inl rfl⟩
 | t::u::L,d=>by
  rw[gE];split
  ·split
   ·exact⟨0,rfl,.inl rfl⟩
   obtain⟨i,h1,h2⟩:=Xv n (u::L) (d.remove t.file).1;exact⟨i+1,by rw[h1];rfl,.inr (by simp at h2 ⊢;omega)⟩
  exact⟨0,rfl,.inl rfl⟩
def a_e{α:Type}{L:List α}{i:Nat}(h:i=0\/i<L.length):(L.drop i).getLast?=L.getLast?:=by
 rcases h with rfl|h
 ·rfl
 rw[List.getLast?_drop,zzb (by omega)]
def cCe{g:cU}{d:DS}{M:Nat}(h:ij g M)(n:Int):ij (gR g d n).1.1 M:=by
 have hk:=cCf (d:=d) h.ok n;unfold gR at hk ⊢;split
 ·exact h
 rename_i ho;rw[zzb ho]at hk
 obtain⟨i,h1,h2⟩:=Xv n g.bF d;have hl:(gE g.bF d n).1.1.getLast?=g.bF.getLast?:=by rw[h1];exact a_e h2
 refine⟨hk,by show iP (gE g.bF d n).1.1;rw[h1];exact h.seq.drop i,?_,λx hx=>?_⟩
 ·show cI (gE g.bF d n).1.1<=_;unfold cI;rw[hl];exact h.hd
 show _/\_/\(_->∃s,(gE g.bF d n).1.1.getLast?=some s/\_)/\(_->∀s,(gE g.bF d n).1.1.getLast?=some s->_);rw[hl];exact h.du x hx
def bXq{L:List da}{R:List PF}{f:Int}{last:Bool}(h:iP L)(hh:cI L<=1099511627776):iP (iY L R f last).2/\cI (iY L R f last).2<=1099511627776:=by
 unfold iY;simp only;split
 ·exact⟨h,hh⟩
 split
 ·exact⟨h,hh⟩
 rename_i k l n hr hc;refine⟨h.snoc λhL=>?_,?_⟩
 ·show k=cI L+1;have:0<L.length:=xx2.2 hL;rcases Int.lt_trichotomy k (cI L+1) with h1|h1|h1
  ·exact absurd (.inr (.inl ⟨this,by omega⟩)) hc
  ·exact h1
  exact absurd (.inr (.inl ⟨this,by omega⟩)) hc
 show cI (L++[_])<=_;rw[Iu];simp only[da.next];rcases Int.lt_or_le 1099511627776 (k+l.length-1) with h1|h1
 ·exact absurd (.inr (.inr h1)) hc
 exact h1
def Va{R:List PF}:∀(ids:Ω) (prev:Option Int) (L:List da) (wh:Bool),iP L->cI L<=1099511627776->∀{L' xY},lI R ids prev L wh=some (L',xY)->iP L'/\cI L'<=1099511627776
 | [],prev,L,wh,h,hh,L',xY,e=>by cases e;exact⟨h,hh⟩
 | f::r,prev,L,wh,h,hh,L',xY,e=>by
  rw[Bb]at e
  obtain⟨k1,k2⟩:=bXq (R:=R) (f:=f) (last:=r.isEmpty) h hh;split at e
  ·cases e
  split at e
  ·cases e
  exact Va r _ _ _ k1 k2 e
def rR(C:List Cell):Prop:=C.Pairwise (λa b=>a.key<b.key)
def p_(C:List Cell)(k:Int):Option Cell:=C.find? (λc=>decide (c.key=k))
def l9:List Cell->Cell->List Cell
 | [],c=>[c]
 | x::C,c=>if x.key<c.key then x::l9 C c else if x.key=c.key then c::C else c::x::C
def cellOf(o:gl):Cell:=⟨o.key,o.aw,o.gone,if o.gone then ⟨#[]⟩ else o.val⟩
def rF(C:List Cell)(o:gl):List Cell × Bool:=match p_ C o.key with
 | some c=>if o.aw<c.aw then (C,false) else (l9 C (cellOf o),true)
 | none=>(l9 C (cellOf o),true)
def lL(ts:List (List Cell))(o:gl):List (List Cell) × Bool:=
 if o.table<0 then (ts,false) else match ts[o.table.toNat]? with
 | some C=>(ts.set o.table.toNat (rF C o).1,(rF C o).2)
 | none=>(ts,false)
def fw:List (List Cell)->List gl->List (List Cell) × Nat
 | ts,[]=>(ts,0)
 | ts,o::l=>((fw (lL ts o).1 l).1,(if (lL ts o).2 then 1 else 0)+(fw (lL ts o).1 l).2)
def rowsOf(C:List Cell):List Row:=(C.filter λc=>!c.gone).map λc=>⟨c.key,c.val⟩
def cxd(C:List Cell)(k:Nat)(h:k<C.length):rowsOf (C.take (k+1))=if C[k].gone then rowsOf (C.take k) else rowsOf (C.take k)++[⟨C[k].key,C[k].val⟩]:=by
 unfold rowsOf;rw[zze h,yy0,zzs];cases hg:C[k].gone<;>simp[hg]
def cxc(C:List Cell):(rowsOf C).length<=C.length:=by unfold rowsOf;rw[zzn];exact yym _ _
def Vo{C:List Cell}{c x:Cell}(h:x∈l9 C c):x=c\/x∈C:=by
 induction C with
 | nil=>simpa [l9] using h
 | cons y C ih=>
  unfold l9 at h;split at h
  ·rcases zz8.1 h with rfl|h
   ·exact .inr (.head _)
   rcases ih h with h|h
   ·exact .inl h
   exact .inr (.tail _ h)
  split at h
  ·rcases zz8.1 h with rfl|h
   ·exact .inl rfl
   exact .inr (.tail _ h)
  rcases zz8.1 h with rfl|h
  ·exact .inl rfl
  exact .inr h
def cAl{C:List Cell}(h:rR C)(c:Cell):rR (l9 C c):=by
 unfold rR at *
 induction C with
 | nil=>simp[l9]
 | cons y C ih=>
  rw[yyj]at h
  unfold l9;split
  ·rename_i dd;refine yyj.2 ⟨λz hz=>?_,ih h.2⟩;rcases Vo hz with rfl|hz
   ·exact dd
   exact h.1 z hz
  split
  ·rename_i he;exact yyj.2 ⟨λz hz=>by have:=h.1 z hz;omega,h.2⟩
  rename_i h1 h2;refine yyj.2 ⟨λz hz=>?_,yyj.2 h⟩;rcases zz8.1 hz with rfl|hz
  ·omega
  have:=h.1 z hz;omega
def bFw(C:List Cell)(c:Cell)(k:Int):p_ (l9 C c) k=if c.key=k then some c else p_ C k:=by
 unfold p_;induction C with
 | nil=>by_cases h:c.key=k<;>simp[l9,h]
 | cons y C ih=>
  unfold l9;split
  ·rw[xxo,xxo,ih];by_cases h1:y.key=k
   ·have:c.key≠k:=by omega
    simp[h1,this]
   simp[h1]
  split
  ·rename_i he;rw[xxo,xxo];by_cases h1:c.key=k
   ·simp[h1]
   have:y.key≠k:=by omega
   simp[h1,this]
  rw[xxo];by_cases h1:c.key=k<;>simp[h1]
def bXj(C:List Cell)(c:Cell):(l9 C c).length<=C.length+1:=by
 induction C with
 | nil=>simp[l9]
 | cons y C ih=>
  unfold l9;split
  ·simp;omega
  split<;>simp
def bFt{C:List Cell}{k:Int}{c:Cell}(h:p_ C k=some c):c.key=k/\c∈C:=by
 unfold p_ at h;have h1:=List.find?_some (p:=λc:Cell=>decide (c.key=k)) h;exact⟨zzm h1,List.mem_of_find?_eq_some h⟩
def SD{C:List Cell}(h:rR C){c:Cell}(hc:c∈C):p_ C c.key=some c:=by
 unfold p_ rR at *
 induction C with
 | nil=>cases hc
 | cons y C ih=>
  rw[yyj]at h
  rcases zz8.1 hc with rfl|hc
  ·simp
  have:=h.1 c hc;rw[xxo];have hn:¬y.key=c.key:=by omega
  simp[hn,ih h.2 hc]
def Wh{ts:List (List Cell)}{t:Nat}{o:gl}(h:o.table=t)(ht:t<ts.length):lL ts o=(ts.set t (rF ts[t] o).1,(rF ts[t] o).2):=by
 have h0:¬o.table<0:=by omega
 have h1:o.table.toNat=t:=by omega
 unfold lL;simp[h0,h1,ht]
def F4(ts:List (List Cell))(o:gl):(lL ts o).1.length=ts.length:=by
 unfold lL;split
 ·rfl
 split<;>simp
def J9(l:List gl):∀ts,(fw ts l).1.length=ts.length:=by
 induction l with
 | nil=>intro ts;rfl
 | cons o l ih=>intro ts;simp only[fw];rw[ih,F4]
def cnc(l:List gl):∀ts,(fw ts l).2<=l.length:=by
 induction l with
 | nil=>intro ts;simp[fw]
 | cons o l ih=>intro ts;simp only[fw,zzh];have:=ih (lL ts o).1;split<;>omega
def cnb(l l':List gl):∀ts,fw ts (l++l')=((fw (fw ts l).1 l').1,(fw ts l).2+(fw (fw ts l).1 l').2):=by
 induction l with
 | nil=>intro ts;simp[fw]
 | cons o l ih=>intro ts;simp only[zzu,fw,ih];simp only[ww9]
def small(ts:List (List Cell))(k:Nat):Prop:=∀C∈ts,C.length+k<=1000000
def cnm(C:List Cell)(o:gl):(rF C o).1.length<=C.length+1:=by
 unfold rF;have:=bXj C (cellOf o);split
 ·split<;>simp_all
 exact this
def cz8{ts:List (List Cell)}{k:Nat}{o:gl}(h:small ts (k+1)):small (lL ts o).1 k:=by
 unfold lL;split
 ·intro C hC;have:=h C hC;omega
 split
 ·rename_i C0 h0;intro C hC;rcases vv2 hC with hC|rfl
  ·have:=h C hC;omega
  have:=h C0 (yy9 h0);have:=cnm C0 o;omega
 intro C hC;have:=h C hC;omega
def WV{ts:List (List Cell)}{j k:Nat}(h:small ts k)(hj:j<=k):small ts j:=λC hC=>by have:=h C hC;omega
def cz6{l:List gl}:∀{ts:List (List Cell)} {k:Nat},small ts (k+l.length)->small (fw ts l).1 k:=by
 induction l with
 | nil=>intro ts k h;simpa [fw] using h
 | cons o l ih=>intro ts k h;exact ih (cz8 (by rw[zzh]at h;rw[ww9];exact h))
def lg(n:Int):Prop:=-9223372036854775808<=n/\n<=9223372036854775807
def xS(C:List Cell):Prop:=rR C/\∀c∈C,lg c.key
def sF(ts:List (List Cell)):Prop:=∀C∈ts,xS C
def bZz{C:List Cell}{o:gl}(h:xS C)(ho:lg o.key):xS (rF C o).1:=by
 have hi:xS (l9 C (cellOf o)):=⟨cAl h.1 _,λc hc=>by rcases Vo hc with rfl|hc;exact ho;exact h.2 c hc⟩;unfold rF;split
 ·split
  ·exact h
  exact hi
 exact hi
def VT{ts:List (List Cell)}{o:gl}(h:sF ts)(ho:lg o.key):sF (lL ts o).1:=by
 unfold lL;split
 ·exact h
 split
 ·rename_i C0 h0;intro C hC;rcases vv2 hC with hC|rfl
  ·exact h C hC
  exact bZz (h C0 (yy9 h0)) ho
 exact h
def bZ3{l:List gl}:∀{ts:List (List Cell)},sF ts->(∀o∈l,lg o.key)->sF (fw ts l).1:=by
 induction l with
 | nil=>intro ts h _;exact h
 | cons o l ih=>intro ts h ho;exact ih (VT h (ho o (.head _))) (λo' h'=>ho o' (.tail _ h'))
def p6(ts:List (List Cell))(t:Int):List Cell:=if 0<=t then (ts[t.toNat]?).getD [] else []
def aIy{ts:List (List Cell)}{t:Int}(hs:small ts 0):(p6 ts t).length<=1000000:=by
 unfold p6;split
 ·cases h:ts[t.toNat]? with
  | none=>simp
  | some C=>simpa using hs C (yy9 h)
 simp
structure lT(m:List (Int × Cell))(C:List Cell):Prop where
 get:∀k,fK m k=p_ C k
 nodup:(m.map (·.1)).Nodup
def bYp{α:Type}(m:List (Int × α))(k:Int)(v:α)(k':Int):fK (gD m k v) k'=if k=k' then some v else fK m k':=by
 induction m with
 | nil=>by_cases h:k=k'<;>simp[gD,fK,h]
 | cons p m ih=>
  unfold gD;split
  ·rename_i hp;by_cases h:k=k'
   ·simp[fK,h]
   have:¬p.1=k':=by omega
   simp[fK,h,this]
  by_cases h:p.1=k'
  ·have:¬k=k':=by omega
   simp[fK,h,this]
  simp[fK,h,ih]
def bYm{α:Type}{m:List (Int × α)}{k:Int}{v:α}{x:Int}(h:x∈(gD m k v).map (·.1)):x=k\/x∈m.map (·.1):=by
 induction m with
 | nil=>simpa [gD] using h
 | cons p m ih=>
  unfold gD at h;split at h
  ·simp only[zzo,zz8]at h ⊢;rcases h with h|h
   ·exact .inl h
   exact .inr (.inr h)
  simp only[zzo,zz8]at h ⊢;rcases h with h|h
  ·exact .inr (.inl h)
  rcases ih h with h|h
  ·exact .inl h
  exact .inr (.inr h)
def bZd{α:Type}{m:List (Int × α)}(h:(m.map (·.1)).Nodup)(k:Int)(v:α):((gD m k v).map (·.1)).Nodup:=by
 induction m with
 | nil=>simp[gD]
 | cons p m ih=>
  rw[zzo,wwu]at h
  unfold gD;split
  ·rename_i hp;rw[zzo,wwu];exact⟨by rw[<- hp];exact h.1,h.2⟩
  rename_i hp;rw[zzo,wwu];refine⟨λhm=>?_,ih h.2⟩;rcases bYm hm with e|e
  ·exact hp e
  exact h.1 e
def bYr{α:Type}{m:List (Int × α)}{k:Int}:k∈m.map (·.1)↔∃v,fK m k=some v:=by
 induction m with
 | nil=>simp[fK]
 | cons p m ih=>
  by_cases h:p.1=k
  ·simp[fK,h]
  have:¬k=p.1:=λe=>h e.symm;simp only[zzo,zz8,this,false_or,ih,fK,h,vvo]
def lT.put{m:List (Int × Cell)}{C:List Cell}(h:lT m C)(c:Cell):lT (gD m c.key c) (l9 C c):=
 ⟨λk=>by rw[bYp,bFw,h.get],bZd h.nodup _ _⟩
def lT.nil:lT [] []:=⟨λk=>rfl,by simp⟩
def nodup_keys{C:List Cell}(h:rR C):(C.map (·.key)).Nodup:=by
 unfold rR at h;refine wwq.2 (h.imp λpJ=>?_);omega
def lT.perm{m:List (Int × Cell)}{C:List Cell}(h:lT m C)(hs:rR C):(m.map (·.1)).Perm (C.map (·.key)):=by
 refine (List.perm_ext_iff_of_nodup h.nodup (nodup_keys hs)).2 λk=>?_;rw[bYr];simp only[h.get];constructor
 ·rintro ⟨c,hc⟩;obtain⟨h1,h2⟩:=bFt hc;exact zzv.2 ⟨c,h2,h1⟩
 intro hk;obtain⟨c,hc,rfl⟩:=zzv.1 hk;exact⟨c,SD hs hc⟩
def lT.pX{m:List (Int × Cell)}{C:List Cell}(h:lT m C)(hs:rR C):pX m=C.map (·.key):=by
 have e:YtmkllimamejcgaaGreat.pX m=(C.map (·.key)).mergeSort (λx y=>decide (x<=y)):=Go.mergeSort_of_perm_i (h.perm hs);rw[e];refine List.mergeSort_of_pairwise ?_;refine wwq.2 (uu8 (R:=λa b:Cell=>a.key<b.key) (λ{a b} pJ=>?_) hs);simp only[zzy];omega
def lT.len{m:List (Int × Cell)}{C:List Cell}(h:lT m C)(hs:rR C):m.length=C.length:=by simpa using (h.perm hs).length_eq
def lT.wf{m:List (Int × Cell)}{C:List Cell}(h:lT m C)(ok:xS C):∀p∈m,(Lit.int .i64 p.1).wf=true:=λp hp=>by
 have:p.1∈C.map (·.key):=(h.perm ok.1).subset (zzv.2 ⟨p,hp,rfl⟩);obtain⟨c,hc,hk⟩:=zzv.1 this;have:=ok.2 c hc;rw[hk]at this
 unfold lg at this;have h1:IntKind.i64.min = -9223372036854775808:=by decide
 have h2:IntKind.i64.max=9223372036854775807:=by decide
 simp only[Lit.wf,h1,h2,zz9,zzy];exact this
open Go.RowKit
structure fQ where
 kind:Int
 keep:Int
def iJ(f:fQ):Ξ:=[Γ f.kind,Γ f.keep]
def HF(f:fQ):(iJ f).length=2:=rfl
def a_2(f:fQ):∀v∈iJ f,v.oneCell'=true:=by simp[iJ,Value.oneCell']
def iZ(f:fQ):Bool:=decide (((f.kind=1\/f.kind=3)/\f.keep=0)\/(f.kind=2/\0<=f.keep))
def mD(p:List fQ):List fQ->List fQ
 | []=>p
 | f::l=>mD (if iZ f=true/\p.length<1024 then p++[f] else p) l
structure cN where
 g:cU
 d:DS
 ts:List (List Cell)
 plan:List fQ
 aw:Int
 reqs:List Rq
def oz(L:List Rq)(n:il):Option (List Rq):=
 if n.kind=2 then lW L n.id n.dz n.done
 else match pw L n.table n.weight n.at_ with
  | some L'=>if n.id=L'.length then some L' else none
  | none=>none
def fT:List Rq->List il->Option (List Rq)
 | L,[]=>some L
 | L,n::r=>match oz L n with
  | some L'=>fT L' r
  | none=>none
def sJ(k:Nat)(x:cD):Bool:=x.ops.all λo=>decide (o.table<k)
def fW(k:Nat)(L:List Rq)(x:cD):Option (List Rq):=if ep x=true/\sJ k x=true then fT L x.notes else none
def cN.An(k:cN)(x:cD)(L:List Rq):cN:={k with ts:=(fw k.ts x.ops).1,reqs:=L,aw:=x.aw}
def gh(x:cD):Φ:=match ud x with
 | .ok b=>b
 | .error _=>[]
def cN.gu(k:cN)(x:cD)(L:List Rq):cN × Int:=
 let r:=fj k.g k.d (gh x)
 if r.2.2=0 then (cN.An {k with g:=r.1.1,d:=r.1.2} x L,0) else ({k with g:=r.1.1,d:=r.1.2},r.2.2)
def cN.j_(k:cN)(x:cD)(n:Int):cN × Int:=
 let r:=gk k.g k.d (gh x) n
 ({k with g:=r.1.1,d:=r.1.2},r.2)
def cN.fP(k:cN)(x:cD):cN × Int:=
 if ep x=false\/(k.aw<x.aw/\fW k.ts.length k.reqs x=none) then (k,1)
 else if k.d.off=true then (k,8)
 else
  let L:=(fW k.ts.length k.reqs x).getD []
  match k.plan with
  | []=>if k.aw<x.aw then k.gu x L else (k,0)
  | f::r=>
   let k':cN:={k with plan:=r}
   if f.kind=3 then (if k.aw<x.aw then ((k'.gu x L).1,if (k'.gu x L).2=0 then 9 else (k'.gu x L).2) else (k',9))
   else if f.kind=2/\k.aw<x.aw then ((k'.j_ x f.keep).1,if (k'.j_ x f.keep).2=0 then 9 else (k'.j_ x f.keep).2)
   else (k',9)
abbrev Tr:=List (List Cell) × List Rq × Int
def stepT(cM:Nat)(t:Tr)(x:cD):Option Tr:=match fW cM t.2.1 x with
 | some L=>if t.2.2<x.aw then some ((fw t.1 x.ops).1,L,x.aw) else none
 | none=>none
def tL(cM:Nat):List (Φ)->Tr->Option Tr
 | [],t=>some t
 | b::r,t=>match nA b with
  | .ok x=>match stepT cM t x with
   | some t'=>tL cM r t'
   | none=>none
  | .error _=>none
def rI(cM:Nat):Tr:=(List.replicate cM [],[],0)
def cN.tr(k:cN):Tr:=(k.ts,k.reqs,k.aw)
def kC(d:DS)(cM size:Int):DS × Except Int cN:=
 if cM<1\/8<cM then (d,.error 1)
 else match eV d 8192 size with
  | (d',.error e)=>(d',.error e)
  | (d',.ok g)=>
   if eZ g.bF≠1/\eZ g.bF<=cI g.bF then (d',.error 3)
   else match tL cM.toNat (cR g.bF) (rI cM.toNat) with
    | none=>(d',.error 3)
    | some t=>(d',.ok ⟨g,d',t.1,[],t.2.2,t.2.1⟩)
set_option maxRecDepth 100000
def Wb:∀(p a b:List fQ),mD p (a++b)=mD (mD p a) b
 | p,[],b=>rfl
 | p,f::a,b=>Wb _ a b
def Dx(p:List fQ)(f:fQ):mD p [f]=if iZ f=true/\p.length<1024 then p++[f] else p:=rfl
def b_9{p l:List fQ}{i:Nat}(h:i<l.length):mD p (l.take (i+1))=if iZ l[i]=true/\(mD p (l.take i)).length<1024 then mD p (l.take i)++[l[i]] else mD p (l.take i):=by
 rw[zze h,Wb,Dx]
def J8:∀(l p:List fQ),p.length<=1024->p.length<=(mD p l).length/\(mD p l).length<=1024
 | [],p,h=>⟨zzi _,h⟩
 | f::l,p,h=>by
  unfold mD;split
  ·rename_i hc;have:=J8 l (p++[f]) (by rw[zza,zz7];omega);rw[zza,zz7]at this
   omega
  exact J8 l p h
def gy(p:Nat)(L:List fQ):zC:=jF λv:Ε=>zH True [.pt p [v] 225,.ob (dq v 33 2 L.length (L.map iJ).flatten)]
def gy.iff{W w:Ζ}{p:Nat}{L:List fQ}{l:Β}:SL W (.ob (gy p L)::l) w↔∃v,SL W (.pt p [v] 225::.ob (dq v 33 2 L.length (L.map iJ).flatten)::l) w:=by
 unfold gy;simp only[SL.ex,SL.fact,zzu,zzq,uuk]
def bFi:SP 142 [] [] (λv post=>∃p:Nat,v= Δ p/\post=[.ob (gy p [])]):=by
 refine Enzz λW F w hS=>?_;apply cDx;delta LH bR;refine Gp ?_;refine zw hS λb w hS=>?_;have hS:=(gy.iff (L:=[])).2 ⟨_,SL.bZ (dq.rB (a:=none) (t:=33) (sz:=2) hS) (t:=.pt b [Θ] 225::.ob (dq Θ 33 2 0 [])::F) Xi⟩;exact⟨_,⟨b,rfl,rfl⟩,hS⟩
def Yv(f:fQ):SP 178 [agg (iJ f)] [] (cC (.bool (iZ f)) []):=by
 refine Enzz λW F w hS=>?_;apply cEz;delta Mo aI a_ cw ai;refine zw hS λb w hS=>?_;unfold iJ at hS;refine bY (λh=>?_) (λh=>?_)
 ·refine Gp ?_;have e:iZ f=decide (f.keep=0):=by unfold iZ;rw[yyg];omega
  rw[e];(exact cA hS)
 refine bY (λh2=>?_) (λh2=>?_)
 ·refine Gp ?_;have e:iZ f=decide (f.keep=0):=by unfold iZ;rw[yyg];omega
  rw[e];(exact cA hS)
 refine bY (λh3=>?_) (λh3=>?_)
 ·refine Gp ?_;have e:iZ f=decide (0<=f.keep):=by unfold iZ;rw[yyg];omega
  rw[e];(exact cA hS)
 have e:iZ f=false:=by unfold iZ;rw[yy7];omega
 rw[e];(exact cA hS)
def bFg(p:Nat)(L:List fQ):SP 73 [Δ p] [.ob (gy p L)] (cC (Γ L.length) [.ob (gy p L)]):=by
 refine Enzz λW F w hS=>?_;apply cKc;delta Pt bU;obtain⟨v,hS⟩:=gy.iff.1 hS;refine Gp ?_;refine zK hS Xh ?_;exact⟨_,⟨rfl,rfl⟩,gy.iff.2 ⟨v,hS⟩⟩
def ZZ(H:bw)(p:Nat)(L l:List fQ)(v:Ε)(hv:dx H 2 v l.length (l.map iJ).flatten)(hl:l.length<=1000000)(hL:L.length<=1024):
  SP 179 [Δ p,v] [.ob (gy p L),.mem H] (cC (Γ (((mD L l).length-L.length:Nat):Int)) [.ob (gy p (mD L l)),.mem H]):=by
 refine Enzz λW F w hS=>?_;apply cE0;delta Mp aI bU cV aR bV ai;refine zo hv ?_;refine⟨λvs w=>∃i:Nat,vs=[Γ (((mD L (l.take i)).length-L.length:Nat):Int),Γ i]/\i<=l.length/\SL W (.ob (gy p (mD L (l.take i)))::.mem H::F) w,
  λvs _=>match vs with|[_,.int _ i]=>(l.length-i).toNat|_=>0,⟨0,by simp[mD],by omega,hS⟩,?_⟩
 clear hS;rintro v5 v10 w ⟨i,eP,hi,hS⟩;cases eP;refine bY (λh=>?_) (λh=>?_)
 ·have cx:i<l.length:=by omega
  have ht:=b_9 (p:=L) cx;have hle:=J8 (l.take i) L hL;refine zD hS Xh HF hv (x:=l[i]) (by simp[cx]) cx ?_;refine Gm λb w hS=>?_;generalize hM:mD L (l.take i)=M at *
  generalize hf:l[i]=f at *
  refine Cg (Yv f) λw hS=>?_;refine yU (λhm=>?_) (λhm=>?_)
  ·obtain⟨pv,hS⟩:=gy.iff.1 (SL.bZ hS (t:=.ob (gy p M)::.pt b (iJ f) 33::.mem H::F) Xi);refine Gp ?_;refine zK hS (v:=pv) Xh ?_;refine bY (λh2=>?_) (λh2=>?_)
   ·rw[zzc ⟨hm,by omega⟩]at ht
    refine Gm λb w hS=>?_;refine qL (t:=33) (n:=M.length) (xs:=M) (y:=f) (enc:=iJ) hS Xr Xh HF a_2 rfl rfl (by omega) (by omega) ?_;clear hS;intro nv w hS;have h1:=dq.one hS .hd;refine Gn λw hS=>?_;refine⟨⟨i+1,by rw[ht,zza,zz7,show M.length+1-L.length=M.length-L.length+1 by omega],by omega,?_⟩,by dsimp only;omega⟩;rw[ht];refine gy.iff.2 ⟨nv,?_⟩;rw[show (M++[f]).length=M.length+1 by simp];exact aW hS
   rw[zzb (λh=>h2 (by omega))]at ht
   refine Gp ?_;refine⟨⟨i+1,by rw[ht],by omega,?_⟩,by dsimp only;omega⟩;rw[ht];exact gy.iff.2 ⟨pv,aW hS⟩
  rw[zzb (λh=>by rw[hm]at h;exact Bool.false_ne_true h.1)]at ht
  refine Gp ?_;refine⟨⟨i+1,by rw[ht],by omega,?_⟩,by dsimp only;omega⟩;rw[ht];exact aW hS
 have:i=l.length:=by omega
 subst this;rw[zz0]at *
 (exact cA hS)
def bFk(p:Nat):SP 343 [Δ p] [.ob (gy p [])] (cC (.tuple #[agg (iJ ⟨0,0⟩),.bool false]) [.ob (gy p [])]):=by
 refine Enzz λW F w hS=>?_;apply XL;delta GS aI bU cV ai;obtain⟨v,hS⟩:=gy.iff.1 hS;refine Gm λb w hS=>?_;refine zK hS (v:=v) Xh ?_;refine Gp ?_;refine za (λh=>?_) (λh=>absurd rfl h);refine Gn λw hS=>?_;exact⟨_,⟨rfl,rfl⟩,gy.iff.2 ⟨v,aW hS⟩⟩
def bFj(p:Nat)(f:fQ)(r:List fQ)(hr:r.length<=1024):SP 343 [Δ p] [.ob (gy p (f::r))] (cC (.tuple #[agg (iJ f),.bool true]) [.ob (gy p r)]):=by
 refine Enzz λW F w hS=>?_;apply XL;delta GS aI bU cV ai;obtain⟨v,hS⟩:=gy.iff.1 hS;refine Gm λb w hS=>?_;refine zK hS (v:=v) Xh ?_;refine Gp ?_;refine za (λh=>by rw[zzh]at h;omega) (λh=>?_);refine Gp ?_;refine qO (j:=0) (k:=.i64) hS (t:=33) (v:=v) (enc:=iJ) (xs:=f::r) Xh HF rfl (by simp) ?_;refine Gm λb w hS=>?_;refine Yd (k:=1) (v:=v) (Has.front hS Xr) (by simp) λu hS=>?_;have hS:SL W (.ob (dq u 33 2 r.length (r.map iJ).flatten)::_) _:=hS;have h1:=dq.one hS .hd;refine Gn λw hS=>?_;exact⟨_,⟨rfl,rfl⟩,gy.iff.2 ⟨u,SL.bZ (t:=.pt p [u] 225::.ob (dq u 33 2 r.length (r.map iJ).flatten)::F) hS Xi⟩⟩
def Cp(f:fQ):fQ:=if md f.kind 3=1 then ⟨2,md f.keep 300⟩ else ⟨1+md f.kind 3,0⟩
def qC(f:fQ):SP 45 [agg (iJ f)] [] (cC (agg (iJ (Cp f))) []):=by
 refine Enzz λW F w hS=>?_;apply cJm;delta O3 aI a_ ai;refine zw hS λb w hS=>?_;unfold iJ at hS;refine Gm λb w hS=>?_;have hm:=ie f.kind 3 (by decide);refine Cg (yl f.kind 3 (by decide) (by decide)) λw hS=>?_;refine za (λh=>?_) (λh=>?_)
 ·refine Gp ?_;refine Cg (yl f.keep 300 (by decide) (by decide)) λw hS=>?_;have e:Cp f=⟨2,md f.keep 300⟩:=zzc (by omega);rw[e];have e2:(1:Int)+md f.kind 3=2:=h;rw[e2]at hS ⊢
  (exact cA hS)
 refine Gn λw hS=>?_;have e:Cp f=⟨1+md f.kind 3,0⟩:=zzb (by omega);rw[e];(exact cA hS)
