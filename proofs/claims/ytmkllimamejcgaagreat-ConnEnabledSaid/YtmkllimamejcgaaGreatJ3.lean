/- Part of the proof. -/
import Derived.Test.YtmkllimamejcgaaGreatJ2
import Derived.Shelf.SlIterI.Nil
import Derived.Shelf.SortM.Plain
import Derived.Shelf.SortM.SortNone
import Derived.WideShapes
import Derived.Test.YtmkllimamejcgaaGreatQLay
import Derived.Test.YtmkllimamejcgaaGreatQTab
import Derived.Test.YtmkllimamejcgaaGreatQVcG
import Derived.Test.YtmkllimamejcgaaGreatQVcS
namespace Go.Proofs.YtmkllimamejcgaaGreat
set_option linter.all false
open Go.RowKit Go.Maps Go.Sort Go.Shelf
def yyu:=@congrArg
def xxs:=@List.map_map
def uui:=@callsIn_wide
def yyp:=@List.length_filter_le
def yyj:=@List.pairwise_cons
def vvc:=@List.filter_cons_of_pos
def vve:=@List.filter_eq_nil_iff
def vvd:=@List.filter_cons_of_neg
def zzg:=@List.getElem_mem
def xxk:=@List.pairwise_iff_getElem
def xxe:=@List.mem_of_getElem?
def yy5:=@List.mem_iff_getElem
def xxb:=@List.set_eq_take_append_cons_drop
def yyh:=@List.length_set
def xxi:=@List.getElem_set
def uuj:=@List.getElem_take
def zz0:=@List.mem_append
def wwp:=@List.pairwise_map
def uu8:=@List.Pairwise.imp
def vvf:=@List.getElem_cons_zero
def yy2:=@List.filter_eq_self
def uuf:=@List.eraseIdx_cons_succ
def zzs:=@List.length_map
def wwq:=@List.getElem?_map
def yyn:=@List.mem_of_mem_take
def vvs:=@List.mem_of_mem_drop
def vva:=@List.mem_of_mem_eraseIdx
def wws:=@List.nodup_cons
def ww7:=@if_true
def uu9:=@Option.some.injEq
def uus:=@true_and
def vvn:=@if_false
def vvp:=@List.perm_append_comm
def vvg:=@List.map_set
def uuk:=@List.ext_getElem?
def zzx:=@decide_eq_true_eq
def vvh:=@Nat.mod_lt
def zz8:=@Nat.zero_le
def yyw:=@Nat.le_trans
def yyc:=@Int.le_refl
def ttk:=@enters_of
def yyx:=@Tryz.underlying2
def yye:=@Tryz.underlying3
def ww5:=@Int.emod_nonneg
def vv9:=@Int.emod_lt_of_pos
def wwx:=@IntKind.wrap_u64
def zzu:=@List.cons_append
def zzp:=@List.nil_append
def wwg:=@Tryz.underlying166
def vvo:=@Option.map_none
def wwy:=@Option.getD_none
def yyf:=@Option.map_some
def xxc:=@Option.getD_some
def wwm:=@List.set_append_left
def vvq:=@List.set_append_right
def yyo:=@List.length_nil
def zz6:=@List.length_singleton
def vvt:=@Int.fdiv_eq_ediv_of_nonneg
def vvu:=@List.getD_eq_getElem?_getD
def uua:=@List.getElem?_take
def wwn:=@List.drop_left
def wwo:=@List.take_left
def zzw:=@List.append_nil
def ww8:=@List.foldl_append
def wwd:=@List.foldl_cons
def tti:=@List.foldl_nil
def uu1:=@List.take_zero
def wwh:=@Nat.not_lt
def xxu:=@List.mem_of_getLast?
def wwk:=@List.getElem_append_left
def vvi:=@List.getElem_cons_succ
def yy6:=@List.getLast?_concat
def yy9:=@List.take_append_of_le_length
def zz2:=@List.take_of_length_le
def zzt:=@List.map_append
def yy4:=@List.map_nil
def xx7:=@List.mem_append_left
def tte:=@List.isEmpty_nil
def ttj:=@List.take_take
def xxn:=@Nat.min_eq_left
def zzv:=@Int.toNat_natCast
def xxv:=@Nat.lt_or_ge
def zz3:=@List.mem_singleton
def uu2:=@List.mapIdx_append
def xxp:=@List.ext_getElem
def vv3:=@List.getElem_mapIdx
def xx0:=@List.length_pos_iff
def vvj:=@List.append_eq_nil_iff
def vv4:=@List.mem_map_of_mem
def zzz:=@decide_eq_false
def uug:=@List.getLast?_cons_cons
def yy0:=@List.filter_append
def xxo:=@List.find?_cons
def vv2:=@List.mem_or_eq_of_mem_set
def zz9:=@Bool.and_eq_true
def yyg:=@decide_eq_decide
def u0{α:Type}(m:List (Int × α)):Ξ:=(m.map (·.1)).mergeSort (λx y=>decide (x<=y))
section
variable {W w:Α} {l:Ψ} {P:Program} {ρ σ:Ren} {b:Nat} {α:Type} {val:α->Ω} {m:List (Int × α)}
def SL.kept{w':Α}(h:SL W l w)(hb:Below w.heap.size w w'):SL W l w':=by
 obtain⟨a1,a2,a3,k,s,x⟩:=h;refine⟨hb.os.trans a1,hb.tape.trans a2,hb.output.trans a3,k,s,λb o e=>?_⟩;have e1:=x b o e;rw[hb.block b (xxh.1 e1).1];exact e1
def SL.eIt{w':Α}{g:Nat}{cs:Γ}{t:Ε}(h:SL W l w)(hb:Below w.heap.size w w')(hg:w.heap.size<=g)(he:w'.heap[g]?=some (.cells cs.toArray t (0,0))):SL W (.pt g cs t::l) w':=by
 obtain⟨a1,a2,a3,k,s,x⟩:=h;have hk:k g=none:=by
  cases hx:k g with
  | none=>rfl
  | some y=>have:=(xxh.1 (x g y hx)).1;omega
 refine⟨hb.os.trans a1,hb.tape.trans a2,hb.output.trans a3,λy=>if y=g then some (.cells cs.toArray t (0,0)) else k y,⟨bw.one g (.cells cs.toArray t (0,0)),k,λy=>?_,⟨(0,0),.inl rfl,rfl⟩,s⟩,λy o e=>?_⟩
 ·by_cases hy:y=g
  ·subst hy;exact .inr ⟨hk,by simp[bw.one]⟩
  exact .inl ⟨by simp[bw.one,hy],by simp[hy]⟩
 by_cases hy:y=g
 ·subst hy;simp at e;rw[he,e]
 simp[hy]at e
 have e1:=x y o e;rw[hb.block y (xxh.1 e1).1];exact e1
def SL.eIu{w':Α}{v:Ω}{n:Nat}{t:Ε}{xs:Γ}(h:SL W l w)(hb:Below w.heap.size w w')(hr:w'.ownsRow w.heap.size t 1 v n xs):SL W (.ob (bR v t 1 n xs)::l) w':=by
 obtain⟨hx,h2⟩:=hr;rcases h2 with ⟨rfl,rfl⟩|⟨g,cap,cur,rfl,hg,he,h3,h4,h5,h6⟩
 ·obtain rfl:xs=[]:=zzo (by simpa using hx);exact bR.nil (h.kept hb)
 refine bR.mk (rest:=cur.toList.drop (n*1)) h3 hx ?_ (h.eIt hb hg ?_)
 ·rw[zzq,Array.length_toList,h5,wwf]
 rw[<- h6,yyl];exact he
def fFk{H:Type}{kt:Ε}(K9:P.underlying kt=some (.int .i64))(hS:SL W l w)(hm:Has (.ob (jH (Value.int .i64) val b m)) l)(hlen:m.length<=maxLen)(CG:∀p∈m,(Lit.int .i64 p.1).wf=true):
  ∃D:DataW H,w.ownsMap P kt (λ_=>some (.nil,[])) b m.length D/\(intKeys D).Perm (m.map (·.1))/\Maps.size D=m.length:=by
 obtain⟨es,c,e1,e2,hb⟩:=hS.CL hm;have hl:es.length=m.length:=by simpa using yyu List.length e1
 have Ck:∀x∈es,∃p∈m,x.key= .int .i64 p.1:=λx hx=>by
  have:kv x∈es.map kv:=zzy.2 ⟨x,hx,rfl⟩;rw[e1]at this
  obtain⟨p,hp,hq⟩:=zzy.1 this;exact⟨p,hp,(Prod.mk.inj hq).1.symm⟩
 have iP:∀x∈es,∀a,x.key= .int .i64 a->WideElems.rd P kt (λ_=>some ((.nil:DataW H),[])) x=some (.int .i64 a,.nil):=λx hx a ha=>by
  obtain⟨p,hp,hq⟩:=Ck x hx;rw[ha]at hq;cases hq
  have hw:=CG p hp;simp[WideElems.rd,keyOf,K9,mapKey,ha,hw]
 refine⟨_,⟨es.toArray,c,hb,⟨by simpa [hl] using hlen,e2,λx hx=>?_⟩,by simp[hl],rfl⟩,?_,?_⟩
 ·obtain⟨p,hp,hq⟩:=Ck x (by simpa using hx);exact⟨_,iP x (by simpa using hx) _ hq⟩
 ·show (List.map (λp:Lit × DataW H=>Go.intOf p.1) _).Perm _;refine ((WideShapes.sorted_perm _).map _).trans ?_;rw[xxs];have:es.map ((λp:Lit × DataW H=>Go.intOf p.1)∘WideElems.rg P kt (λ_=>some ((.nil:DataW H),[])))=m.map (·.1):=by
   have h1:es.map ((λp:Lit × DataW H=>Go.intOf p.1)∘WideElems.rg P kt (λ_=>some ((.nil:DataW H),[])))=(es.map kv).map λq=>match q.1 with | .int _ a=>a|_=>0:=by
    rw[xxs];refine List.map_congr_left λx hx=>?_;obtain⟨p,hp,hq⟩:=Ck x hx;simp[WideElems.rg_of (iP x hx _ hq),kv,hq,Go.intOf]
   rw[h1,e1,xxs];rfl
  simpa using this▸List.Perm.refl _
 rw[Maps.size_eq,(WideShapes.sorted_perm _).length_eq];simp[hl]
def WZ(L7:SlLaysZI.n7 P ρ)(L6:SlLaysZI.n6 P σ)(dWw:∀m,AnyZI.SortsIn P σ Fence.wide m)(e9:∀args w,(callFunc (σ.f 9) args).run P w= .ok (.enter (σ.f 9) args) w)(e10:∀args w,(callFunc (ρ.f 10) args).run P w= .ok (.enter (ρ.f 10) args) w)
  (K9:P.underlying (ρ.t 26)=some (.int .i64)) (hS:SL W l w) (hm:Has (.ob (jH (Value.int .i64) val b m)) l) (hlen:m.length*8<=140737488355328) (CG:∀p∈m,(Lit.int .i64 p.1).wf=true) {K:Ω->Α->Prop}
  (h:∀v w',SL W (.ob (bR v (σ.t 26) 1 m.length ((u0 m).map (Value.int .i64)))::l) w'->K v w') :
  zQ P (ρ.f 7) [.map (some b)] w λv1 w1=>zQ P (σ.f 6) [v1] w1 K:=by
 obtain⟨D,V1,FO,kV⟩:=fFk (H:=Unit) K9 hS hm (by unfold maxLen;omega) CG;refine (uui (n:=5)).1 ((AnyZI.keys_in L7 Fence.wide 5 trivial rfl (some b) w).mono ?_);rintro e w1 ⟨rfl,rfl⟩;refine⟨_,rfl,?_⟩;have uN:=V1.lt;have Lt:SeqGives Fence.wide 2 P (ρ.f 10) #[.pointer (some ⟨w.heap.size,0,none⟩)] encZ (λss=>ss.Perm (intKeys D)) (Maps.size D) (w.alloc (.cells #[.map (some b)] (ρ.t 23))):=
  AnyZI.keys_gives (ρ:=ρ) {L7 with} Fence.wide _ trivial rfl (by omega) w.heap.size b m.length D _ (by simp) (by simp) (by
   obtain⟨es,clock,hb,Ft,hs,hD⟩:=V1;exact⟨es,clock,(Below.heap_alloc _ _ b uN).trans hb,Ft,hs,hD⟩)
 have cS:=AnyZI.sorted_in L6 Fence.wide 5 trivial trivial trivial trivial rfl (by omega) (dWw _) e9 (ρ.f 10) #[.pointer (some ⟨w.heap.size,0,none⟩)] trivial e10 _ _ (by rw[kV];unfold maxLen;omega) (by rw[kV];exact hlen) _ Lt;refine (uui (n:=5)).1 (cS.mono ?_);rintro e w' ⟨v,ss,rfl,DU,vr,Lh,hb⟩;refine⟨v,rfl,h v w' ?_⟩;have hp:=DU.trans FO;have dI1:ss.length=m.length:=by simpa using hp.length_eq
 have sw:ss.mergeSort (λx y=>decide (x<=y))=u0 m:=mergeSort_of_perm_i hp;rw[dI1,sw]at vr
 have sf:Below w.heap.size w w':=((Below.refl _ w).alloc (zzi _) _).trans (hb.mono (by simp));exact hS.eIu sf (ownsRow_base_a vr (by simp))
end
section
variable {α:Type} (key:α->Int)
def kE(L:List α):Prop:=L.Pairwise λa b=>key a<key b
def kj(L:List α)(k:Int):Nat:=(L.filter λx=>decide (key x<k)).length
variable {key}
def G_(L:List α)(k:Int):kj key L k<=L.length:=yyp _ _
def J5{L:List α}(hs:kE key L)(k:Int):∀j (h:j<L.length),key L[j]<k↔j<kj key L k:=by
 unfold kE at hs;unfold kj;induction L with
 | nil=>intro j h;simp at h
 | cons x L ih=>
  rw[yyj]at hs
  intro j h;by_cases hx:key x<k
  ·rw[vvc (by simpa using hx)];cases j with
   | zero=>simp[hx]
   | succ j=>simpa using ih hs.2 j (by simpa using h)
  have e:L.filter (λr=>decide (key r<k))=[]:=by
   rw[vve];intro y hy;have:=hs.1 y hy;simp;omega
  rw[vvd (by simpa using hx),e];cases j with
  | zero=>simpa using hx
  | succ j=>
   have hm:L[j]'(by simpa using h)∈L:=zzg _;have:=hs.1 _ hm;simp;omega
def bFs{L:List α}(hs:kE key L)(k:Int){i:Nat}(hi:i<=L.length)(h1:∀j (h:j<L.length),j<i->key L[j]<k)(h2:∀h:i<L.length,¬key L[i]<k):kj key L k=i:=by
 have hle:=G_ (key:=key) L k;rcases Nat.lt_trichotomy (kj key L k) i with h|h|h
 ·have:=(J5 hs k _ (by omega)).1 (h1 (kj key L k) (by omega) h);omega
 ·exact h
 have:=h2 (by omega);have h3:=(J5 hs k i (by omega)).2 h;exact absurd h3 this
def EZ{L:List α}(hs:kE key L){k:Int}{j:Nat}(hj:j<L.length)(h:key L[j]=k):kj key L k=j:=by
 refine bFs hs k (by omega) (λi hi wq=>?_) (λ_=>by omega);have:=xxk.1 hs i j hi hj wq;omega
def mu(key:α->Int)(L:List α)(k:Int):Bool:=match L[kj key L k]? with
 | some x=>decide (key x=k)
 | none=>false
def CI{L:List α}(hs:kE key L){k:Int}:mu key L k=true↔∃x∈L,key x=k:=by
 unfold mu;constructor
 ·intro h;split at h
  ·rename_i x e;exact⟨x,xxe e,zzl h⟩
  cases h
 rintro ⟨x,hx,rfl⟩;obtain⟨j,hj,rfl⟩:=yy5.1 hx;rw[EZ hs hj rfl,zzd hj];simp
def xx{L:List α}{k:Int}(h:mu key L k=true):∃hl:kj key L k<L.length,key L[kj key L k]=k:=by
 unfold mu at h;split at h
 ·rename_i x e;obtain⟨hl,rfl⟩:=zzh.1 e;exact⟨hl,zzl h⟩
 cases h
def LP{L:List α}(hs:kE key L){k:Int}(h:mu key L k=false):∀x∈L,key x≠k:=λx hx e=>by
 have:=(CI hs).2 ⟨x,hx,e⟩;rw[h]at this;cases this
def iQ(key:α->Int)(L:List α)(k:Int):Option α:=if mu key L k then L[kj key L k]? else none
def kX(key:α->Int)(L:List α)(x:α):List α:=L.take (kj key L (key x))++[x]++L.drop (if mu key L (key x) then kj key L (key x)+1 else kj key L (key x))
def nM(key:α->Int)(L:List α)(k:Int):List α:=if mu key L k then L.eraseIdx (kj key L k) else L
def IQ{L:List α}{x:α}(h:mu key L (key x)=true):kX key L x=L.set (kj key L (key x)) x:=by
 obtain⟨hl,_⟩:=xx h;unfold kX;rw[zzc h,xxb,zzc hl];simp
def xW{L:List α}{k:Int}{x:α}(h:iQ key L k=some x):x∈L/\key x=k:=by
 unfold iQ at h;split at h
 ·rename_i hi;obtain⟨hl,e⟩:=xx hi;rw[zzd hl]at h
  cases h;exact⟨zzg hl,e⟩
 cases h
def w9{L:List α}(hs:kE key L){x:α}(h:x∈L):iQ key L (key x)=some x:=by
 unfold iQ;rw[zzc ((CI hs).2 ⟨x,h,rfl⟩)];obtain⟨j,hj,rfl⟩:=yy5.1 h;rw[EZ hs hj rfl,zzd hj]
def Kt{L:List α}(hs:kE key L){k:Int}:iQ key L k=none↔∀x∈L,key x≠k:=by
 constructor
 ·intro h x hx e;subst e;rw[w9 hs hx]at h;cases h
 intro h;cases hg:iQ key L k with
 | none=>rfl
 | some x=>obtain⟨h1,h2⟩:=xW hg;exact absurd h2 (h x h1)
def aw7{L:List α}(hs:kE key L){i:Nat}(hi:i<L.length){x:α}(hx:key x=key L[i]):kE key (L.set i x):=by
 unfold kE at *
 rw[xxk]at *
 intro a b ha hb uM;rw[yyh]at ha hb
 rw[xxi,xxi];have h1:=hs a b ha hb uM;split<;>split
 ·omega
 ·rename_i e _;subst e;omega
 ·rename_i e;subst e;omega
 exact h1
def MC{L:List α}(hs:kE key L){x:α}(h:mu key L (key x)=false):(kX key L x).Perm (x::L):=by
 unfold kX;rw[zzb (by rw[h];decide)];have:L=L.take (kj key L (key x))++L.drop (kj key L (key x)):=by simp
 conv=>rhs;rw[this]
 rw[zzk];exact vvy
def IS{L:List α}(hs:kE key L)(x:α):kE key (kX key L x):=by
 cases h:mu key L (key x) with
 | true=>
  rw[IQ h];obtain⟨hl,e⟩:=xx h;exact aw7 hs hl e.symm
 | false=>
  have hn:=LP hs h;unfold kX;rw[zzb (by rw[h];decide)];have iw:=J5 hs (key x);have hle:=G_ (key:=key) L (key x);unfold kE at *
  rw[zzk,List.pairwise_append];refine⟨hs.sublist (List.take_sublist _ _),?_,λa ha b hb=>?_⟩
  ·rw[List.singleton_append,yyj];refine⟨λb hb=>?_,hs.sublist (List.drop_sublist _ _)⟩;obtain⟨j,hj,rfl⟩:=yy5.1 hb;rw[List.getElem_drop];have tw:kj key L (key x)+j<L.length:=by simp at hj;omega
   have h1:=(not_congr (iw _ tw)).2 (by omega);have h2:=hn _ (zzg tw);omega
  obtain⟨j,hj,rfl⟩:=yy5.1 ha;rw[uuj];have tw:j<kj key L (key x)/\j<L.length:=by simp at hj;omega
  have h1:=(iw j tw.2).2 tw.1;rcases zz0.1 hb with hb|hb
  ·simp at hb;subst hb;exact h1
  obtain⟨i,hi,rfl⟩:=yy5.1 hb;rw[List.getElem_drop];have rl:kj key L (key x)+i<L.length:=by simp at hi;omega
  have h3:=(not_congr (iw _ rl)).2 (by omega);omega
def Ua{L:List α}(hs:kE key L)(k:Int):kE key (nM key L k):=by
 unfold nM;split
 ·exact hs.sublist (List.eraseIdx_sublist _ _)
 exact hs
def e_4{L:List α}(hs:kE key L):(L.map key).Nodup:=by
 refine wwp.2 (uu8 (R:=λa b=>key a<key b) (λ{a b} uM=>?_) hs);omega
def bRp{L:List α}(hs:kE key L)(k:Int):nM key L k=L.filter λx=>decide (key x≠k):=by
 unfold nM;split
 ·rename_i h;obtain⟨hl,e⟩:=xx h;generalize kj key L k=i at *
  have pR:=hs;unfold kE at pR;clear h hs;induction L generalizing i with
  | nil=>simp at hl
  | cons y L ih=>
   rw[yyj]at pR
   cases i with
   | zero=>
    simp only[vvf]at e;rw[List.eraseIdx_cons_zero,vvd (by simp[e])];symm;rw[yy2];intro z hz;have:=pR.1 z hz;simp;omega
   | succ i=>
    have vn:i<L.length:=by simpa using hl
    have e':key L[i]=k:=by simpa using e
    have:=pR.1 _ (zzg vn);rw[uuf,vvc (by simp;omega),ih i vn e' pR.2]
 rename_i h;have hn:=LP hs (by simpa using h);symm;rw[yy2];intro x hx;simpa using hn x hx
def E4{β:Type}{kb:β->Int}{f:β->α}(hf:∀b,key (f b)=kb b)(L:List β)(k:Int):kj key (L.map f) k=kj kb L k:=by
 unfold kj;rw[List.filter_map,zzs];congr 2
 funext b
 simp[hf]
def LQ{β:Type}{kb:β->Int}{f:β->α}(hf:∀b,key (f b)=kb b)(L:List β)(k:Int):mu key (L.map f) k=mu kb L k:=by
 unfold mu;rw[E4 hf,wwq];cases L[kj kb L k]? with
 | none=>rfl
 | some b=>simp[hf]
def fF9{β:Type}{kb:β->Int}{f:β->α}(hf:∀b,key (f b)=kb b)(L:List β)(b:β):(kX kb L b).map f=kX key (L.map f) (f b):=by
 unfold kX;rw[LQ hf,E4 hf,hf];simp
def Xd{α β:Type}(f:β->α):∀(L:List β) (i:Nat),(L.eraseIdx i).map f=(L.map f).eraseIdx i
 | [],_=>rfl
 | x::L,0=>rfl
 | x::L,i+1=>by simp only[uuf,zzn,Xd f L i]
def bRq{β:Type}{kb:β->Int}{f:β->α}(hf:∀b,key (f b)=kb b)(L:List β)(k:Int):(nM kb L k).map f=nM key (L.map f) k:=by
 unfold nM;rw[LQ hf,E4 hf];split
 ·exact Xd f L _
 rfl
def D7{L:List α}{x y:α}(h:y∈kX key L x):y=x\/y∈L:=by
 unfold kX at h;rcases zz0.1 h with h|h
 ·rcases zz0.1 h with h|h
  ·exact .inr (yyn h)
  exact .inl (by simpa using h)
 exact .inr (vvs h)
def ID{L:List α}{k:Int}{y:α}(h:y∈nM key L k):y∈L:=by
 unfold nM at h;split at h
 ·exact vva h
 exact h
end
section
variable {α β:Type} {key:α->Int} {val:α->β} {m:List (Int × β)} {L:List α}
def oL(key:α->Int)(val:α->β)(m:List (Int × β))(L:List α):Prop:=m.Perm (L.map λx=>(key x,val x))/\kE key L
def oL.nodup(h:oL key val m L):(m.map (·.1)).Nodup:=by
 have:=h.1.map (·.1);rw[xxs]at this
 exact this.nodup_iff.2 (e_4 h.2)
def Xy(hn:(m.map (·.1)).Nodup)(k:Int)(v:β):kN m k=some v↔(k,v)∈m:=by
 induction m with
 | nil=>simp[kN]
 | cons p m ih=>
  rw[zzn,wws]at hn
  obtain⟨a,b⟩:=p;by_cases ha:a=k
  ·subst ha;simp only[kN,ww7,uu9,zz7,www,uus];constructor
   ·rintro rfl;exact .inl rfl
   rintro (h|h)
   ·exact h.symm
   exact absurd (zzy.2 ⟨_,h,rfl⟩) hn.1
  have LL:=ih hn.2;have iX:¬(k=a):=λe=>ha e.symm;simp only[kN,ha,vvn,LL,zz7,www,iX,false_and,false_or]
def oL.get(h:oL key val m L)(k:Int):kN m k=(iQ key L k).map val:=by
 cases hg:iQ key L k with
 | some x=>
  obtain⟨hx,rfl⟩:=xW hg;exact (Xy h.nodup _ _).2 (h.1.symm.subset (zzy.2 ⟨x,hx,rfl⟩))
 | none=>
  cases hm:kN m k with
  | none=>rfl
  | some v=>
   obtain⟨x,hx,e⟩:=zzy.1 (h.1.subset ((Xy h.nodup _ _).1 hm));cases e;exact absurd rfl ((Kt h.2).1 hg x hx)
def e_b(hn:(m.map (·.1)).Nodup)(k:Int):vy m k=m.filter λp=>decide (p.1≠k):=by
 induction m with
 | nil=>rfl
 | cons p m ih=>
  rw[zzn,wws]at hn
  unfold vy;split
  ·rename_i e;rw[vvd (by simp[e])];symm;rw[yy2];intro q hq;have:q.1≠p.1:=λe2=>hn.1 (by rw[<- e2];exact zzy.2 ⟨q,hq,rfl⟩);simp;omega
  rename_i e;rw[vvc (by simpa using e),ih hn.2]
def oL.del(h:oL key val m L)(k:Int):oL key val (vy m k) (nM key L k):=by
 refine⟨?_,Ua h.2 k⟩;rw[e_b h.nodup,bRp h.2];have:=h.1.filter λp=>decide (p.1≠k)
 rwa [List.filter_map]at this
def e_s{k:Int}(hn:kN m k=none)(v:β):lM m k v=m++[(k,v)]:=by
 induction m with
 | nil=>rfl
 | cons p m ih=>
  unfold kN at hn;split at hn
  ·cases hn
  rename_i e;unfold lM;rw[zzb e,ih hn];rfl
def oL.add(h:oL key val m L){x:α}(hn:mu key L (key x)=false):oL key val (lM m (key x) (val x)) (kX key L x):=by
 refine⟨?_,IS h.2 x⟩;have hg:iQ key L (key x)=none:=(Kt h.2).2 (LP h.2 hn);rw[e_s (by rw[h.get,hg];rfl)];have h1:=(MC h.2 hn).map λx=>(key x,val x);refine (vvp.trans ?_).trans h1.symm;rw[zzn];exact h.1.cons _
def oL.vI(h:oL key val m L){i:Nat}(hi:i<L.length){x:α}(h1:key x=key L[i])(h2:val x=val L[i]):oL key val m (L.set i x):=by
 refine⟨?_,aw7 h.2 hi h1⟩;have e:(L.set i x).map (λx=>(key x,val x))=L.map λx=>(key x,val x):=by
  rw[vvg,h1,h2];refine uuk λj=>?_;rw[List.getElem?_set];split
  ·rename_i wq;subst wq;rw[zzc (by simpa using hi),wwq,zzd hi];rfl
  rfl
 rw[e];exact h.1
def oL.u0(h:oL key val m L):u0 m=L.map key:=by
 have hp:(m.map (·.1)).Perm (L.map key):=by
  have:=h.1.map (·.1)
  rwa [xxs]at this
 have e:YtmkllimamejcgaaGreat.u0 m=(L.map key).mergeSort (λx y=>decide (x<=y)):=Go.mergeSort_of_perm_i hp;rw[e];refine List.mergeSort_of_pairwise ?_;refine wwp.2 (uu8 (R:=λa b:α=>key a<key b) (λ{a b} uM=>?_) h.2);simp only[zzx];omega
def oL.len(h:oL key val m L):m.length=L.length:=by simpa using h.1.length_eq
def oL.nil:oL key val [] []:=⟨.refl _,.nil⟩
end
structure PF where
 id:Int
 safe:Nat
 b:Δ
def ic(x:Ζ):Ω:=.int .u8 (x.toNat:Int)
structure DS where
 R:List PF
 off:Bool
 arm:Int
 ops:Nat
def CT(f:Int):PF:=⟨f,0,[]⟩
def o_(R:List PF)(f:Int)(b:Δ):List PF:=kX PF.id R ⟨f,((iQ PF.id R f).getD (CT f)).safe,((iQ PF.id R f).getD (CT f)).b++b⟩
def oJ(R:List PF)(f:Int)(g:PF->PF):List PF:=match iQ PF.id R f with
 | some x=>kX PF.id R {g x with id:=f}
 | none=>R
def may(s:DS)(f:Int):Int:=if s.off=true then 8 else if f<0\/16384<=f then 1 else 0
def DS.eI(s:DS):DS:={s with off:=decide (s.arm=1),arm:=if 0<s.arm then s.arm-1 else s.arm,ops:=s.ops+1}
def DS.err(s:DS):Int:=if s.off=true then 8 else 0
def DS.find(s:DS)(f:Int):Int:=if may s f≠0 then may s f else if mu PF.id s.R f=true then 0 else 5
def DS.append(s:DS)(f:Int)(b:Δ):DS × Int:=if may s f≠0 then (s,may s f) else ({s.eI with R:=o_ s.R f b},s.eI.err)
def DS.sync(s:DS)(f:Int):DS × Int:=if s.find f≠0 then (s,s.find f) else if s.eI.off=true then (s.eI,8) else ({s.eI with R:=oJ s.R f λx=>{x with safe:=x.b.length}},0)
def lH(R:List PF)(f:Int):Int:=match iQ PF.id R f with
 | some x=>x.b.length
 | none=>-1
def ni(n:Nat)(x:PF):PF:={x with b:=x.b.take n,safe:=min x.safe n}
def DS.cut(s:DS)(f n:Int):DS × Int:=if s.find f≠0 then (s,s.find f) else if n<0\/lH s.R f<n then (s,1) else if s.eI.off=true then (s.eI,8) else ({s.eI with R:=oJ s.R f (ni n.toNat)},0)
def DS.remove(s:DS)(f:Int):DS × Int:=if s.find f≠0 then (s,s.find f) else if s.eI.off=true then (s.eI,8) else ({s.eI with R:=nM PF.id s.R f},0)
def DS.vg(s:DS)(n:Int):DS:={s with arm:=max n 0}
def n_(keep:Ξ)(i:Nat)(x:PF):Nat:=match keep[i]? with
 | some k=>if 0<k then k.toNat % (x.b.length-x.safe+1) else 0
 | none=>0
def mY(keep:Ξ)(i:Nat)(x:PF):PF:=⟨x.id,min (x.safe+n_ keep i x) x.b.length,x.b.take (x.safe+n_ keep i x)⟩
def jV(R:List PF)(keep:Ξ):List PF:=R.mapIdx (mY keep)
def DS.jO(s:DS)(keep:Ξ):DS:={s with R:=jV s.R keep,off:=false,arm:=0}
structure DS.Ok(s:DS)(N:Nat):Prop where
 sorted:kE PF.id s.R
 ids:∀x∈s.R,0<=x.id/\x.id<16384
 safe:∀x∈s.R,x.safe<=x.b.length
 len:∀x∈s.R,x.b.length<=N
 uy:0<=s.arm
 vf:s.arm<=9223372036854775807
def CP{keep:Ξ}{i:Nat}{x:PF}(h:x.safe<=x.b.length):x.safe+n_ keep i x<=x.b.length:=by
 unfold n_;split
 ·split
  ·have:=vvh (Int.toNat ‹Int›) (show 0<x.b.length-x.safe+1 by omega);omega
  omega
 omega
def E5{keep:Ξ}{i:Nat}{x:PF}(h:x.safe<=x.b.length):(mY keep i x).b.length=x.safe+n_ keep i x:=by
 have:=CP (keep:=keep) (i:=i) h;simp[mY];omega
def Hb{keep:Ξ}{i:Nat}{x:PF}(h:x.safe<=x.b.length):(mY keep i x).safe=x.safe+n_ keep i x:=by
 have:=CP (keep:=keep) (i:=i) h;simp[mY];omega
def IE{R:List PF}{f:Int}{g:PF->PF}{y:PF}(h:y∈oJ R f g):y∈R\/∃x∈R,x.id=f/\y={g x with id:=f}:=by
 unfold oJ at h;split at h
 ·rename_i x e;obtain⟨h1,h2⟩:=xW e;rcases D7 h with h|h
  ·exact .inr ⟨x,h1,h2,h⟩
  exact .inl h
 exact .inl h
def UP{R:List PF}{f:Int}{N:Nat}(h:∀x∈R,x.b.length<=N):((iQ PF.id R f).getD (CT f)).b.length<=N:=by
 cases e:iQ PF.id R f with
 | none=>exact zz8 _
 | some x=>exact h x (xW e).1
def cWk{R:List PF}{f:Int}(h:∀x∈R,x.safe<=x.b.length):((iQ PF.id R f).getD (CT f)).safe<=((iQ PF.id R f).getD (CT f)).b.length:=by
 cases e:iQ PF.id R f with
 | none=>exact zz8 _
 | some x=>exact h x (xW e).1
def DS.Ok.mono{s:DS}{N M:Nat}(h:s.Ok N)(hm:N<=M):s.Ok M:=⟨h.sorted,h.ids,h.safe,λx hx=>yyw (h.len x hx) hm,h.uy,h.vf⟩
def DS.Ok.eI{s:DS}{N:Nat}(h:s.Ok N):s.eI.Ok N:=by
 have h0:=h.uy;have h1:=h.vf;refine⟨h.sorted,h.ids,h.safe,h.len,?_,?_⟩<;>simp only[DS.eI]<;>split<;>omega
def DS.Ok.Nh{s:DS}{N:Nat}(h:s.Ok N){R:List PF}(h1:kE PF.id R)(h2:∀x∈R,0<=x.id/\x.id<16384)(h3:∀x∈R,x.safe<=x.b.length)(h4:∀x∈R,x.b.length<=N):({s with R:=R}:DS).Ok N:=
 ⟨h1,h2,h3,h4,h.uy,h.vf⟩
def Gd{s:DS}{f:Int}(h:may s f=0):s.off=false/\0<=f/\f<16384:=by
 unfold may at h;split at h
 ·cases h
 split at h
 ·cases h
 rename_i h1 h2;refine⟨by simpa using h1,by omega,by omega⟩
def DS.Ok.append{s:DS}{N:Nat}(h:s.Ok N)(f:Int)(b:Δ):(s.append f b).1.Ok (N+b.length):=by
 unfold DS.append;split
 ·exact h.mono (by omega)
 rename_i hm;have hm:may s f=0:=by simpa using hm
 obtain⟨_,f0,f1⟩:=Gd hm;have hl:=UP (f:=f) h.len;have hs:=cWk (f:=f) h.safe;refine (h.eI.mono (Nat.le_add_right N b.length)).Nh (IS h.sorted _) ?_ ?_ ?_
 ·intro x hx;rcases D7 hx with rfl|hx
  ·exact⟨f0,f1⟩
  exact h.ids x hx
 ·intro x hx;rcases D7 hx with rfl|hx
  ·simp only[zza];omega
  exact h.safe x hx
 intro x hx;rcases D7 hx with rfl|hx
 ·simp only[zza];omega
 have:=h.len x hx;omega
def gw4{R:List PF}(h:kE PF.id R)(f:Int)(g:PF->PF):kE PF.id (oJ R f g):=by
 unfold oJ;split
 ·exact IS h _
 exact h
def DS.Ok.vI{s:DS}{N:Nat}(h:s.Ok N)(f:Int)(g:PF->PF)(h1:∀x,x.safe<=x.b.length->(g x).safe<=(g x).b.length)(h2:∀x,(g x).b.length<=x.b.length):({s.eI with R:=oJ s.R f g}:DS).Ok N:=by
 refine h.eI.Nh (gw4 h.sorted f g) ?_ ?_ ?_
 ·intro x hx;rcases IE hx with hx|⟨y,hy,rfl,rfl⟩
  ·exact h.ids x hx
  exact h.ids y hy
 ·intro x hx;rcases IE hx with hx|⟨y,hy,rfl,rfl⟩
  ·exact h.safe x hx
  exact h1 y (h.safe y hy)
 intro x hx;rcases IE hx with hx|⟨y,hy,rfl,rfl⟩
 ·exact h.len x hx
 exact yyw (h2 y) (h.len y hy)
def DS.Ok.sync{s:DS}{N:Nat}(h:s.Ok N)(f:Int):(s.sync f).1.Ok N:=by
 unfold DS.sync;split
 ·exact h
 split
 ·exact h.eI
 exact h.vI f _ (λx _=>zzi _) (λx=>zzi _)
def DS.Ok.cut{s:DS}{N:Nat}(h:s.Ok N)(f n:Int):(s.cut f n).1.Ok N:=by
 unfold DS.cut;split
 ·exact h
 split
 ·exact h
 split
 ·exact h.eI
 exact h.vI f _ (λx hx=>by simp only[ni,zzf];omega) (λx=>by simp only[ni,zzf];omega)
def DS.Ok.remove{s:DS}{N:Nat}(h:s.Ok N)(f:Int):(s.remove f).1.Ok N:=by
 unfold DS.remove;split
 ·exact h
 split
 ·exact h.eI
 exact h.eI.Nh (Ua h.sorted _) (λx hx=>h.ids x (ID hx)) (λx hx=>h.safe x (ID hx)) (λx hx=>h.len x (ID hx))
def DS.Ok.jO{s:DS}{N:Nat}(h:s.Ok N)(keep:Ξ):(s.jO keep).Ok N:=by
 have hm:∀y∈jV s.R keep,∃x∈s.R,∃i,y=mY keep i x:=λy hy=>by
  obtain⟨i,hi,rfl⟩:=yy5.1 hy;unfold jV at *
  simp only[List.length_mapIdx]at hi;exact⟨s.R[i],zzg hi,i,by simp⟩
 refine⟨?_,?_,?_,?_,yyc _,by simp[DS.jO]⟩
 ·show kE PF.id (jV s.R keep);have:=h.sorted;unfold kE at *
  rw[xxk]at *
  intro i j hi hj wq;unfold jV at *
  simp only[List.length_mapIdx]at hi hj;simpa [mY] using this i j hi hj wq
 ·intro y hy;obtain⟨x,hx,i,rfl⟩:=hm y hy;exact h.ids x hx
 ·intro y hy;obtain⟨x,hx,i,rfl⟩:=hm y hy;rw[E5 (h.safe x hx),Hb (h.safe x hx)];exact zzi _
 intro y hy;obtain⟨x,hx,i,rfl⟩:=hm y hy;rw[E5 (h.safe x hx)];exact yyw (CP (h.safe x hx)) (h.len x hx)
def lS:DS:=⟨[],false,0,0⟩
def Gv(N:Nat):lS.Ok N:=⟨.nil,by simp[lS],by simp[lS],by simp[lS],by simp[lS],by simp[lS]⟩
set_option maxRecDepth 100000
open Go.RowKit Go.Maps Go.Sort Go.Shelf
def gib(m:Nat):AnyZI.SortsIn Tryz.prog aw4 Fence.wide m:=
 ⟨λtM off cap ss W hH hblk kV=>uui.2 (AnyM.slices_Sort_int aw0 tM off cap ss W hH hblk kV),
  λp cap W=>uui.2 (AnyM.slices_Sort_int_none aw0 p cap W)⟩
def gic(m:Nat):AnyZI.SortsIn Tryz.prog aw5 Fence.wide m:=
 ⟨λtM off cap ss W hH hblk kV=>uui.2 (AnyM.slices_Sort_int aw1 tM off cap ss W hH hblk kV),
  λp cap W=>uui.2 (AnyM.slices_Sort_int_none aw1 p cap W)⟩
section
variable {W w:Α} {l:Ψ} {b:Nat} {α:Type} {val:α->Ω} {m:List (Int × α)}
def fWs(hS:SL W l w)(hm:Has (.ob (jH (Value.int .i64) val b m)) l)(hlen:m.length*8<=140737488355328)(CG:∀p∈m,(Lit.int .i64 p.1).wf=true){K:Ω->Α->Prop}
  (h:∀v w',SL W (.ob (bR v 2 1 m.length ((u0 m).map (Value.int .i64)))::l) w'->K v w') :
  aF 83 [.map (some b)] w λv1 w1=>aF 82 [v1] w1 K:=
 WZ eIv f_7 gib (ttk Tryz.func132 (by kernel_rfl) rfl) (ttk Tryz.func133 (by kernel_rfl) rfl) yyx hS hm hlen CG h
def fWt(hS:SL W l w)(hm:Has (.ob (jH (Value.int .i64) val b m)) l)(hlen:m.length*8<=140737488355328)(CG:∀p∈m,(Lit.int .i64 p.1).wf=true){K:Ω->Α->Prop}
  (h:∀v w',SL W (.ob (bR v 3 1 m.length ((u0 m).map (Value.int .i64)))::l) w'->K v w') :
  aF 254 [.map (some b)] w λv1 w1=>aF 253 [v1] w1 K:=
 WZ eIx f_8 gic (ttk Tryz.func312 (by kernel_rfl) rfl) (ttk Tryz.func313 (by kernel_rfl) rfl) yye hS hm hlen CG h
end
set_option maxRecDepth 100000
open Go.RowKit
abbrev SP := Spec Tryz.prog
def md(v:Int)(n:Nat):Nat:=((IntKind.u64.wrap v) % (n:Int)).toNat
def mj(v:Int)(n:Nat)(hn:0<n):md v n<n:=by
 unfold md;have h1:=ww5 (IntKind.u64.wrap v) (show (n:Int)≠0 by omega);have h2:=vv9 (IntKind.u64.wrap v) (show (0:Int)<n by omega);omega
def yj(v:Int)(n:Nat)(h1:0<n)(h2:n<=9223372036854775807):SP 15 [.int .i64 v,.int .i64 (n:Int)] [] (e_ (.int .i64 (md v n:Int)) []):=by
 refine Enzz λW F w hS=>?_;apply gIk;unfold Oe;have hn:IntKind.u64.wrap (n:Int)=n:=by rw[wwx];omega
 have hv:0<=IntKind.u64.wrap v:=by rw[wwx];omega
 refine zW (zW ?_);rw[hn];refine ZL (by omega) ?_;have e:(IntKind.u64.wrap v).tmod (n:Int)=(md v n:Int):=by
  rw[xxt hv];unfold md;have:=ww5 (IntKind.u64.wrap v) (show (n:Int)≠0 by omega);omega
 rw[e];have:=mj v n h1;refine yv (by omega) ?_;(exact dW hS)
def zO(v:Int)(n:Nat)(h1:0<n)(h2:n<=9223372036854775807):SP 38 [.int .i64 v,.int .i64 (n:Int)] [] (e_ (.int .i64 (md v n:Int)) []):=by
 refine Enzz λW F w hS=>?_;apply iar;unfold Sg;have hn:IntKind.u64.wrap (n:Int)=n:=by rw[wwx];omega
 have hv:0<=IntKind.u64.wrap v:=by rw[wwx];omega
 refine zW (zW ?_);rw[hn];refine ZL (by omega) ?_;have e:(IntKind.u64.wrap v).tmod (n:Int)=(md v n:Int):=by
  rw[xxt hv];unfold md;have:=ww5 (IntKind.u64.wrap v) (show (n:Int)≠0 by omega);omega
 rw[e];have:=mj v n h1;refine yv (by omega) ?_;(exact dW hS)
section
variable {W w:Α} {l:Ψ}
def zg.perm{α:Type}{A:α->zB}{xs ys:List α}(h:SL W (.ob (zg A xs)::l) w)(p:xs.Perm ys):SL W (.ob (zg A ys)::l) w:=
 zg.iff.2 ((zg.iff.1 h).perm ((p.map _).append_right l))
def SL.vB{v:Ω}{t:Ε}{sz n:Nat}{cells:Γ}(h:SL W l w)(m:Has (.ob (bR v t sz n cells)) l):v.oneCell'=true:=by
 obtain⟨a,cap,rfl,_⟩:=bR.at h m;rfl
def awf{t:Ε}{a:Option Addr}{n c:Nat}{K:Ω->Prop}(h:K (.bool a.isNone)):HEq (.slice t) false (.slice a n c) (.slice none 0 0) K:=⟨a.isNone,by cases a<;>rfl,h⟩
end
def cWj{α β:Type}{key:α->Int}{kb:β->Int}{f:β->α}(hf:∀b,key (f b)=kb b)(L:List β)(k:Int):iQ key (L.map f) k=(iQ kb L k).map f:=by
 unfold iQ;rw[LQ hf,E4 hf];split
 ·rw[wwq]
 rfl
def AV{α:Type}{key:α->Int}{L:List α}{k:Int}{x:α}(h:iQ key L k=some x):L[kj key L k]?=some x/\kj key L k<L.length/\key x=k:=by
 unfold iQ at h;split at h
 ·rename_i hi;obtain⟨hl,e⟩:=xx hi;refine⟨h,hl,?_⟩;rw[zzd hl]at h
  cases h;exact e
 cases h
def Fj{α:Type}{key:α->Int}{L:List α}{k:Int}:(iQ key L k).isSome=mu key L k:=by
 cases h:mu key L k with
 | true=>
  obtain⟨hl,_⟩:=xx h;unfold iQ;rw[zzc h,zzd hl];rfl
 | false=>unfold iQ;rw[zzb (by rw[h];decide)];rfl
def ly(b:Nat):Ω:=.pointer (some ⟨b,0,none⟩)
abbrev EF:=PF × Nat
def kL(x:EF):Int:=x.1.id
def Im(x:EF):PF.id (Prod.fst x)=kL x:=rfl
abbrev Np(x:EF)(v:Ω):Ψ:=[.pt x.2 [v,.int .i64 x.1.safe] 296,.ob (bR v 5 1 x.1.b.length (x.1.b.map ic))]
def jK(x:EF):zB:=nT λv:Ω=>zG True (Np x v)
def jK.iff{W w:Α}{x:EF}{l:Ψ}:SL W (.ob (jK x)::l) w↔∃v,SL W (.pt x.2 [v,.int .i64 x.1.safe] 296::.ob (bR v 5 1 x.1.b.length (x.1.b.map ic))::l) w:=by
 unfold jK Np;simp only[SL.ex,SL.fact,zzu,zzp,uus]
abbrev mC(mb:Nat)(s:DS):Γ:=[.map (some mb),.bool s.off,.int .i64 s.arm,.int .i64 s.ops]
abbrev No(dp:Nat)(s:DS)(mb:Nat)(m:List (Int × Nat)):Ψ:=[.pt dp (mC mb s) 168,.ob (jH (Value.int .i64) ly mb m)]
structure p6(m:List (Int × Nat))(L:List EF)(R:List PF):Prop where
 rel:oL kL Prod.snd m L
 eq:L.map Prod.fst=R
def cw(dp:Nat)(s:DS):zB:=nT λx:Nat × List (Int × Nat) × List EF=>zG (p6 x.2.1 x.2.2 s.R) [.pt dp (mC x.1 s) 168,.ob (jH (Value.int .i64) ly x.1 x.2.1),.ob (zg jK x.2.2)]
def cw.iff{W w:Α}{dp:Nat}{s:DS}{l:Ψ}:SL W (.ob (cw dp s)::l) w↔∃mb m L,p6 m L s.R/\SL W (.pt dp (mC mb s) 168::.ob (jH (Value.int .i64) ly mb m)::.ob (zg jK L)::l) w:=by
 unfold cw;simp only[SL.ex,SL.fact,zzu,zzp];exact⟨λ⟨x,h1,h2⟩=>⟨x.1,x.2.1,x.2.2,h1,h2⟩,λ⟨mb,m,L,h1,h2⟩=>⟨(mb,m,L),h1,h2⟩⟩
def p6.get{m:List (Int × Nat)}{L:List EF}{R:List PF}(h:p6 m L R)(f:Int):kN m f=(iQ kL L f).map Prod.snd:=h.rel.get f
def p6.jW{m:List (Int × Nat)}{L:List EF}{R:List PF}(h:p6 m L R)(f:Int):iQ PF.id R f=(iQ kL L f).map Prod.fst:=by
 rw[<- h.eq];exact cWj Im L f
def p6.len{m:List (Int × Nat)}{L:List EF}{R:List PF}(h:p6 m L R):L.length=R.length:=by rw[<- h.eq,zzs]
def p6.set{m:List (Int × Nat)}{L:List EF}{R:List PF}(h:p6 m L R){f:Int}{x:EF}(hx:iQ kL L f=some x){y:PF}(hy:y.id=f):p6 m (L.set (kj kL L f) (y,x.2)) (kX PF.id R y):=by
 obtain⟨h1,h2,h3⟩:=AV hx;obtain⟨h4,h5⟩:=zzh.1 h1;refine⟨h.rel.vI h2 (by rw[h5,h3];exact hy) (by rw[h5]),?_⟩;have hi:mu PF.id R y.id=true:=by
  rw[<- Fj,hy,h.jW,hx];rfl
 rw[IQ hi,hy,<- h.eq,E4 Im,vvg]
def p6.new{m:List (Int × Nat)}{L:List EF}{R:List PF}(h:p6 m L R){f:Int}(hx:iQ kL L f=none){y:PF}(hy:y.id=f)(p:Nat):p6 (lM m f p) (kX kL L (y,p)) (kX PF.id R y):=by
 have hi:mu kL L (kL (y,p))=false:=by
  rw[<- Fj,show kL (y,p)=f from hy,hx];rfl
 have:=h.rel.add (x:=(y,p)) hi;refine⟨by rw[<- hy];exact this,?_⟩;rw[<- h.eq];exact fF9 Im L (y,p)
def p6.del{m:List (Int × Nat)}{L:List EF}{R:List PF}(h:p6 m L R)(f:Int):p6 (vy m f) (nM kL L f) (nM PF.id R f):=by
 refine⟨h.rel.del f,?_⟩;rw[<- h.eq];exact bRq Im L f
def e_y:SP 40 [] [] (λv post=>∃dp:Nat,v= .pointer (some ⟨dp,0,none⟩)/\post=[.ob (cw dp lS)]):=by
 refine Enzz λW F w hS=>?_;apply iav;delta Sk ai;refine yT rfl ?_;refine⟨_,rfl,zD (cs:=[.map (some w.heap.size),.bool false,.int .i64 0,.int .i64 0]) (SL.LZ (key:=Value.int .i64) (val:=ly) hS) ?_⟩;intro dp w' lL;refine⟨_,⟨dp,rfl,rfl⟩,cw.iff.2 ⟨w.heap.size,[],[],⟨oL.nil,rfl⟩,?_⟩⟩;have uL:SL W (.pt dp (mC w.heap.size lS) 168::.ob (jH (Value.int .i64) ly w.heap.size [])::F) w':=lL;have h2:=zg.nil (A:=jK) uL;exact SL.cR h2 Xi
def YA(dp mb:Nat)(s:DS)(f:Int):SP 287 [.pointer (some ⟨dp,0,none⟩),.int .i64 f] [.pt dp (mC mb s) 168] (e_ (.int .i64 (may s f)) [.pt dp (mC mb s) 168]):=by
 refine Enzz λW F w hS=>?_;apply g_x;delta Rf aI bW ai;refine Gp ?_;unfold may;refine yF (λh=>?_) (λh=>?_)
 ·rw[zzc h];(exact dW hS)
 rw[zzb (by rw[h];decide)];refine cF (λh2=>?_) (λh2=>?_)
 ·rw[zzc (.inl h2)];(exact dW hS)
 refine cF (λh3=>?_) (λh3=>?_)
 ·rw[zzc (.inr h3)];(exact dW hS)
 rw[zzb (by omega)];(exact dW hS)
def Fc(s:DS)(m:List (Int × Nat))(f:Int):Ω:=if may s f≠0 then .tuple #[.pointer none,.int .i64 (may s f)] else match kN m f with
 | none=>.tuple #[.pointer none,.int .i64 5]
 | some p=>.tuple #[ly p,.int .i64 0]
def y4(dp mb:Nat)(s:DS)(m:List (Int × Nat))(f:Int):SP 289 [.pointer (some ⟨dp,0,none⟩),.int .i64 f] (No dp s mb m) (e_ (Fc s m f) (No dp s mb m)):=by
 refine Enzz λW F w hS=>?_;apply g_z;delta Rh aI bW ai h_;refine Cg (YA dp mb s f) λw hS=>?_;unfold Fc;refine za (λh=>?_) (λh=>?_)
 ·rw[zzc h];(exact dW hS)
 rw[zzb h];refine Gp ?_;refine yJ hS Xh (ue .i64) wwg yye (λ_=>rfl) ?_;cases hm:kN m f with
 | none=>
  simp only[vvo,wwy];refine Ya (zq ?_);(exact dW hS)
 | some p=>
  simp only[yyf,xxc];unfold ly;refine Ya (zp ?_);(exact dW hS)
def yi(dp mb:Nat)(s:DS)(h0:s.off=false)(h1:0<=s.arm)(h2:s.arm<=9223372036854775807)(h3:s.ops<=100000):SP 288 [.pointer (some ⟨dp,0,none⟩)] [.pt dp (mC mb s) 168]
  (e_ (.int .i64 s.eI.err) [.pt dp (mC mb s.eI) 168]):=by
 refine Enzz λW F w hS=>?_;apply g_y;delta Rg aI bW ia ai;refine Gn λw hS=>?_;refine za (λh=>?_) (λh=>?_)
 ·refine Gn λw hS=>?_;have e:decide (s.arm-1=0)=decide (s.arm=1):=by congr 1;exact propext ⟨λ_=>by omega,λ_=>by omega⟩
  rw[e];rw[e]at hS
  have hS:SL W (.pt dp (mC mb s.eI) 168::F) w:=by
   simp only[mC,DS.eI,zzc h];exact hS
  unfold DS.err;refine za (λh4=>?_) (λh4=>?_)
  ·rw[zzc (by simp[DS.eI,h4])];(exact dW hS)
  rw[zzb (by simp[DS.eI,h4])];(exact dW hS)
 refine Gp ?_;have ha:¬s.arm=1:=by omega
 have hS:SL W (.pt dp (mC mb s.eI) 168::F) w:=by
  simp only[mC,DS.eI,zzb h,ha,ww6];rw[h0]at hS
  exact hS
 rw[h0];refine zp ?_;have:s.eI.err=0:=by simp[DS.err,DS.eI,ha]
 rw[this];(exact dW hS)
def Kp{α:Type}{enc:α->Γ}{n:Nat}(hn:∀x,(enc x).length=n):∀(xs:List α) (j k:Nat) (hj:j<xs.length) (x:α) (v:Ω),k<n->(enc xs[j]).set k v=enc x->((xs.map enc).flatten).set (j*n+k) v=((xs.set j x).map enc).flatten
 | y::xs,0,k,_,x,v,hk,h=>by
  simp only[zzn,zz4,List.set_cons_zero,uuh,yyd];rw[wwm _ _ (by rw[hn];exact hk)];rw[show (enc y).set k v=enc x from h]
 | y::xs,j+1,k,hj,x,v,hk,h=>by
  simp only[zzn,zz4,List.set_cons_succ];rw[vvq _ _ (by rw[hn,yyy];omega),hn,show (j+1)*n+k-n=j*n+k by rw[yyy];omega,Kp hn xs j k (by simpa using hj) x v hk (by simpa using h)]
def EP(sz l5:Nat)(z:Γ)(t ts:Ε)(v0:Ω)(w:Α)(R:Ω->Α->Prop):Prop:=
 HEq (.slice ts) false v0 (.slice Option.none 0 0) λv4=>
 iy v4
 (R (.slice Option.none 0 0) w)
 (zm (fR z 0) [] t 0 w λv5 uk=>
 zx sz l5 z t v5 v0 uk λv7 wI=>
 R v7 wI)
def J3{W w:Α}{F:Ψ}{sz l5 n:Nat}{z cs:Γ}{t ts:Ε}{v:Ω}{K:Ω->Α->Prop}(hv:∃a c,v= .slice a n c)(mr:∀w' c,SL W (c::F) w'->oZ w' sz v n cs)(hl:cs.length=n*sz)(hz:z.length=sz)(h0:0<sz)(h1:∀v∈cs,v.oneCell'=true)(hb:n*l5<=140737488355328)(hn:n<=140737488355328)
  (hS:SL W F w) (h:∀u w',SL W (.ob (bR u t sz n cs)::F) w'->K u w'):EP sz l5 z t ts v w K:=by
 obtain⟨a,c,rfl⟩:=hv;unfold EP;refine awf ?_;cases a with
 | none=>
  refine zq ?_;have hs:=mr _ _ (bR.nil (t:=t) (sz:=sz) hS);obtain rfl:cs=[]:=hs.2;obtain rfl:n=0:=by
   rw[yyo]at hl
   rcases Nat.mul_eq_zero.1 hl.symm with h|h
   ·exact h
   omega
  exact h _ _ (bR.nil hS)
 | some p=>
  refine zp ?_;refine zL hS rfl ?_;intro b w' lL;have uL:SL W (.ob (bR (.slice (some ⟨b,0,none⟩) 0 0) t sz 0 [])::F) w':=bR.full (by simp) (by simpa [fR] using lL);refine zI uL .hd (mr _ _ uL) hl hz h1 (by rw[yyd];exact hb) (by omega) ?_;intro u w2 Dz;rw[yyd,zzp]at Dz
  exact h u w2 Dz
section
variable {P:Program} {f:FuncId} {sz l5 n:Nat} {z cs:Γ} {t ts:Ε}
def TN(vc:∀v0 w R,EP sz l5 z t ts v0 w R->zQ P f [v0] w R)(hz:z.length=sz)(h0:0<sz){H:bw}{v:Ω}(hv:iD H sz v n cs)(h1:∀v∈cs,v.oneCell'=true)(hb:n*l5<=140737488355328)(hn:n<=140737488355328):
  Spec P f [v] [.mem H] (λu post=>post=[.ob (bR u t sz n cs),.mem H]):=by
 intro W F w hS;have hS:SL W (.mem H::F) w:=hS;exact vc _ _ _ (J3 (let ⟨_,a,c,e,_⟩:=hv;⟨a,c,e⟩) (λw' c h=>MQ h (.tl .hd) hv) hv.1 hz h0 h1 hb hn hS λu w' hS=>⟨_,rfl,hS⟩)
def bFk(vc:∀v0 w R,EP sz l5 z t ts v0 w R->zQ P f [v0] w R)(hz:z.length=sz)(h0:0<sz){v:Ω}(h1:∀v∈cs,v.oneCell'=true)(hl:cs.length=n*sz)(hb:n*l5<=140737488355328)(hn:n<=140737488355328):
  Spec P f [v] [.ob (bR v t sz n cs)] (λu post=>post=[.ob (bR u t sz n cs),.ob (bR v t sz n cs)]):=by
 intro W F w hS;have hS:SL W (.ob (bR v t sz n cs)::F) w:=hS;exact vc _ _ _ (J3 (let ⟨a,c,e,_⟩:=bR.at hS .hd;⟨a,c,e⟩) (λw' c h=>sC h (.tl .hd)) hl hz h0 h1 hb hn hS λu w' hS=>⟨_,rfl,hS⟩)
end
section
variable {W w:Α} {l F:Ψ} {α:Type} {enc:α->Γ} {t:Ε} {sz:Nat}
def zw{cs:Γ}{K:Ω->Α->Prop}(hS:SL W l w)(h:∀b w,SL W (.pt b cs t::l) w->K (.pointer (some ⟨b,0,none⟩)) w):∃uC:Γ,Value.agg cs.toArray= .agg uC.toArray/\zh uC t w K:=⟨cs,rfl,zD hS h⟩
def qJ{v:Ω}{n j:Nat}{k:IntKind}{xs:List α}{x:α}{K:Ω->Prop}(h:SL W l w)(m:Has (.ob (iB v t sz n (xs.map enc).flatten)) l)(hn:∀x,(enc x).length=sz)(hx:xs[j]?=some x)(hj:j<n)(hK:K (agg (enc x))):
  zl sz v (.int k (j:Int)) λp=>ze sz p w K:=by
 refine yZ h m hj λb o hb=>⟨⟨b,o,none⟩,enc x,rfl,hn x,λi u hu=>?_,hK⟩;rw[yyb];have hi:i<sz:=by rw[<- hn x];exact (zzh.1 hu).1
 exact hb i u hi (uJ hn xs j i x u hx hu)
def qG{x:Ω}{l5 n b:Nat}{z:Γ}{xs:List α}{y:α}{K:Ω->Α->Prop}(hS:SL W l w)(hr:lg (.ob (iB x t sz n (xs.map enc).flatten)) l F)(hm:Has (.pt b (enc y) t) l)(hn:∀x,(enc x).length=sz)(h1:∀x,∀v∈enc x,v.oneCell'=true)(hz:z.length=sz)(hl:xs.length=n)(hb:(n+1)*l5<=140737488355328)(Le:n+1<=140737488355328)
  (h:∀v' w',SL W (.ob (iB v' t sz (n+1) ((xs++[y]).map enc).flatten)::F) w'->K v' w'):zx sz l5 z t x (.slice (some ⟨b,0,none⟩) 1 1) w K:=
 ZP hS hr (oG hS hm (by rw[hn,wwl])) (by rw[hn,wwl]) hz (h1 y) hb Le λv' w' hS=>h v' w' (by rw[AT];exact hS)
def yu{x:Ω}{l5 n b:Nat}{z:Γ}{xs:List α}{y:α}{K:Ω->Α->Prop}(hS:SL W l w)(hr:lg (.ob (bR x t sz n (xs.map enc).flatten)) l F)(hm:Has (.pt b (enc y) t) l)(hn:∀x,(enc x).length=sz)(h1:∀x,∀v∈enc x,v.oneCell'=true)(hz:z.length=sz)(hb:(n+1)*l5<=140737488355328)(Le:n+1<=140737488355328)
  (h:∀v' w',SL W (.ob (bR v' t sz (n+1) ((xs++[y]).map enc).flatten)::F) w'->K v' w'):zx sz l5 z t x (.slice (some ⟨b,0,none⟩) 1 1) w K:=
 zI hS hr (oG hS hm (by rw[hn,wwl])) (by rw[hn,wwl]) hz (h1 y) hb Le λv' w' hS=>h v' w' (by rw[AT];exact hS)
def SL.u7{v:Ω}{cs:Γ}{xs:List α}{x:α}(hS:SL W (.ob (bR v t sz (xs.length+1) cs)::l) w):SL W (.ob (bR v t sz (xs++[x]).length cs)::l) w:=by
 rw[zza,zz6];exact hS
def SL.MG{H:bw}{b n:Nat}{cs:Γ}(hS:SL W l w)(hp:lJ [.mem H,.pt b cs t] l F)(hl:cs.length=n*sz):∃H',H.le H'/\iD H' sz (.slice (some ⟨b,0,none⟩) n n) n cs/\SL W (.mem H'::F) w:=by
 have hS:=hS.pick hp;exact bR.freeze ((bR.full hl (hS.perm (.swap _ _ _))).perm (.swap _ _ _))
end
def Ew(a b:Int):Int:=IntKind.u32.wrap ((BitVec.ofInt IntKind.u32.bits a ^^^ BitVec.ofInt IntKind.u32.bits b).toNat)
def Th(a b:Int):Int:=IntKind.u32.wrap ((BitVec.ofInt IntKind.u32.bits a &&& BitVec.ofInt IntKind.u32.bits b).toNat)
def Ha(a:Int):Int:=IntKind.u32.wrap ((BitVec.ofInt IntKind.u32.bits IntKind.u32.max ^^^ BitVec.ofInt IntKind.u32.bits a).toNat)
def G6(c:Int):Int:=if Th c 1=1 then Ew (c.fdiv (2 ^ 1)) 3988292384 else c.fdiv (2 ^ 1)
def EV:Nat->Int->Int
 | 0,c=>c
 | n+1,c=>G6 (EV n c)
def MU(c:Int)(b:Ζ):Int:=EV 8 (Ew c (b.toNat:Int))
def Be(s:Int)(b:Δ):Int:=Ha (b.foldl MU (Ha s))
def lX(n:Int):Ζ:=UInt8.ofNat (n % 256).toNat
def eWo(n:Int):ic (lX n)= .int .u8 (IntKind.u8.wrap n):=by
 unfold ic lX;congr 1;rw[UInt8.toNat_ofNat'];simp only[IntKind.wrap,IntKind.bits,IntKind.signed];have h1:=ww5 n (show (256:Int)≠0 by omega);have h2:=vv9 n (show (0:Int)<256 by omega);simp;omega
def four(x:Int):Δ:=[lX (x.fdiv (2 ^ 24)),lX (x.fdiv (2 ^ 16)),lX (x.fdiv (2 ^ 8)),lX x]
def Du(x:Int):(four x).length=4:=rfl
def sumOf(p:Δ):Int:=Be (Be 0 (four p.length)) p
def ij(p:Δ):Δ:=four p.length++four (sumOf p)++p
def oY(p:Δ):(ij p).length=8+p.length:=by simp[ij,Du];omega
def ng(b:Δ):Nat:=((b.getD 0 0).toNat*16777216+(b.getD 1 0).toNat*65536)+(b.getD 2 0).toNat*256+(b.getD 3 0).toNat
def lY(b:Δ):Except Int (Δ × Nat):=
 if b.length<8 then .error 2
 else if 1048576<ng b then .error 3
 else if b.length<8+ng b then .error 2
 else if four (sumOf ((b.drop 8).take (ng b)))≠(b.drop 4).take 4 then .error 4
 else .ok ((b.drop 8).take (ng b),8+ng b)
def vE:Nat->Δ->List (Δ) × Nat
 | 0,_=>([],0)
 | f+1,b=>match lY b with
  | .ok (p,n)=>(p::(vE f (b.drop n)).1,n+(vE f (b.drop n)).2)
  | .error _=>([],0)
def fwg(b:Δ):ng b<4294967296:=by
 unfold ng;have h:∀i,(b.getD i 0).toNat<256:=λi=>UInt8.toNat_lt _;have:=h 0;have:=h 1;have:=h 2;have:=h 3;omega
def LY(n:Nat):(lX (n:Int)).toNat=n % 256:=by
 unfold lX;rw[UInt8.toNat_ofNat'];omega
def Fb(n k:Nat)(hk:0<k):(n:Int).fdiv (k:Int)=((n / k:Nat):Int):=by
 rw[vvt _ (by omega)];exact (Int.natCast_ediv n k).symm
def fwf(n:Nat)(r:Δ)(h:n<4294967296):ng (four n++r)=n:=by
 unfold ng four;have e1:((n:Int).fdiv (2 ^ 24))=((n / 16777216:Nat):Int):=Fb n 16777216 (by decide);have e2:((n:Int).fdiv (2 ^ 16))=((n / 65536:Nat):Int):=Fb n 65536 (by decide);have e3:((n:Int).fdiv (2 ^ 8))=((n / 256:Nat):Int):=Fb n 256 (by decide);rw[e1,e2,e3];simp only[zzu,zzp,List.getD_cons_zero,List.getD_cons_succ,LY];omega
def fwh{b:Δ}{k:Nat}(h:4<=k):ng (b.take k)=ng b:=by
 unfold ng;have e:∀i,i<4->(b.take k).getD i 0=b.getD i 0:=λi hi=>by
  rw[vvu,vvu,uua,zzc (by omega)]
 rw[e 0 (by omega),e 1 (by omega),e 2 (by omega),e 3 (by omega)]
def aix{p r:Δ}(h:p.length<=1048576):ng (ij p++r)=p.length:=by
 unfold ij;rw[zzk,zzk];exact fwf p.length _ (by omega)
def M3{p r:Δ}(h:p.length<=1048576):lY (ij p++r)= .ok (p,8+p.length):=by
 have hn:=aix (r:=r) h;have hl:(ij p++r).length=8+p.length+r.length:=by rw[zza,oY]
 have hd8:((ij p++r).drop 8).take p.length=p:=by
  unfold ij;rw[show (8:Nat)=(four p.length++four (sumOf p)).length by simp[Du],zzk (four (p.length:Int)++four (sumOf p)) p r,wwn];exact wwo
 have hd4:((ij p++r).drop 4).take 4=four (sumOf p):=by
  unfold ij;rw[zzk,zzk,show (4:Nat)=(four (p.length:Int)).length by simp[Du],wwn,show (four (p.length:Int)).length=(four (sumOf p)).length from rfl];exact wwo
 unfold lY;rw[hn,zzb (by omega),zzb (by omega),zzb (by omega),hd8,hd4,zzb (by simp)]
def aFl{p:Δ}(h:p.length<=1048576){k:Nat}(hk:k<8+p.length):∃e,lY ((ij p).take k)= .error e/\e≠0:=by
 have hl:((ij p).take k).length=k:=by rw[zzf,oY];omega
 unfold lY;rw[hl];by_cases h8:k<8
 ·rw[zzc h8];exact⟨2,rfl,by decide⟩
 rw[zzb h8,fwh (by omega)];have hn:=aix (r:=[]) h;rw[zzw]at hn
 rw[hn,zzb (by omega),zzc hk];exact⟨2,rfl,by decide⟩
def aFn:lY []= .error 2:=rfl
def I8{f:Nat}{b p:Δ}{n:Nat}(h:lY b= .ok (p,n)):vE (f+1) b=(p::(vE f (b.drop n)).1,n+(vE f (b.drop n)).2):=by simp only[vE,h]
def I7{f:Nat}{b:Δ}{e:Int}(h:lY b= .error e):vE (f+1) b=([],0):=by simp only[vE,h]
def jy(ps:List (Δ)):Δ:=(ps.map ij).flatten
def sB(p:Δ)(ps:List (Δ)):jy (p::ps)=ij p++jy ps:=by simp[jy]
def aiz(ps:List (Δ))(p:Δ):jy (ps++[p])=jy ps++ij p:=by simp[jy]
def fRp(ps qs:List (Δ)):jy (ps++qs)=jy ps++jy qs:=by simp[jy]
def awr:∀(ps:List (Δ)) (r:Δ) (f:Nat),(∀p∈ps,p.length<=1048576)->(∃e,lY r= .error e)->ps.length<f->vE f (jy ps++r)=(ps,(jy ps).length)
 | [],r,f+1,_,⟨e,he⟩,_=>by
  rw[show jy []++r=r from rfl,I7 he];rfl
 | p::ps,r,f+1,hp,he,hf=>by
  have A9:=hp p (.head _);have ih:=awr ps r f (λq hq=>hp q (.tail _ hq)) he (Nat.lt_of_succ_lt_succ hf);rw[sB,zzk,I8 (M3 A9),<- oY,wwn,ih,zza]
def GD{b p:Δ}{n:Nat}(h:lY b= .ok (p,n)):8<=n/\n<=b.length/\p.length<=1048576/\n=8+p.length/\p=(b.drop 8).take p.length:=by
 unfold lY at h;split at h
 ·cases h
 split at h
 ·cases h
 split at h
 ·cases h
 split at h
 ·cases h
 rename_i h1 h2 h3 h4;have h:=Except.ok.inj h;generalize ng b=k at *
 cases h;have:((b.drop 8).take k).length=k:=by rw[zzf,zzq];omega
 exact⟨by omega,by omega,by omega,by omega,by rw[this]⟩
def aFm{b:Δ}{e:Int}(h:lY b= .error e):e=2\/e=3\/e=4:=by
 unfold lY at h;split at h
 ·cases h;simp
 split at h
 ·cases h;simp
 split at h
 ·cases h;simp
 split at h
 ·cases h;simp
 cases h
def awq:∀(f g:Nat) (b:Δ),b.length<f->b.length<g->vE f b=vE g b
 | f+1,g+1,b,hf,hg=>by
  cases h:lY b with
  | error e=>rw[I7 h,I7 h]
  | ok x=>
   obtain⟨p,n⟩:=x;have:=GD h;rw[I8 h,I8 h,awq f g (b.drop n) (by rw[zzq];omega) (by rw[zzq];omega)]
def nu(b:Δ):List (Δ) × Nat:=vE (b.length+1) b
def I6{b p:Δ}{n:Nat}(h:lY b= .ok (p,n)):nu b=(p::(nu (b.drop n)).1,n+(nu (b.drop n)).2):=by
 have:=GD h;unfold nu;rw[I8 h,awq b.length ((b.drop n).length+1) (b.drop n) (by rw[zzq];omega) (by omega)]
def Gy{b:Δ}{e:Int}(h:lY b= .error e):nu b=([],0):=I7 h
def f_j(f:Nat):∀b:Δ,b.length<f->(nu b).2<=b.length:=by
 induction f with
 | zero=>intro b h;omega
 | succ f ih=>
  intro b hb;cases h:lY b with
  | error e=>rw[Gy h];exact zz8 _
  | ok x=>
   obtain⟨p,n⟩:=x;have h2:=GD h;have:=ih (b.drop n) (by rw[zzq];omega);rw[I6 h];rw[zzq]at this
   show n+_<=_;omega
def aiy:∀ps:List (Δ),ps.length*8<=(jy ps).length
 | []=>by simp
 | p::ps=>by
  have:=aiy ps;rw[sB,zza,oY,zzj];omega
def f_l(ps:List (Δ))(r:Δ)(hp:∀p∈ps,p.length<=1048576)(he:∃e,lY r= .error e):nu (jy ps++r)=(ps,(jy ps).length):=by
 refine awr ps r _ hp he ?_;have:=aiy ps;rw[zza];omega
structure iL where
 kind:Int
 n:Int
 s:Β
def lq(x:iL):Γ:=[.int .i64 x.kind,.int .i64 x.n,.string x.s]
def BX:iL:=⟨0,0,⟨#[]⟩⟩
def jS(x:Int):Nat->Δ
 | 0=>[]
 | n+1=>lX (x.fdiv (2 ^ (8*n)))::jS x n
def pW(x:Int):∀n,(jS x n).length=n
 | 0=>rfl
 | n+1=>by simp[jS,pW x n]
def tH(x:iL):Bool:=if x.kind=1 then decide (x.s=⟨#[]⟩) else if x.kind=2 then decide (x.n=0) && decide (x.s.size<=4096) else false
def Bo(n:Int):Int:=n % 18446744073709551616
def kq(x:iL):Δ:=if x.kind=1 then lX x.kind::jS (Bo x.n) 8 else lX x.kind::(jS x.s.size 2++x.s.data.toList)
def tj(l:List iL):Except Int (Δ):=if 32767<l.length then .error 1 else if l.all tH then .ok (jS l.length 2++(l.map kq).flatten) else .error 1
structure nA where
 b:Δ
 e:Int
def lR(n:Nat)(r:nA):Δ × nA:=if r.e≠0 then ([],r) else if r.b.length<n then ([],{r with e:=2}) else (r.b.take n,{r with b:=r.b.drop n})
def mR(b:Δ):Nat:=b.foldl (λx c=>(x*256+c.toNat) % 18446744073709551616) 0
def kP(n:Nat)(r:nA):Nat × nA:=(mR (lR n r).1,(lR n r).2)
def lQ(m:Nat)(r:nA):Nat × nA:=if m<(kP 2 r).1 then (0,{(kP 2 r).2 with e:=3}) else kP 2 r
def sig(n:Nat):Int:=if n<9223372036854775808 then n else (n:Int)-18446744073709551616
def mD(r:nA):iL × nA:=
 if (kP 1 r).1=1 then (⟨1,sig (kP 8 (kP 1 r).2).1,⟨#[]⟩⟩,(kP 8 (kP 1 r).2).2)
 else if (kP 1 r).1=2 then (⟨2,0,⟨(lR (lQ 4096 (kP 1 r).2).1 (lQ 4096 (kP 1 r).2).2).1.toArray⟩⟩,(lR (lQ 4096 (kP 1 r).2).1 (lQ 4096 (kP 1 r).2).2).2)
 else (BX,if (kP 1 r).2.e=0 then {(kP 1 r).2 with e:=3} else (kP 1 r).2)
def mg:Nat->nA->List iL × nA
 | 0,r=>([],r)
 | i+1,r=>if r.e=0 then ((mD r).1::(mg i (mD r).2).1,(mg i (mD r).2).2) else ([],r)
def nL(b:Δ):Except Int (List iL):=
 let m:=lQ 32767 ⟨b,0⟩
 let x:=mg m.1 m.2
 let e:=if x.2.e=0 then if 0<x.2.b.length then 3 else 0 else x.2.e
 if e=0 then .ok x.1 else .error e
def iT(n:Nat):Δ:=[0,1,1]++jS n 8
def DC(n:Nat):(iT n).length=11:=by simp[iT,pW]
def bwk(x:Nat)(b:Δ)(c:Ζ)(h:mR b=x):mR (b++[c])=(x*256+c.toNat) % 18446744073709551616:=by
 unfold mR at *
 rw[ww8,h];rfl
def XN{n:Nat}(h:n<1152921504606846976):mR (jS n 8)=n:=by
 have f:∀k,((n:Int).fdiv (2 ^ (8*k)))=((n / 2 ^ (8*k):Nat):Int):=λk=>by
  have:=Fb n (2 ^ (8*k)) (Nat.two_pow_pos _);rw[<- this];push_cast;rfl
 unfold jS jS jS jS jS jS jS jS jS;simp only[f,mR,wwd,tti,LY,show (2:Nat) ^ (8*7)=72057594037927936 from rfl,show (2:Nat) ^ (8*6)=281474976710656 from rfl,show (2:Nat) ^ (8*5)=1099511627776 from rfl,
  show (2:Nat) ^ (8*4)=4294967296 from rfl,show (2:Nat) ^ (8*3)=16777216 from rfl,show (2:Nat) ^ (8*2)=65536 from rfl,show (2:Nat) ^ (8*1)=256 from rfl,show (2:Nat) ^ (8*0)=1 from rfl]
 omega
def e_1{x y:Δ}{n:Nat}(h:x.length=n):lR n ⟨x++y,0⟩=(x,⟨y,0⟩):=by
 subst h;unfold lR;rw[zzb (by simp),zzb (by simp)];simp
def Mg{x y:Δ}{n:Nat}(h:x.length=n):kP n ⟨x++y,0⟩=(mR x,⟨y,0⟩):=by
 unfold kP;rw[e_1 h]
def bRb{n:Nat}(h:n<1152921504606846976):nL (iT n)= .ok [⟨1,n,⟨#[]⟩⟩]:=by
 have h8:=XN h;have hl:=pW (n:Int) 8;unfold iT;generalize jS (n:Int) 8=y at *
 have e1:lQ 32767 ⟨[0,1,1]++y,0⟩=(1,⟨[1]++y,0⟩):=by
  have:kP 2 ⟨[0,1]++([1]++y),0⟩=(1,⟨[1]++y,0⟩):=Mg rfl;unfold lQ;rw[show ([0,1,1]++y:Δ)=[0,1]++([1]++y) from rfl,this,zzb (by show ¬32767<1;omega)]
 have e3:kP 1 ⟨[1]++y,0⟩=(1,⟨y,0⟩):=Mg rfl;have e4:kP 8 ⟨y,0⟩=(n,⟨[],0⟩):=by
  have:=Mg (x:=y) (y:=[]) hl;rw[zzw,h8]at this;exact this
 have e2:mD ⟨[1]++y,0⟩=(⟨1,n,⟨#[]⟩⟩,⟨[],0⟩):=by
  unfold mD;rw[e3,zzc rfl,e4,sig,zzc (by omega)]
 have e5:mg 1 ⟨[1]++y,0⟩=([⟨1,n,⟨#[]⟩⟩],⟨[],0⟩):=by
  show (if (0:Int)=0 then _ else _)=_;rw[zzc rfl,e2];rfl
 unfold nL;simp only[e1,e5];rfl
def HK(l:List iL):Option Int:=match l with
 | [f]=>if f.kind=1/\1<=f.n/\f.n<=1099511627776 then some f.n else none
 | _=>none
def tY(b:Δ):Option Int:=match nL b with
 | .ok l=>HK l
 | .error _=>none
def Vr{n:Nat}(h1:1<=n)(h:n<=1099511627776):tY (iT n)=some (n:Int):=by
 unfold tY;rw[bRb (by omega)];show (if (1:Int)=1/\1<=(n:Int)/\(n:Int)<=1099511627776 then some (n:Int) else none)=_;rw[zzc ⟨rfl,by omega,by omega⟩]
def mF(q:Δ):Option (Int × List (Δ) × Nat):=match (nu q).1 with
 | []=>none
 | h::l=>(tY h).map λn=>(n,l,(nu q).2)
def tO(l:List iL)(i:Nat)(r:nA):Except Int (List iL):=
 if (mg i r).2.e=0 then (if 0<(mg i r).2.b.length then .error 3 else .ok (l++(mg i r).1)) else .error (mg i r).2.e
def cIb:∀(i:Nat) (r:nA),r.e≠0->mg i r=([],r)
 | 0,r,_=>rfl
 | i+1,r,h=>by rw[mg,zzb h]
def Hd{l:List iL}{i:Nat}{r:nA}(h:r.e≠0):tO l i r= .error r.e:=by
 unfold tO;rw[cIb i r h,zzb h]
def bRe(l:List iL)(b:Δ):tO l 0 ⟨b,0⟩=if 0<b.length then .error 3 else .ok l:=by
 unfold tO mg;rw[zzc rfl,zzw]
def T6(l:List iL)(i:Nat)(b:Δ):tO l (i+1) ⟨b,0⟩=tO (l++[(mD ⟨b,0⟩).1]) i (mD ⟨b,0⟩).2:=by
 unfold tO;have e:mg (i+1) ⟨b,0⟩=((mD ⟨b,0⟩).1::(mg i (mD ⟨b,0⟩).2).1,(mg i (mD ⟨b,0⟩).2).2):=by rw[mg,zzc rfl]
 rw[e];simp only[zzk,zzu,zzp]
def XF{b:Δ}{n:Nat}(h:n<=b.length):lR n ⟨b,0⟩=(b.take n,⟨b.drop n,0⟩):=by
 unfold lR;rw[zzb (by simp),zzb (by show ¬b.length<n;omega)]
def XG{b:Δ}{n:Nat}(h:b.length<n):lR n ⟨b,0⟩=([],⟨b,2⟩):=by
 unfold lR;rw[zzb (by simp),zzc (by show b.length<n;omega)]
def Gj{b:Δ}{n:Nat}(h:n<=b.length):kP n ⟨b,0⟩=(mR (b.take n),⟨b.drop n,0⟩):=by unfold kP;rw[XF h]
def XO{b:Δ}{n:Nat}(h:b.length<n):kP n ⟨b,0⟩=(0,⟨b,2⟩):=by unfold kP;rw[XG h];rfl
def bRa{b:Δ}(h:2<=b.length)(hn:mR (b.take 2)<=32767):nL b=tO [] (mR (b.take 2)) ⟨b.drop 2,0⟩:=by
 have e:lQ 32767 ⟨b,0⟩=(mR (b.take 2),⟨b.drop 2,0⟩):=by unfold lQ;rw[Gj h,zzb (by show ¬32767<mR (b.take 2);omega)]
 unfold nL tO;simp only[e,zzp];by_cases h1:(mg (mR (b.take 2)) ⟨b.drop 2,0⟩).2.e=0
 ·rw[zzc h1,zzc h1];by_cases h2:0<(mg (mR (b.take 2)) ⟨b.drop 2,0⟩).2.b.length
  ·rw[zzc h2,zzc h2,zzb (by decide)]
  rw[zzb h2,zzb h2,zzc rfl]
 rw[zzb h1,zzb h1,zzb h1]
def XL(k:Ζ)(b:Δ):kP 1 ⟨k::b,0⟩=(k.toNat,⟨b,0⟩):=by
 rw[Gj (by simp)];have:=k.toNat_lt;simp only[xxq,uu1,uuy,List.drop_zero,mR,wwd,tti];rw[show (0*256+k.toNat) % 18446744073709551616=k.toNat by omega]
def bRc{l:List iL}{i:Nat}{k:Ζ}{b:Δ}(hk:k.toNat=1):tO l (i+1) ⟨k::b,0⟩=if b.length<8 then .error 2 else tO (l++[⟨1,sig (mR (b.take 8)),⟨#[]⟩⟩]) i ⟨b.drop 8,0⟩:=by
 rw[T6];unfold mD;rw[XL,zzc hk];by_cases h:b.length<8
 ·simp only[XO h];rw[zzc h,Hd (by simp)]
 simp only[Gj (wwh.1 h)];rw[zzb h]
def bRd{l:List iL}{i:Nat}{k:Ζ}{b:Δ}(hk:k.toNat=2):tO l (i+1) ⟨k::b,0⟩=if b.length<2 then .error 2 else if 4096<mR (b.take 2) then .error 3 else if b.length-2<mR (b.take 2) then .error 2 else
  tO (l++[⟨2,0,⟨((b.drop 2).take (mR (b.take 2))).toArray⟩⟩]) i ⟨(b.drop 2).drop (mR (b.take 2)),0⟩:=by
 rw[T6];unfold mD;rw[XL,zzb (by omega),zzc hk];by_cases h:b.length<2
 ·have e:lQ 4096 ⟨b,0⟩=(0,⟨b,2⟩):=by unfold lQ;rw[XO h,zzb (by simp)]
  have e2:lR 0 ⟨b,2⟩=([],⟨b,2⟩):=by unfold lR;rw[zzc (by simp)]
  simp only[e,e2];rw[zzc h,Hd (by simp)]
 rw[zzb h];by_cases h2:4096<mR (b.take 2)
 ·have e:lQ 4096 ⟨b,0⟩=(0,⟨b.drop 2,3⟩):=by unfold lQ;rw[Gj (wwh.1 h),zzc h2]
  have e2:lR 0 ⟨b.drop 2,3⟩=([],⟨b.drop 2,3⟩):=by unfold lR;rw[zzc (by simp)]
  simp only[e,e2];rw[zzc h2,Hd (by simp)]
 have e:lQ 4096 ⟨b,0⟩=(mR (b.take 2),⟨b.drop 2,0⟩):=by unfold lQ;rw[Gj (wwh.1 h),zzb h2]
 simp only[e];rw[zzb h2];by_cases h3:b.length-2<mR (b.take 2)
 ·rw[XG (by rw[zzq];exact h3),zzc h3,Hd (by simp)]
 rw[XF (by rw[zzq];omega),zzb h3]
structure Rq where
 id:Int
 table:Int
 weight:Int
 at_:Int
 iH:Int
 chunks:Int
 done:Bool
deriving DecidableEq
def mL(r:Rq):Γ:=[.int .i64 r.id,.int .i64 r.table,.int .i64 r.weight,.int .i64 r.at_,.int .i64 r.iH,.int .i64 r.chunks,.bool r.done]
def tm(r:Rq):(mL r).length=7:=rfl
def Hi(r:Rq):∀v∈mL r,v.oneCell'=true:=by simp[mL,Value.oneCell']
abbrev nh(H:bw)(v:Ω)(L:List Rq):Prop:=iD H 7 v L.length (L.map mL).flatten
def Tx(late t:Int):Int:=IntKind.i64.wrap ((BitVec.ofInt IntKind.i64.bits (late.fdiv (2 ^ (min t.toNat IntKind.i64.bits))) &&& BitVec.ofInt IntKind.i64.bits 1).toNat)
def fR8{k:IntKind}{a b:Int}{K:Ω->Prop}(hb:0<=b)(h:K (.int .i64 (Tx a b))):zc .shr (.int .i64 a) (.int k b) λv=>zc .and v (.int .i64 1) K:=by
 refine⟨.int .i64 (a.fdiv (2 ^ (min b.toNat IntKind.i64.bits))),?_,⟨_,?_,h⟩⟩
 ·simp only[nH];rw[zzb (by omega)]
 simp only[nH,ww7];rfl
structure mn where
 kind:Int
 id:Int
 table:Int
 weight:Int
 at_:Int
 iH:Int
 done:Bool
deriving DecidableEq
structure eF where
 aw:Int
 ops:List lA
 notes:List mn
def pc(n:mn):Γ:=[.int .i64 n.kind,.int .i64 n.id,.int .i64 n.table,.int .i64 n.weight,.int .i64 n.at_,.int .i64 n.iH,.bool n.done]
def BT(n:mn):(pc n).length=7:=rfl
def emp:Β:=⟨#[]⟩
def ph(o:lA)(aw:Int):Bool:=decide (1<=o.aw/\o.aw<=aw/\0<=o.table/\o.table<8/\1<=o.key/\o.key<=1099511627776/\o.val.size<=32/\(o.gone=true->o.val=emp))
def nm(n:mn)(aw:Int):Bool:=decide (1<=n.id/\n.id<=64 /\
 ((n.kind=1/\0<=n.table/\n.table<8/\1<=n.weight/\n.weight<=8/\1<=n.at_/\n.at_<=aw/\n.iH=0/\n.done=false)\/(n.kind=2/\n.table=0/\n.weight=0/\n.at_=0/\0<=n.iH/\n.iH<=1099511627776)))
def jE(x:eF):Bool:=decide (1<=x.aw/\x.aw<=1099511627776/\x.ops.length<=4096/\x.notes.length<=256) && x.ops.all (λo=>ph o x.aw) && x.notes.all (λn=>nm n x.aw)
def iF(n:Int):iL:=⟨1,n,emp⟩
def tF(s:Β):iL:=⟨2,0,s⟩
def l4(b:Bool):Int:=if b=true then 1 else 0
def uI(o:lA):List iL:=[iF o.aw,iF o.table,iF o.key,iF (l4 o.gone),tF o.val]
def uH(n:mn):List iL:=[iF n.kind,iF n.id,iF n.table,iF n.weight,iF n.at_,iF n.iH,iF (l4 n.done)]
def px(x:eF):List iL:=[iF x.aw,iF x.ops.length]++(x.ops.map uI).flatten++([iF x.notes.length]++(x.notes.map uH).flatten)
def xS(x:eF):Except Int (Δ):=if jE x=true then tj (px x) else .error 1
structure ig where
 l:List iL
 bad:Bool
def uY(k:Int)(r:ig):iL × ig:=match r.bad,r.l with
 | false,f::l=>if f.kind=k then (f,⟨l,false⟩) else (BX,⟨f::l,true⟩)
 | _,l=>(BX,⟨l,true⟩)
def kr(r:ig):Int × ig:=((uY 1 r).1.n,(uY 1 r).2)
def ui(r:ig):Β × ig:=((uY 2 r).1.s,(uY 2 r).2)
def iJ(m:Int)(r:ig):Int × ig:=if (kr r).1<0\/m<(kr r).1 then (0,{(kr r).2 with bad:=true}) else kr r
def wR(r:ig):Bool × ig:=(decide ((iJ 1 r).1=1),(iJ 1 r).2)
def s4(r:ig):lA × ig:=
 let a:=kr r;let b:=iJ 8 a.2;let c:=kr b.2;let d:=wR c.2;let e:=ui d.2
 (⟨a.1,b.1,c.1,d.1,e.1⟩,e.2)
def uf(r:ig):mn × ig:=
 let a:=iJ 2 r;let b:=iJ 64 a.2;let c:=iJ 8 b.2;let d:=iJ 8 c.2;let e:=kr d.2;let f:=kr e.2;let g:=wR f.2
 (⟨a.1,b.1,c.1,d.1,e.1,f.1,g.1⟩,g.2)
def mU{α:Type}(one:ig->α × ig):Nat->ig->List α × ig
 | 0,r=>([],r)
 | i+1,r=>if r.bad=true then ([],r) else ((one r).1::(mU one i (one r).2).1,(mU one i (one r).2).2)
def sZ(r:ig):eF × ig:=
 let a:=kr r;let n:=iJ 4096 a.2;let os:=mU s4 n.1.toNat n.2;let m:=iJ 256 os.2;let ns:=mU uf m.1.toNat m.2
 (⟨a.1,os.1,ns.1⟩,ns.2)
def Dg(l:List iL):Option eF:=
 let x:=sZ ⟨l,false⟩
 if x.2.bad=false/\x.2.l=[]/\jE x.1=true then some x.1 else none
def sQ(b:Δ):Except Int eF:=match nL b with
 | .error e=>.error e
 | .ok l=>match Dg l with
  | some x=>.ok x
  | none=>.error 3
def Bh(i:Nat)(r:Rq):Prop:=r.id=(i:Int)+1/\0<=r.table/\r.table<8/\1<=r.weight/\r.weight<=8/\1<=r.at_/\r.at_<=1099511627776/\0<=r.iH/\r.iH<=1099511627776/\0<=r.chunks/\r.chunks<=1099511627776
def GQ(L:List Rq)(i:Nat):Prop:=∀h:i<L.length,Bh i L[i]/\(∀h0:0<i,L[i-1].at_<=L[i].at_)/\∀k (hk:k<i),¬(L[k].table=L[i].table/\L[k].done=false)
def lr(L:List Rq):Prop:=L.length<=64/\∀i,GQ L i
instance (i:Nat) (r:Rq):Decidable (Bh i r):=by unfold Bh;infer_instance
def lr.fin{L:List Rq}:lr L↔L.length<=64/\∀i:Fin L.length,Bh i.1 L[i.1]/\(0<i.1->(L[i.1-1]'(by omega)).at_<=L[i.1].at_)/\∀k:Fin i.1,¬((L[k.1]'(by omega)).table=L[i.1].table/\(L[k.1]'(by omega)).done=false):=
 ⟨λh=>⟨h.1,λi=>⟨(h.2 i.1 i.2).1,(h.2 i.1 i.2).2.1,λk=>(h.2 i.1 i.2).2.2 k.1 k.2⟩⟩,
  λh=>⟨h.1,λi hi=>⟨(h.2 ⟨i,hi⟩).1,(h.2 ⟨i,hi⟩).2.1,λk hk=>(h.2 ⟨i,hi⟩).2.2 ⟨k,hk⟩⟩⟩⟩
instance (L:List Rq):Decidable (lr L):=decidable_of_iff _ lr.fin.symm
def fR4(L:List Rq):∀v∈(L.map mL).flatten,v.oneCell'=true:=xC Hi L
def CU(L:List Rq)(t w a:Int):Rq:=⟨((L.length+1:Nat):Int),t,w,a,0,0,false⟩
def ux(L:List Rq)(t w a:Int):Option (List Rq):=if lr L/\lr (L++[CU L t w a]) then some (L++[CU L t w a]) else none
def p'(L:List Rq)(id c:Int)(dn:Bool):Option (List Rq):=
 if lr L/\1<=id/\id<=L.length then match L[(id-1).toNat]? with
  | some r=>if r.done=true\/c<r.iH\/1099511627776<c\/1099511627776<=r.chunks then none else some (L.set (id-1).toNat {r with iH:=c,chunks:=r.chunks+1,done:=dn})
  | none=>none
 else none
def bFg{L:List Rq}(hM:lr L){j:Nat}(hj:j<L.length)(c:Int)(dn:Bool):p' L ((j+1:Nat):Int) c dn =
  if L[j].done=true\/c<L[j].iH\/1099511627776<c\/1099511627776<=L[j].chunks then none else some (L.set j {L[j] with iH:=c,chunks:=L[j].chunks+1,done:=dn}):=by
 unfold p';have e:(((j+1:Nat):Int)-1).toNat=j:=by omega
 rw[zzc ⟨hM,by omega,by omega⟩,e,zzd hj]
def bFi{L:List Rq}{id c:Int}{dn:Bool}(h:¬(lr L/\1<=id/\id<=L.length)):p' L id c dn=none:=zzb h
def ES{L L':List Rq}{t w a:Int}(h:ux L t w a=some L'):lr L':=by
 unfold ux at h;split at h
 ·rename_i hm;cases h;exact hm.2
 cases h
def G9{L L':List Rq}{id c:Int}{dn:Bool}(h:p' L id c dn=some L'):lr L':=by
 unfold p' at h;split at h
 ·rename_i hm;obtain⟨hM,h1,h2⟩:=hm;split at h
  ·rename_i r hr;split at h
   ·cases h
   rename_i hc;cases h;generalize (id-1).toNat=j at *
   obtain⟨hj,hr⟩:=zzh.1 hr;refine⟨by rw[yyh];exact hM.1,λi hi=>?_⟩;rw[yyh]at hi
   have mh:∀k (hk:k<L.length),((L.set j {r with iH:=c,chunks:=r.chunks+1,done:=dn})[k]'(by rw[yyh];exact hk)).at_=L[k].at_/\((L.set j {r with iH:=c,chunks:=r.chunks+1,done:=dn})[k]'(by rw[yyh];exact hk)).table=L[k].table:=λk hk=>by
    rw[xxi];split
    ·rename_i e;subst e;rw[hr];exact⟨rfl,rfl⟩
    exact⟨rfl,rfl⟩
   obtain⟨k1,k2,k3⟩:=hM.2 i hi;refine⟨?_,λh0=>?_,λk hk=>?_⟩
   ·rw[xxi];split
    ·rename_i e;subst e;rw[hr]at k1
     unfold Bh at k1 ⊢;simp only;omega
    exact k1
   ·rw[(mh (i-1) (by omega)).1,(mh i hi).1];exact k2 h0
   rw[(mh k (by omega)).2,(mh i hi).2];rintro ⟨e1,e2⟩;rw[xxi]at e2
   split at e2
   ·rename_i e;subst e;refine k3 j hk ⟨e1,?_⟩;rw[hr];cases hd:r.done with
    | false=>rfl
    | true=>exact absurd (.inl hd) hc
   exact k3 k hk ⟨e1,e2⟩
  cases h
 cases h
structure il where
 file:Int
 first:Int
 size:Nat
 l:List (Δ)
structure Bv where
 file:Int
 tu:Int
 fresh:Bool
structure ib where
 bF:List il
 base:Int
 size:Int
 iC:Option Bv
def il.next(s:il):Int:=s.first+s.l.length
def f_(L:List il):Int:=match L.getLast? with
 | none=>0
 | some s=>s.next-1
def j7(L:List il):Int:=match L with
 | []=>1
 | s::_=>s.first
def rV:List il->Int->Option (Δ)
 | [],_=>none
 | s::r,n=>if s.first<=n/\n<s.next then s.l[(n-s.first).toNat]? else rV r n
structure mc where
 file:Int
 fresh:Bool
 b:Δ
def rM(g:ib)(f:Int)(p:Δ):Except Int mc:=
 if g.base+4096<=f then .error 7 else .ok ⟨f,true,ij (iT (f_ g.bF+1).toNat)++ij p⟩
def jQ(g:ib)(off:Bool)(p:Δ):Except Int mc:=
 if 1048576<p.length then .error 1
 else if off=true then .error 8
 else if 1099511627776<=f_ g.bF then .error 7
 else match g.bF.getLast? with
  | none=>rM g g.base p
  | some s=>if s.l.length=0\/(s.size:Int)+(ij p).length<=g.size then .ok ⟨s.file,false,ij p⟩ else rM g (s.file+1) p
def iq(g:ib)(d:DS):(ib × DS) × Int:=match g.iC with
 | none=>((g,d),0)
 | some x=>(({g with iC:=if (if x.fresh=true then d.remove x.file else d.cut x.file x.tu).2=0 then none else some x},(if x.fresh=true then d.remove x.file else d.cut x.file x.tu).1),(if x.fresh=true then d.remove x.file else d.cut x.file x.tu).2)
def nQ(L:List il)(x:mc)(p:Δ):List il:=
 let L:=if x.fresh=true then L++[⟨x.file,f_ L+1,0,[]⟩] else L
 L.dropLast++L.getLast?.toList.map λs=>{s with size:=s.size+x.b.length,l:=s.l++[p]}
def ki(g:ib)(d:DS)(p:Δ):(ib × DS) × (Int × Int):=match jQ g d.off p with
 | .error e=>((g,d),(0,e))
 | .ok x=>
  let m:=iq g d
  if m.2≠0 then (m.1,(0,m.2)) else
  let a:=m.1.2.append x.file x.b
  if a.2≠0 then ((m.1.1,a.1),(0,a.2)) else
  let s:=a.1.sync x.file
  if s.2≠0 then ((m.1.1,s.1),(0,s.2)) else
  (({m.1.1 with bF:=nQ m.1.1.bF x p},s.1),(f_ (nQ m.1.1.bF x p),0))
def pU(L:List il):Int:=match L.getLast? with
 | none=>0
 | some s=>s.size
def lz(g:ib)(d:DS)(p:Δ)(k:Int):(ib × DS) × Int:=
 if k<0 then ((g,d),1) else match jQ g d.off p with
 | .error e=>((g,d),e)
 | .ok x=>
  let m:=iq g d
  if m.2≠0 then (m.1,m.2) else
  let a:=m.1.2.append x.file (x.b.take (k.toNat % x.b.length))
  if a.2≠0 then ((m.1.1,a.1),a.2) else
  (({m.1.1 with iC:=some ⟨x.file,if x.fresh=true then 0 else pU m.1.1.bF,x.fresh⟩},a.1),0)
def mw:List il->DS->Int->(List il × DS) × Int
 | s::t::r,d,n=>if s.next-1<=n then (if (d.remove s.file).2≠0 then ((s::t::r,(d.remove s.file).1),(d.remove s.file).2) else mw (t::r) (d.remove s.file).1 n) else ((s::t::r,d),0)
 | L,d,_=>((L,d),0)
def mv(g:ib)(d:DS)(n:Int):(ib × DS) × Int:=
 if d.off=true then ((g,d),8) else (({g with bF:=(mw g.bF d n).1.1},(mw g.bF d n).1.2),(mw g.bF d n).2)
def kM(base:Int)(R:List PF):Ξ:=(R.map PF.id).filter λf=>decide (base<=f/\f<base+4096)
def na(L:List il)(R:List PF)(f:Int)(last:Bool):(Bool × Bool) × List il:=
 let b:=((iQ PF.id R f).map PF.b).getD []
 match mF b with
 | none=>((false,last),L)
 | some (first,l,n)=>
  if (last=false/\(n≠b.length\/l.length=0))\/(0<L.length/\first≠f_ L+1)\/1099511627776<first+l.length-1 then ((true,false),L)
  else ((true,true),L++[⟨f,first,n,l⟩])
def pV(R:List PF):Ξ->Option Int->List il->Bool->Option (List il × Bool)
 | [],_,L,whole=>some (L,whole)
 | f::r,prev,L,whole=>
  let x:=na L R f r.isEmpty
  if x.1.2=false then none else if (match prev with|none=>false|some g=>decide (f≠g+1))=true then none else pV R r (some f) x.2 x.1.1
def nC(L:List il)(d:DS)(ids:Ξ)(whole:Bool):DS × Int:=match ids.getLast? with
 | none=>(d,0)
 | some f=>if whole=false then d.remove f else if pU L<lH d.R f then d.cut f (pU L) else (d,0)
def jX(d:DS)(base size:Int):DS × Except Int ib:=
 if base<0\/12288<base\/size<64\/65536<size then (d,.error 1)
 else if d.off=true then (d,.error 8)
 else match pV d.R (kM base d.R) none [] true with
  | none=>(d,.error 3)
  | some (L,whole)=>if (nC L d (kM base d.R) whole).2≠0 then ((nC L d (kM base d.R) whole).1,.error (nC L d (kM base d.R) whole).2) else ((nC L d (kM base d.R) whole).1,.ok ⟨L,base,size,none⟩)
structure po(s:il)(N:Nat):Prop where
 f0:0<=s.file
 f1:s.file<=100000
 n0:1<=s.first
 n1:s.first<=1099511627776
 sz:s.size<=N
 ln:s.l.length<=N
 bl:∀b∈s.l,b.length<=1048576
structure ib.Ok(g:ib)(N:Nat):Prop where
 bF:∀s∈g.bF,po s N
 b0:0<=g.base
 b1:g.base<=12288
 s0:64<=g.size
 s1:g.size<=65536
 ln:g.bF.length<=N
def y'{L:List il}{N:Nat}(h:∀s∈L,po s N):0<=f_ L/\f_ L<=1099511627776+N:=by
 unfold f_;split
 ·omega
 rename_i s hs;have:=h s (xxu hs);have h1:=this.n0;have h2:=this.n1;have h3:=this.ln;simp only[il.next];omega
section
variable {A:List PF} {x:PF}
def TR(hs:kE PF.id (A++[x])):kj PF.id (A++[x]) x.id=A.length:=EZ hs (j:=A.length) (by simp) (by simp)
def F7(hs:kE PF.id (A++[x])):mu PF.id (A++[x]) x.id=true:=(CI hs).2 ⟨x,by simp,rfl⟩
def Fk(hs:kE PF.id (A++[x])):iQ PF.id (A++[x]) x.id=some x:=w9 hs (by simp)
def aij(hs:kE PF.id (A++[x])){y:PF}(hy:y.id=x.id):kX PF.id (A++[x]) y=A++[y]:=by
 have h1:mu PF.id (A++[x]) y.id=true:=by rw[hy];exact F7 hs
 rw[IQ h1,hy,TR hs];simp
def M5(hs:kE PF.id (A++[x]))(g:PF->PF):oJ (A++[x]) x.id g=A++[{g x with id:=x.id}]:=by
 unfold oJ;rw[Fk hs];exact aij hs rfl
def Ud(hs:kE PF.id (A++[x])):nM PF.id (A++[x]) x.id=A:=by
 rw[nM,zzc (F7 hs),TR hs];simp[List.eraseIdx_append_of_length_le]
def bRs(hs:kE PF.id (x::A)):nM PF.id (x::A) x.id=A:=by
 have h1:mu PF.id (x::A) x.id=true:=(CI hs).2 ⟨x,by simp,rfl⟩;have h2:kj PF.id (x::A) x.id=0:=EZ hs (j:=0) (by simp) rfl;rw[nM,zzc h1,h2];rfl
def a_0(hs:kE PF.id (A++[x]))(b:Δ):o_ (A++[x]) x.id b=A++[⟨x.id,x.safe,x.b++b⟩]:=by
 unfold o_;rw[Fk hs];exact aij hs rfl
def a_1(hs:kE PF.id A){f:Int}(h:∀y∈A,y.id<f)(b:Δ):o_ A f b=A++[⟨f,0,b⟩]:=by
 have h1:iQ PF.id A f=none:=(Kt hs).2 λy hy=>by have:=h y hy;omega
 have h2:mu PF.id A f=false:=by
  cases e:mu PF.id A f with
  | false=>rfl
  | true=>obtain⟨y,hy,e⟩:=(CI hs).1 e;have:=h y hy;omega
 have h3:kj PF.id A f=A.length:=by
  unfold kj;rw[yy2.2 λy hy=>by simpa using h y hy]
 unfold o_;rw[h1];unfold kX;simp only[h2,h3];simp[CT]
end
def uq(f:Int)(R:List PF):Prop:=∀i (h:i<R.length),R[i].id=f+i
def uq.sorted{f:Int}{R:List PF}(h:uq f R):kE PF.id R:=by
 unfold kE;rw[xxk];intro i j hi hj wq;rw[h i hi,h j hj];omega
def uq.mem{f:Int}{R:List PF}(h:uq f R){x:PF}(hx:x∈R):f<=x.id/\x.id<f+R.length:=by
 obtain⟨i,hi,rfl⟩:=yy5.1 hx;rw[h i hi];omega
def uq.snoc{f:Int}{R:List PF}(h:uq f R){x:PF}(hx:x.id=f+R.length):uq f (R++[x]):=by
 intro i hi;by_cases hl:i<R.length
 ·rw[wwk hl];exact h i hl
 have:i=R.length:=by simp at hi;omega
 subst this;simp[hx]
def l_(s:il):Δ:=jy (iT s.first.toNat::s.l)
def jF(s:il):PF:=⟨s.file,(l_ s).length,l_ s⟩
def lO:Int->Int->List il->Prop
 | _,_,[]=>True
 | f,n,s::r=>s.file=f/\s.first=n/\s.size=(l_ s).length/\(∀p∈s.l,p.length<=1048576)/\(r≠[]->s.l≠[])/\lO (f+1) (n+s.l.length) r
def gR(L:List il):List (Δ):=(L.map il.l).flatten
def uD(s:il)(L:List il):gR (s::L)=s.l++gR L:=by simp[gR]
def BW(A B:List il):gR (A++B)=gR A++gR B:=by simp[gR]
def lO.app:∀{f n:Int} {A B:List il},lO f n (A++B)↔lO f n A/\(B≠[]->∀s∈A,s.l≠[])/\lO (f+A.length) (n+(gR A).length) B
 | f,n,[],B=>by simp[lO,gR]
 | f,n,s::A,B=>by
  have ih:=lO.app (f:=f+1) (n:=n+s.l.length) (A:=A) (B:=B);have e1:f+1+(A.length:Int)=f+((s::A).length:Int):=by simp;omega
  have e2:n+(s.l.length:Int)+((gR A).length:Int)=n+((gR (s::A)).length:Int):=by rw[uD,zza];omega
  rw[e1,e2]at ih
  rw[zzu];simp only[lO,ih];constructor
  ·rintro ⟨h1,h2,h3,h4,h5,h6,h7,h8⟩;refine⟨⟨h1,h2,h3,h4,λhA=>h5 (by simp[hA]),h6⟩,λhB t ht=>?_,h8⟩;rcases zz7.1 ht with rfl|ht
   ·exact h5 (by simp[hB])
   exact h7 hB t ht
  rintro ⟨⟨h1,h2,h3,h4,h5,h6⟩,h7,h8⟩;refine⟨h1,h2,h3,h4,λh=>?_,h6,λhB t ht=>h7 hB t (.tail _ ht),h8⟩;by_cases hA:A=[]
  ·subst hA;exact h7 (by simpa using h) s (.head _)
  exact h5 hA
def lO.wT:∀{f n:Int} {L:List il},lO f n L->uq f (L.map jF)
 | f,n,[],_=>λi h=>by simp at h
 | f,n,s::L,h=>by
  obtain⟨h1,_,_,_,_,h6⟩:=h;have ih:=h6.wT;intro i hi;cases i with
  | zero=>simpa [jF] using h1
  | succ i=>
   have:=ih i (by simpa using hi);simp only[zzn,vvi];rw[this];push_cast;omega
def lO.head{f n:Int}{L:List il}(h:lO f n L)(hL:L≠[]):f_ L=n+(gR L).length-1:=by
 obtain⟨A,s,rfl⟩:∃A s,L=A++[s]:=⟨L.dropLast,L.getLast hL,(List.dropLast_concat_getLast hL).symm⟩;obtain⟨_,_,h3⟩:=lO.app.1 h;obtain⟨_,h4,_⟩:=h3;unfold f_;rw[yy6,BW];simp only[il.next,h4,zza];simp[gR];omega
def lO.low{f n:Int}{L:List il}(h:lO f n L)(hL:L≠[]):j7 L=n:=by
 cases L with
 | nil=>exact absurd rfl hL
 | cons s L=>exact h.2.1
def lO.read:∀{f n:Int} {L:List il},lO f n L->∀i,rV L i=if n<=i then (gR L)[(i-n).toNat]? else none
 | f,n,[],_,i=>by simp[rV,gR]
 | f,n,s::L,h,i=>by
  obtain⟨_,h2,_,_,_,h6⟩:=h;have ih:=h6.read i;subst h2;rw[rV,ih,uD];have ud:s.next=s.first+s.l.length:=rfl;by_cases h1:s.first<=i
  ·rw[zzc (c:=s.first<=i) h1];by_cases h3:i<s.next
   ·rw[zzc (c:=s.first<=i/\i<s.next) ⟨h1,h3⟩,zzr (by omega)]
   rw[zzb (c:=s.first<=i/\i<s.next) (by omega),zzc (by omega),yya (by omega)];congr 1;omega
  rw[zzb (c:=s.first<=i/\i<s.next) (by omega),zzb (by omega),zzb h1]
def lO.bl:∀{f n:Int} {L:List il},lO f n L->∀s∈L,s.size=(l_ s).length/\∀p∈s.l,p.length<=1048576
 | f,n,[],_,s,hs=>by cases hs
 | f,n,t::L,h,s,hs=>by
  obtain⟨_,_,h3,h4,_,h6⟩:=h;rcases zz7.1 hs with rfl|hs
  ·exact⟨h3,h4⟩
  exact h6.bl s hs
def Vq(n:Nat):(iT n).length<=1048576:=by rw[DC];omega
def awp:∀(ps:List (Δ)) (k:Nat),(∀p∈ps,p.length<=1048576)->∃j,j<=ps.length/\(∀i,i<=ps.length->((jy (ps.take i)).length<=k↔i<=j))/\nu ((jy ps).take k)=(ps.take j,(jy (ps.take j)).length)
 | [],k,_=>⟨0,zzi _,λi hi=>by simp at hi;subst hi;simp[jy],by
   rw[show (jy []).take k=[] by simp[jy],Gy aFn];rfl⟩
 | p::ps,k,hp=>by
  have A9:=hp p (.head _);by_cases hk:k<(ij p).length
  ·refine⟨0,zz8 _,λi hi=>?_,?_⟩
   ·cases i with
    | zero=>simp[jy]
    | succ i=>
     rw[xxq,sB,zza];constructor<;>intro h<;>omega
   obtain⟨e,he,_⟩:=aFl A9 (k:=k) (by rw[<- oY];exact hk);rw[sB,yy9 (by omega),Gy he];rfl
  obtain⟨j,h1,h2,h5⟩:=awp ps (k-(ij p).length) (λq hq=>hp q (.tail _ hq));refine⟨j+1,by simpa using h1,λi hi=>?_,?_⟩
  ·cases i with
   | zero=>simp[jy]
   | succ i=>
    have:=h2 i (by simpa using hi);rw[xxq,sB,zza];constructor<;>intro h<;>omega
  have e:(jy (p::ps)).take k=ij p++(jy ps).take (k-(ij p).length):=by
   rw[sB,List.take_append,zz2 (by omega)]
  rw[e,I6 (M3 A9),<- oY,wwn,h5,xxq,sB,zza]
def fRo{n:Nat}{l:List (Δ)}(h1:1<=n)(h2:n<=1099511627776)(hl:∀p∈l,p.length<=1048576):mF (jy (iT n::l))=some ((n:Int),l,(jy (iT n::l)).length):=by
 have:=f_l (iT n::l) [] (λp hp=>by rcases zz7.1 hp with rfl|hp;exact Vq n;exact hl p hp) ⟨2,aFn⟩;rw[zzw]at this
 unfold mF;rw[this];simp only[Vr h1 h2,yyf]
def fRm{n:Nat}{l:List (Δ)}(k:Nat)(h1:1<=n)(h2:n<=1099511627776)(hl:∀p∈l,p.length<=1048576):
  (mF ((jy (iT n::l)).take k)=none/\k<(jy [iT n]).length)\/∃j,j<=l.length/\(∀i,i<=l.length->((jy (iT n::l.take i)).length<=k↔i<=j))/\mF ((jy (iT n::l)).take k)=some ((n:Int),l.take j,(jy (iT n::l.take j)).length):=by
 obtain⟨j,h3,h4,h5⟩:=awp (iT n::l) k (λp hp=>by rcases zz7.1 hp with rfl|hp;exact Vq n;exact hl p hp);cases j with
 | zero=>
  left;unfold mF;rw[h5];refine⟨rfl,?_⟩;have:=h4 1 (by simp);rw[xxq,uu1]at this
  omega
 | succ j=>
  right;refine⟨j,by simpa using h3,λi hi=>?_,?_⟩
  ·have:=h4 (i+1) (by simpa using hi);rw[xxq]at this
   omega
  unfold mF;rw[h5,xxq];simp only[Vr h1 h2,yyf]
def eWh{R:List PF}{L0:List il}{f n:Int}{s:il}{last:Bool}{x:PF}(hx:iQ PF.id R f=some x)(hb:x.b=l_ s)(h1:s.file=f)(h2:s.first=n)(h3:s.size=(l_ s).length)(h4:∀p∈s.l,p.length<=1048576)
  (n1:1<=n) (n2:n+s.l.length<=1099511627776) (hl:last=false->s.l≠[]) (h0:L0=[]\/f_ L0+1=n):na L0 R f last=((true,true),L0++[s]):=by
 unfold na;rw[hx];simp only[yyf,xxc,hb];have hr:mF (l_ s)=some (s.first,s.l,(l_ s).length):=by
  have:=fRo (n:=s.first.toNat) (l:=s.l) (by omega) (by omega) h4;unfold l_;rw[this];congr 2;omega
 rw[hr];have hs:(⟨f,s.first,(l_ s).length,s.l⟩:il)=s:=by
  obtain⟨a,b,c,d⟩:=s;simp only at h1 h3;simp[<- h1,<- h3]
 simp only;rw[zzb,hs];rintro (⟨e1,e2⟩|⟨e1,e2⟩|e)
 ·rcases e2 with e2|e2
  ·exact e2 rfl
  exact hl e1 (zzo e2)
 ·rcases h0 with rfl|h0
  ·simp at e1
  omega
 omega
def AU(prev:Option Int)(f:Int):Bool:=match prev with
 | none=>false
 | some g=>decide (f≠g+1)
def D4(R:List PF)(f:Int)(r:Ξ)(prev:Option Int)(L:List il)(wh:Bool):pV R (f::r) prev L wh =
  if (na L R f r.isEmpty).1.2=false then none else if AU prev f=true then none else pV R r (some f) (na L R f r.isEmpty).2 (na L R f r.isEmpty).1.1:=rfl
def LX(R:List PF):∀(r:List il) (f n:Int) (L0:List il) (prev:Option Int) (ids:Ξ) (wh:Bool),lO f n r->(∀s∈r,∃x,iQ PF.id R s.file=some x/\x.b=l_ s)->(L0=[]\/f_ L0+1=n)->(prev=none\/prev=some (f-1))->1<=n->n+(gR r).length<=1099511627776->(ids≠[]->∀s∈r,s.l≠[]) ->
  pV R (r.map il.file++ids) prev L0 wh=pV R ids (if r=[] then prev else some (f+r.length-1)) (L0++r) (if r=[] then wh else true)
 | [],f,n,L0,prev,ids,wh,_,_,_,_,_,_,_=>by simp
 | s::r,f,n,L0,prev,ids,wh,hc,hg,h0,hp,n1,n2,hi=>by
  obtain⟨h1,h2,h3,h4,h5,h6⟩:=hc;obtain⟨x,hx,hb⟩:=hg s (.head _);rw[uD,zza]at n2
  have rP:na L0 R s.file (r.map il.file++ids).isEmpty=((true,true),L0++[s]):=by
   refine eWh hx hb rfl h2 h3 h4 n1 (by omega) (λhl=>?_) h0;by_cases hr:r=[]
   ·subst hr;refine hi (λe=>?_) s (.head _);subst e;simp at hl
   exact h5 hr
  rw[zzn,zzu,D4];simp only[rP];rw[zzb (by simp),zzb ?_]
  ·rw[LX R r (f+1) (n+s.l.length) (L0++[s]) (some s.file) ids true h6 (λt ht=>hg t (.tail _ ht)) (.inr ?_) (.inr (by rw[h1];congr 1;omega)) (by omega) (by omega) (λhd t ht=>hi hd t (.tail _ ht))]
   ·rw[zzb (by simp:¬(s::r=[])),zzb (by simp:¬(s::r=[])),zzk];by_cases hr:r=[]
    ·subst hr;simp[h1]
    rw[zzb hr,zzb hr];congr 2;simp;omega
   unfold f_;rw[yy6];simp only[il.next];omega
  rcases hp with rfl|rfl
  ·simp[AU]
  simp[AU,h1]
def Wv{R:List PF}{f base:Int}(h:uq f R)(h1:base<=f)(h2:f+R.length<=base+4096):kM base R=R.map PF.id:=by
 unfold kM;rw[yy2];intro a ha;obtain⟨x,hx,rfl⟩:=zzy.1 ha;have:=h.mem hx;simp only[zzx];omega
def UR{f n:Int}{L:List il}{R:List PF}(hR:uq f R)(hs:∀s∈L,jF s∈R):∀s∈L,∃x,iQ PF.id R s.file=some x/\x.b=l_ s:=λs h=>⟨jF s,w9 hR.sorted (hs s h),rfl⟩
def Xe(L:List il):(L.map jF).map PF.id=L.map il.file:=by rw[xxs];rfl
def Mp{d:DS}{L:List il}{f n base size:Int}(hc:lO f n L)(hR:d.R=L.map jF)(mT:d.off=false)(b0:0<=base)(b1:base<=12288)(s0:64<=size)(s1:size<=65536)(hf:base<=f)(Ce:f+L.length<=base+4096)
  (n1:1<=n) (n2:n+(gR L).length<=1099511627776):jX d base size=(d,.ok ⟨L,base,size,none⟩):=by
 have sS:=hc.wT;have A2:kM base d.R=L.map il.file:=by
  rw[hR,Wv sS hf (by rw[zzs];exact Ce),Xe]
 have hl:=LX d.R L f n [] none [] true hc (UR (f:=f) (n:=n) (by rw[hR];exact sS) (λs hs=>by rw[hR];exact zzy.2 ⟨s,hs,rfl⟩)) (.inl rfl) (.inl rfl) n1 n2 (λh=>absurd rfl h);rw[zzw]at hl
 unfold jX;rw[zzb (by omega),zzb (by simp[mT]),A2,hl];simp only[pV,zzp];have hb:nC L d (L.map il.file) (if L=[] then true else true)=(d,0):=by
  unfold nC;rcases List.eq_nil_or_concat L with rfl|⟨A,s,rfl⟩
  ·rfl
  simp only[List.concat_eq_append,zzt,zzn,yy4,yy6];rw[zzb (by simp),zzb];have kV:=(hc.bl s (by simp)).1;have:iQ PF.id d.R s.file=some (jF s):=by
   rw[hR];exact w9 (x:=jF s) sS.sorted (by simp)
  unfold lH pU;rw[this,yy6];simp only[jF,kV];omega
 rw[hb];simp
def fFa{d:DS}{A:List il}{l:List (Δ)}{f n base size:Int}{k:Nat}{x:PF}(hc:lO f n A)(hA:∀s∈A,s.l≠[])(hl:∀p∈l,p.length<=1048576)(hR:d.R=A.map jF++[x])(hid:x.id=f+A.length)(Ai:x.safe=x.b.length)
  (hb:x.b=(jy (iT (n+(gR A).length).toNat::l)).take k) (mT:d.off=false) (we:d.arm=0) (b0:0<=base) (b1:base<=12288) (s0:64<=size) (s1:size<=65536) (hf:base<=f) (Ce:f+A.length+1<=base+4096)
  (n1:1<=n) (n2:n+(gR A).length+l.length<=1099511627776) :
  ∃L j d',j<=l.length/\(∀i,i<=l.length->(jy (iT (n+(gR A).length).toNat::l.take i)).length<=k->i<=j)/\(∀i,i<=l.length->k<(jy (iT (n+(gR A).length).toNat::l.take i)).length->j<i\/j=0) /\
   jX d base size=(d',.ok ⟨L,base,size,none⟩)/\lO f n L/\gR L=gR A++l.take j/\d'.R=L.map jF/\d'.off=false/\d'.arm=0/\d'.ops<=d.ops+1/\L.length<=A.length+1/\A.length<=L.length/\(A=[]->j=0->L=[]\/(L.length=1/\(jy [iT (n+(gR A).length).toNat]).length<=k))/\((jy [iT (n+(gR A).length).toNat]).length<=k->L≠[]):=by
 have sS:uq f d.R:=by rw[hR];exact hc.wT.snoc (by simpa using hid)
 have wx:=sS.sorted;have A2:kM base d.R=A.map il.file++[x.id]:=by
  rw[Wv sS hf (by rw[hR];simp;omega),hR,zzt,Xe];rfl
 have rP:=LX d.R A f n [] none [x.id] true hc (UR (f:=f) (n:=n) sS (λs hs=>by rw[hR];exact xx7 _ (zzy.2 ⟨s,hs,rfl⟩))) (.inl rfl) (.inl rfl) n1 (by omega) (λ_=>hA);have DF:iQ PF.id d.R x.id=some x:=by
  have:=wx;rw[hR]at this ⊢;exact Fk this
 have V3:∀b:Bool,AU (if A=[] then (none:Option Int) else some (f+A.length-1)) x.id=false:=by
  intro _;unfold AU;split
  ·rfl
  rename_i g hg;split at hg
  ·cases hg
  cases hg;simp;omega
 have dF6:nM PF.id d.R x.id=A.map jF:=by
  have:=wx;rw[hR]at this ⊢;exact Ud this
 have oA:may d x.id=0:=by
  unfold may;rw[zzb (by simp[mT]),zzb (by omega)]
 have dIt:mu PF.id d.R x.id=true:=by
  have:=wx;rw[hR]at this ⊢;exact F7 this
 have so:d.find x.id=0:=by
  unfold DS.find;rw[zzb (by simp[oA]),zzc dIt]
 have DB:d.eI.off=false:=by simp[DS.eI,we]
 have Vh:d.eI.arm=0:=by simp[DS.eI,we]
 have hh:A≠[]->f_ ([]++A)+1=n+(gR A).length:=λh=>by rw[zzp,hc.head h];omega
 have vq:((n+(gR A).length).toNat:Int)=n+(gR A).length:=by omega
 have hbound:¬(base<0\/12288<base\/size<64\/65536<size):=by omega
 rcases fRm (n:=(n+(gR A).length).toNat) (l:=l) k (by omega) (by omega) hl with ⟨h1,h2⟩|⟨j,h1,h2,h3⟩
 ·have A5:na ([]++A) d.R x.id true=((false,true),A):=by
   unfold na;rw[DF];simp only[yyf,xxc,hb,h1];rfl
  have sr:pV d.R [x.id] (if A=[] then none else some (f+A.length-1)) ([]++A) (if A=[] then true else true)=some (A,false):=by
   rw[D4];simp only[tte,A5];rw[V3 true];rfl
  rw[sr]at rP
  refine⟨A,0,{d.eI with R:=A.map jF},zz8 _,λi hi hk=>?_,λi _ _=>.inr rfl,?_,hc,by simp,rfl,DB,Vh,by simp[DS.eI],by omega,zzi _,λh _=>.inl h,λhk=>?_⟩
  ·rw[sB,zza]at hk
   rw[sB,zza]at h2
   have:(jy []).length=0:=rfl;omega
  ·have KO:nC A d (A.map il.file++[x.id]) false=({d.eI with R:=A.map jF},0):=by
    unfold nC;rw[yy6];simp only[ww7,DS.remove];rw[zzb (by simp[so]),zzb (by simp[DB]),dF6]
   unfold jX;rw[zzb hbound,zzb (by simp[mT]),A2,rP];simp only[KO];rfl
  rw[sB,zza]at hk
  rw[sB,zza]at h2
  have:(jy []).length=0:=rfl;omega
 let s:il:=⟨x.id,n+(gR A).length,(jy (iT (n+(gR A).length).toNat::l.take j)).length,l.take j⟩
 have A5:na ([]++A) d.R x.id true=((true,true),A++[s]):=by
  unfold na;rw[DF];simp only[yyf,xxc,hb,h3];rw[zzb,vq]
  ·rfl
  rintro (⟨e1,e2⟩|⟨e1,e2⟩|e)
  ·cases e1
  ·by_cases Hw:A=[]
   ·subst Hw;simp at e1
   have:=hh Hw;omega
  rw[zzf]at e;omega
 have sr:pV d.R [x.id] (if A=[] then none else some (f+A.length-1)) ([]++A) (if A=[] then true else true)=some (A++[s],true):=by
  rw[D4];simp only[tte,A5];rw[V3 true];rfl
 rw[sr]at rP
 have V_:l_ s=jy (iT (n+(gR A).length).toNat::l.take j):=rfl;have nP:lO f n (A++[s]):=lO.app.2 ⟨hc,λ_=>hA,hid,rfl,rfl,λp hp=>hl p (yyn hp),λh=>absurd rfl h,trivial⟩;have kV:pU (A++[s])=(l_ s).length:=by unfold pU;rw[yy6];rfl
 have Cj:(l_ s).length<=k:=by
  have:=(h2 j h1).2 (zzi _);rw[V_];exact this
 have vu:(jy (iT (n+(gR A).length).toNat::l)).take (l_ s).length=l_ s:=by
  have:jy (iT (n+(gR A).length).toNat::l)=l_ s++jy (l.drop j):=by
   rw[V_,sB,sB,zzk,<- fRp,yyl]
  rw[this,wwo]
 have hlen:(l_ s).length<=(jy (iT (n+(gR A).length).toNat::l)).length:=by
  rw[<- vu,zzf];omega
 have oC:(l_ s).length<=x.b.length:=by rw[hb,zzf];omega
 have Wo:x.b.take (l_ s).length=l_ s:=by rw[hb,ttj,xxn Cj,vu]
 have VK:lH d.R x.id=x.b.length:=by unfold lH;rw[DF]
 have FU:∃d',nC (A++[s]) d (A.map il.file++[x.id]) true=(d',0)/\d'.R=(A++[s]).map jF/\d'.off=false/\d'.arm=0/\d'.ops<=d.ops+1:=by
  unfold nC;rw[yy6];simp only[VK,kV];rw[zzb (by simp)];by_cases iw:((l_ s).length:Int)<x.b.length
  ·rw[zzc iw];unfold DS.cut;rw[zzb (by simp[so]),zzb (by rw[VK];omega),zzb (by simp[DB])];refine⟨_,rfl,?_,DB,Vh,by simp[DS.eI]⟩;show oJ d.R x.id (ni (((l_ s).length:Nat):Int).toNat)=_;rw[hR,M5 (by rw[<- hR];exact wx),zzv,zzt];congr 1;simp only[ni,Wo,Ai,zzn,yy4,jF];rw[Nat.min_eq_right oC]
  rw[zzb iw];refine⟨d,rfl,?_,mT,we,by omega⟩;rw[hR,zzt];congr 1;have:x.b=l_ s:=by rw[<- Wo,zz2 (by omega)]
  obtain⟨xi,xs,xb⟩:=x;simp only at this Ai;simp only[zzn,yy4,jF];rw[Ai,this]
 obtain⟨d',KO,r1,r2,r3,r4⟩:=FU;refine⟨A++[s],j,d',h1,λi hi hk=>(h2 i hi).1 hk,λi hi hk=>.inl ?_,?_,nP,by rw[BW];simp[gR,s],r1,r2,r3,r4,by simp,by simp,λh _=>.inr ⟨by simp[h],?_⟩,λ_=>by simp⟩
 ·rcases xxv j i with h|h
  ·exact h
  have:=(h2 i hi).2 h;omega
 ·unfold jX;rw[zzb hbound,zzb (by simp[mT]),A2,rP];simp only[KO];rfl
 have:=(h2 0 (zz8 _)).2 (zz8 _)
 rwa [uu1]at this
def lO.wA:∀{f n:Int} {L:List il},lO f n L->L.length<=(gR L).length+1
 | f,n,[],_=>by simp
 | f,n,[s],_=>by simp
 | f,n,s::t::L,h=>by
  obtain⟨_,_,_,_,h5,h6⟩:=h;have:=h6.wA;have h0:s.l.length≠0:=λe=>h5 (by simp) (zzo e);rw[uD,zza,zzj];omega
structure lI(g:ib)(d:DS)(f n:Int)(es:List (Δ)):Prop where
 chain:lO f n g.bF
 lG:gR g.bF=es
 files:d.R=g.bF.map jF
 nil:g.bF=[]->f=g.base/\n=1
 base:g.base<=f
 b0:0<=g.base
 b1:g.base<=12288
 s0:64<=g.size
 s1:g.size<=65536
 n1:1<=n
 fi:f+es.length+2<=g.base+4096
 off:d.off=false
 iC:g.iC=none
def lI.head{g:ib}{d:DS}{f n:Int}{es:List (Δ)}(h:lI g d f n es):f_ g.bF=n+es.length-1:=by
 by_cases hL:g.bF=[]
 ·have:=h.nil hL;have e:=h.lG;rw[hL]at e ⊢
  rw[<- e,this.2];rfl
 rw[h.chain.head hL,h.lG]
structure Bw(g:ib)(f n:Int)(es:List (Δ))(p:Δ)(x:mc)(A:List il)(l0:List (Δ))(pre:Δ):Prop where
 chain:lO f n A
 full:∀s∈A,s.l≠[]
 file:x.file=f+A.length
 lG:gR A++l0=es
 bl:∀q∈l0,q.length<=1048576
 all:pre++x.b=jy (iT (n+(gR A).length).toNat::(l0++[p]))
 fFz:l0=[]\/pre=jy (iT (n+(gR A).length).toNat::l0)
 app:∀t,o_ (g.bF.map jF) x.file t=A.map jF++[⟨x.file,pre.length,pre++t⟩]
 put:lO f n (nQ g.bF x p)
 aic:gR (nQ g.bF x p)=es++[p]
 fF6:(nQ g.bF x p).map jF=A.map jF++[⟨x.file,(pre++x.b).length,pre++x.b⟩]
 jT:nQ g.bF x p≠[]
 fF2:∀s∈nQ g.bF x p,s.l≠[]
 pos:0<x.b.length
 len:x.b.length<=27+p.length
 fresh:x.fresh=true->g.bF=A/\pre=[]
 s3:x.fresh=false->g.bF.map jF=A.map jF++[⟨x.file,pre.length,pre⟩]/\pU g.bF=pre.length
def IN{g:ib}{d:DS}{f n:Int}{es:List (Δ)}(h:lI g d f n es){p:Δ}(hp:p.length<=1048576)(hn:n+es.length<=100000):∃x A l0 pre,jQ g false p= .ok x/\Bw g f n es p x A l0 pre:=by
 have hh:=h.head;have hc:=h.chain;have hle:=hc.wA;rw[h.lG]at hle
 have xh:=h.fi;have su:=h.n1;have wx:=hc.wT.sorted;have VA:∀F:Int,F=f+g.bF.length->(∀s∈g.bF,s.l≠[])->∃x A l0 pre,rM g F p= .ok x/\Bw g f n es p x A l0 pre:=by
  intro F hF DE;have e1:(f_ g.bF+1).toNat=(n+(gR g.bF).length).toNat:=by rw[hh,h.lG];congr 1;omega
  have oU:nQ g.bF ⟨F,true,ij (iT (f_ g.bF+1).toNat)++ij p⟩ p=g.bF++[⟨F,f_ g.bF+1,(ij (iT (f_ g.bF+1).toNat)++ij p).length,[p]⟩]:=by
   unfold nQ;simp
  have jJ:ij (iT (f_ g.bF+1).toNat)++ij p=jy (iT (n+(gR g.bF).length).toNat::[p]):=by rw[e1,sB,sB];simp[jy]
  refine⟨⟨F,true,ij (iT (f_ g.bF+1).toNat)++ij p⟩,g.bF,[],[],?_,hc,DE,hF,by rw[zzw];exact h.lG,by simp,?_,.inl rfl,λt=>?_,?_,?_,?_,?_,?_,?_,?_,λ_=>⟨rfl,rfl⟩,λe=>by cases e⟩
  ·unfold rM;rw[zzb (by omega)]
  ·exact jJ
  ·refine a_1 wx (λy hy=>?_) t;have:=hc.wT.mem hy;rw[zzs]at this
   show y.id<F;omega
  ·rw[oU];refine lO.app.2 ⟨hc,λ_=>DE,hF,?_,?_,by simpa using hp,λh=>absurd rfl h,trivial⟩
   ·show f_ g.bF+1=_;rw[hh,h.lG];omega
   show (ij (iT (f_ g.bF+1).toNat)++ij p).length=(l_ _).length;unfold l_;rw[jJ,e1]
  ·rw[oU,BW,h.lG];simp[gR]
  ·rw[oU,zzt,zzp];congr 1;simp only[zzn,yy4,jF,l_];rw[jJ,e1]
  ·rw[oU];simp
  ·rw[oU];intro s hs;rcases zz0.1 hs with hs|hs
   ·exact DE s hs
   rw[zz3.1 hs];simp
  ·show 0<(ij (iT (f_ g.bF+1).toNat)++ij p).length;rw[zza,oY];omega
  show (ij (iT (f_ g.bF+1).toNat)++ij p).length<=_;rw[zza,oY,oY,DC];omega
 unfold jQ;rw[zzb (by omega),zzb (by simp),zzb (by omega)];rcases List.eq_nil_or_concat g.bF with hL|⟨A,s,hL⟩
 ·have Lh:=h.nil hL;rw[hL];simp only[List.getLast?_nil];exact VA g.base (by rw[hL];simp;omega) (by rw[hL];simp)
 rw[List.concat_eq_append]at hL
 have hLg:g.bF.getLast?=some s:=by rw[hL,yy6]
 rw[hLg];simp only;rw[hL]at hc
 obtain⟨h1,h2,c1,c2,c3,c4,c5,c6⟩:=lO.app.1 hc;have HQ:=h2 (by simp);by_cases KS:s.l.length=0\/(s.size:Int)+(ij p).length<=g.size
 ·rw[zzc KS];have oU:nQ g.bF ⟨s.file,false,ij p⟩ p=A++[{s with size:=s.size+(ij p).length,l:=s.l++[p]}]:=by
   unfold nQ;rw[zzb (by simp)];simp only[hL,List.dropLast_concat,yy6];rfl
  have jJ:l_ s++ij p=jy (iT (n+(gR A).length).toNat::(s.l++[p])):=by
   unfold l_;rw[c2,<- zzu,aiz]
  have U1:l_ {s with size:=s.size+(ij p).length,l:=s.l++[p]}=l_ s++ij p:=by
   unfold l_;rw[<- zzu,aiz]
  refine⟨⟨s.file,false,ij p⟩,A,s.l,l_ s,rfl,h1,HQ,c1,?_,c4,jJ,.inr (by unfold l_;rw[c2]),λt=>?_,?_,?_,?_,?_,?_,?_,?_,λe=>(by cases e),λ_=>⟨?_,?_⟩⟩
  ·rw[<- h.lG,hL,BW];simp[gR]
  ·rw[hL,zzt]at wx ⊢
   exact a_0 (x:=jF s) wx t
  ·rw[oU];refine lO.app.2 ⟨h1,λ_=>HQ,c1,c2,?_,λq hq=>?_,λh=>absurd rfl h,trivial⟩
   ·rw[U1,zza,<- c3]
   rcases zz0.1 hq with hq|hq
   ·exact c4 q hq
   rw[zz3.1 hq];exact hp
  ·rw[oU,BW,<- h.lG,hL,BW];simp[gR]
  ·rw[oU,zzt];simp only[zzn,yy4,jF,U1]
  ·rw[oU];simp
  ·rw[oU];intro t ht;rcases zz0.1 ht with ht|ht
   ·exact HQ t ht
   rw[zz3.1 ht];simp
  ·show 0<(ij p).length;rw[oY];omega
  ·show (ij p).length<=_;rw[oY];omega
  ·rw[hL,zzt];rfl
  unfold pU;rw[hL,yy6];show ((s.size:Nat):Int)=_;rw[c3]
 rw[zzb KS];refine VA (s.file+1) (by rw[hL,c1];simp;omega) (by
  intro t ht;rw[hL]at ht
  rcases zz0.1 ht with ht|ht
  ·exact HQ t ht
  rw[zz3.1 ht];intro e;exact KS (.inl (by rw[e];rfl)))
def tK(d:DS)(f n:Int)(es:List (Δ))(p:Δ)(whole:Bool):Prop:=∃A l0 pre k,
 lO f n A/\(∀s∈A,s.l≠[])/\gR A++l0=es/\(∀q∈l0++[p],q.length<=1048576)/\(l0=[]\/pre=(jy (iT (n+(gR A).length).toNat::l0)).length)/\pre<=k/\k<=(jy (iT (n+(gR A).length).toNat::(l0++[p]))).length /\
 (whole=false->k<(jy (iT (n+(gR A).length).toNat::(l0++[p]))).length)/\d.R=A.map jF++[⟨f+A.length,pre,(jy (iT (n+(gR A).length).toNat::(l0++[p]))).take k⟩]
def Bw.iC{g:ib}{f n:Int}{es:List (Δ)}{p:Δ}{x:mc}{A:List il}{l0:List (Δ)}{pre:Δ}(h:Bw g f n es p x A l0 pre)(hp:p.length<=1048576){d:DS}{m:Nat}{whole:Bool}(hm:m<=x.b.length)(hw:whole=false->m<x.b.length)
  (hR:d.R=o_ (g.bF.map jF) x.file (x.b.take m)):tK d f n es p whole:=by
 have jJ:=h.all;have hl:(jy (iT (n+(gR A).length).toNat::(l0++[p]))).length=pre.length+x.b.length:=by rw[<- jJ,zza]
 refine⟨A,l0,pre.length,pre.length+m,h.chain,h.full,h.lG,λq hq=>?_,?_,by omega,by omega,λe=>by have:=hw e;omega,?_⟩
 ·rcases zz0.1 hq with hq|hq
  ·exact h.bl q hq
  rw[zz3.1 hq];exact hp
 ·rcases h.fFz with h1|h1
  ·exact .inl h1
  exact .inr (by rw[h1])
 rw[hR,h.app,<- jJ,wwa,h.file]
def J7(A B:List PF)(keep:Ξ):∀hA:(∀x∈A,x.safe=x.b.length),jV (A++B) keep=A++B.mapIdx λi=>mY keep (A.length+i):=by
 intro hA;unfold jV;rw[uu2];congr 1
 ·refine xxp (by simp) λi h1 h2=>?_;rw[vv3];have hx:=hA A[i] (zzg h2);have hm:n_ keep i A[i]=0:=by
   have:=CP (keep:=keep) (i:=i) (x:=A[i]) (by omega);omega
  unfold mY;rw[hm,hx,xxg,Nat.min_self,zz1,<- hx]
 congr 1
 funext i
 rw[uu0]
def awt(A:List il):∀x∈A.map jF,x.safe=x.b.length:=λx hx=>by
 obtain⟨s,_,rfl⟩:=zzy.1 hx;rfl
def TV{L:List il}(keep:Ξ):jV (L.map jF) keep=L.map jF:=by
 have:=J7 (L.map jF) [] keep (awt L);simpa using this
def aFp{d:DS}{f n:Int}{es:List (Δ)}{p:Δ}{whole:Bool}(h:tK d f n es p whole)(keep:Ξ){base size:Int}(b0:0<=base)(b1:base<=12288)(s0:64<=size)(s1:size<=65536)(hf:base<=f)(Ce:f+es.length+4<=base+4096)
  (n1:1<=n) (n2:n+es.length+1<=100000) (hn:es=[]->(f=base/\n=1)\/∀y∈d.R,(jy [iT n.toNat]).length<=y.safe) :
  ∃g d' mM,jX (d.jO keep) base size=(d',.ok g)/\lI g d' f n mM/\d'.arm=0/\d'.ops<=d.ops+1/\g.base=base/\g.size=size/\(mM=es\/(whole=true/\mM=es++[p])):=by
 obtain⟨A,l0,pre,k,hA,DE,KZ,uN,uT,ub,kU,hw,hR⟩:=h;have wa:=hA.wA;have hl:(gR A).length+l0.length=es.length:=by rw[<- KZ,zza]
 let T:=jy (iT (n+(gR A).length).toNat::(l0++[p]))
 have U_:(T.take k).length=k:=by rw[zzf];exact xxn kU
 let y:=mY keep (A.map jF).length ⟨f+A.length,pre,T.take k⟩
 have rN:(d.jO keep).R=A.map jF++[y]:=by
  show jV d.R keep=_;rw[hR,J7 _ _ _ (awt A)];rfl
 have Ai:pre<=(T.take k).length:=by rw[U_];exact ub
 have Al:y.b.length=pre+n_ keep (A.map jF).length ⟨f+A.length,pre,T.take k⟩:=E5 (x:=⟨f+A.length,pre,T.take k⟩) Ai;have hy2:y.safe=pre+n_ keep (A.map jF).length ⟨f+A.length,pre,T.take k⟩:=Hb (x:=⟨f+A.length,pre,T.take k⟩) Ai;have rQ:pre+n_ keep (A.map jF).length ⟨f+A.length,pre,T.take k⟩<=k:=by
  have:=CP (keep:=keep) (i:=(A.map jF).length) (x:=⟨f+A.length,pre,T.take k⟩) Ai;simpa [U_] using this
 have hyb:y.b=T.take (pre+n_ keep (A.map jF).length ⟨f+A.length,pre,T.take k⟩):=by
  show (T.take k).take _=_;rw[ttj,xxn rQ]
 generalize hm:pre+n_ keep (A.map jF).length ⟨f+A.length,pre,T.take k⟩=m at *
 obtain⟨L,j,d',j1,j2,j3,ho,hc,he,hR',Li,x',iY,_,_,_,dFl⟩:=fFa (d:=d.jO keep) (A:=A) (l:=l0++[p]) (f:=f) (n:=n) (base:=base) (size:=size) (k:=m) (x:=y) hA DE uN rN rfl (by rw[Al,hy2]) hyb rfl rfl b0 b1 s0 s1 hf (by omega) n1 (by simp;omega);have xk:l0.length<=j:=by
  rcases uT with rfl|uT
  ·simp
  refine j2 l0.length (by simp) ?_;rw[wwo,<- uT];omega
 have FD:j<=l0.length+1:=by simpa using j1
 refine⟨⟨L,base,size,none⟩,d',gR L,ho,⟨hc,rfl,hR',λhL=>?_,hf,b0,b1,s0,s1,n1,?_,Li,rfl⟩,x',iY,rfl,rfl,?_⟩
 ·have hL:L=[]:=hL;have h0:(gR L).length=0:=by rw[hL];rfl
  rw[he,zza,zzf,zza]at h0
  simp only[zzj,yyo]at h0;rcases hn (zzo (by omega)) with hn|hn
  ·exact hn
  have Hw:A=[]:=by
   cases A with
   | nil=>rfl
   | cons s r=>
    have h1:=DE s (.head _);have h2:0<s.l.length:=xx0.2 h1;rw[uD,zza]at h0
    omega
  have hs:=hn ⟨f+A.length,pre,(jy (iT (n+(gR A).length).toNat::(l0++[p]))).take k⟩ (by rw[hR];simp);refine absurd hL (dFl ?_);have hs:(jy [iT n.toNat]).length<=pre:=hs;subst Hw;show (jy [iT (n+((gR []).length:Nat)).toNat]).length<=m;rw[show n+((gR ([]:List il)).length:Int)=n by show n+((0:Nat):Int)=n;omega];omega
 ·show f+((gR L).length:Int)+2<=base+4096;rw[he,zza,zzf];simp;omega
 rw[he];rcases xxv l0.length j with hj|hj
 ·right;have:j=l0.length+1:=by omega
  subst this;refine⟨?_,by rw[zz2 (by simp),<- zzk,KZ]⟩;cases whole with
  | true=>rfl
  | false=>
   have h1:=hw rfl;rcases j3 (l0.length+1) (by simp) (by rw[zz2 (by simp)];exact Nat.lt_of_le_of_lt rQ h1) with h2|h2<;>omega
 left;have:j=l0.length:=by omega
 subst this;rw[wwo,KZ]
def gwu{d:DS}{f n:Int}{es:List (Δ)}{p:Δ}{whole:Bool}(h:tK d f n es p whole)(keep:Ξ){base size:Int}(b0:0<=base)(b1:base<=12288)(s0:64<=size)(s1:size<=65536)(hf:base<=f)(Ce:f+es.length+4<=base+4096)
  (n1:1<=n) (n2:n+es.length+1<=100000) (hn:f=base/\n=1) :
  ∃g d' mM,jX (d.jO keep) base size=(d',.ok g)/\lI g d' f n mM/\d'.arm=0/\d'.ops<=d.ops+1/\g.base=base/\g.size=size/\(mM=es\/(whole=true/\mM=es++[p])):=
 aFp h keep b0 b1 s0 s1 hf Ce n1 n2 λ_=>.inl hn
def Bw.may{g:ib}{d:DS}{f n:Int}{es:List (Δ)}{p:Δ}{x:mc}{A:List il}{l0:List (Δ)}{pre:Δ}(h:Bw g f n es p x A l0 pre)(hi:lI g d f n es){d':DS}(ho:d'.off=false):may d' x.file=0/\0<=x.file/\x.file<16384:=by
 have h1:=h.chain.wA;have h2:(gR A).length+l0.length=es.length:=by rw[<- h.lG,zza]
 have:=hi.fi;have:=hi.base;have:=hi.b0;have:=hi.b1;have h3:=h.file;refine⟨?_,by omega,by omega⟩;unfold Go.Proofs.YtmkllimamejcgaaGreat.may;rw[zzb (by simp[ho]),zzb (by omega)]
def JR{g:ib}{d a s:DS}{p:Δ}{x:mc}{e1 e2:Int}(hp:jQ g d.off p= .ok x)(hm:iq g d=((g,d),0))(ha:d.append x.file x.b=(a,e1))(hs:a.sync x.file=(s,e2)):
  ki g d p=if e1≠0 then ((g,a),(0,e1)) else if e2≠0 then ((g,s),(0,e2)) else (({g with bF:=nQ g.bF x p},s),(f_ (nQ g.bF x p),0)):=by
 unfold ki;rw[hp];simp only[hm];rw[zzb (by decide),ha];simp only[hs]
def gwh{g:ib}{d a:DS}{p:Δ}{k:Int}{x:mc}(hk:0<=k)(hp:jQ g d.off p= .ok x)(hm:iq g d=((g,d),0))(ha:d.append x.file (x.b.take (k.toNat % x.b.length))=(a,0)):
  lz g d p k=(({g with iC:=some ⟨x.file,if x.fresh=true then 0 else pU g.bF,x.fresh⟩},a),0):=by
 unfold lz;rw[zzb (by omega),hp];simp only[hm];rw[zzb (by decide),ha];simp only;rw[zzb (by decide)]
def append_eq{d:DS}{f:Int}{b:Δ}(hm:may d f=0):d.append f b=({d.eI with R:=o_ d.R f b},d.eI.err):=by
 unfold DS.append;rw[zzb (by simp[hm])]
def a_8{g:ib}{d:DS}{f n:Int}{es:List (Δ)}(h:lI g d f n es){p:Δ}{x:mc}{A:List il}{l0:List (Δ)}{pre:Δ}(hx:jQ g false p= .ok x)(hr:Bw g f n es p x A l0 pre)(he:es=[])(hs:g.bF≠[]):(jy [iT n.toNat]).length<=pre.length:=by
 have h1:=hr.lG;rw[he]at h1
 obtain⟨B6,vo⟩:=vvj.1 h1;have hA:A=[]:=by
  cases A with
  | nil=>rfl
  | cons s r=>rw[uD]at B6;exact absurd (vvj.1 B6).1 (hr.full s (.head _))
 subst hA vo;have jJ:=hr.all;have hb:x.b=ij p:=by
  unfold jQ at hx;split at hx
  ·cases hx
  rw[zzb (by decide)]at hx
  split at hx
  ·cases hx
  cases hg:g.bF.getLast? with
  | none=>exact absurd (List.getLast?_eq_none_iff.1 hg) hs
  | some s=>
   rw[hg]at hx
   simp only at hx;have Lv:s.l=[]:=by
    have h2:=h.lG;rw[he]at h2
    have hm:=xxu hg;unfold gR at h2;exact List.flatten_eq_nil_iff.1 h2 _ (vv4 hm)
   rw[zzc (.inl (by rw[Lv];rfl))]at hx
   cases hx;rfl
 rw[hb,zzp,sB,show jy [p]=ij p by simp[jy]]at jJ
 have:=yyu List.length jJ;rw[zza,zza]at this
 rw[show n+((gR ([]:List il)).length:Int)=n by show n+((0:Nat):Int)=n;omega]at this
 rw[sB,zza,show jy []=[] from rfl,yyo];omega
def Tn{g:ib}{d:DS}{f n:Int}{es:List (Δ)}(h:lI g d f n es){p:Δ}(hp:p.length<=1048576)(hn:n+es.length<=100000)(xh:f+es.length+3<=g.base+4096)(ha:0<=d.arm):
  (∃g' d',ki g d p=((g',d'),(n+es.length,0))/\lI g' d' f n (es++[p])/\d'.ops=d.ops+2/\0<=d'.arm/\(d.arm=0->d'.arm=0)/\g'.base=g.base/\g'.size=g.size/\(∀s∈g'.bF,s.l≠[])/\d.arm≠1/\d.arm≠2) \/
  (∃d',ki g d p=((g,d'),(0,8))/\tK d' f n es p true/\d'.off=true/\d'.ops<=d.ops+2/\d.arm≠0/\(es=[]->g.bF≠[]->∀y∈d'.R,(jy [iT n.toNat]).length<=y.safe)):=by
 obtain⟨x,A,l0,pre,jz,hr⟩:=IN h hp hn;have Ab:∀R:List PF,R=o_ d.R x.file x.b->es=[]->g.bF≠[]->∀y∈R,(jy [iT n.toNat]).length<=y.safe:=λR hR he hs y hy=>by
  have h1:=a_8 h jz hr he hs;have h2:=hr.lG;rw[he]at h2
  have hA:A=[]:=by
   cases A with
   | nil=>rfl
   | cons s r=>rw[uD,zzk]at h2;exact absurd (vvj.1 h2).1 (hr.full s (.head _))
  have xe:=hr.app x.b;rw[<- h.files,hA]at xe
  rw[hR,xe]at hy
  have:y=⟨x.file,pre.length,pre++x.b⟩:=by simpa using hy
  rw[this];exact h1
 have mT:=h.off;have hm:iq g d=((g,d),0):=by unfold iq;rw[h.iC]
 obtain⟨oA,f0,f1⟩:=hr.may h mT;have xf:=append_eq (b:=x.b) oA;by_cases h1:d.arm=1
 ·right;have e:d.eI.off=true:=by simp[DS.eI,h1]
  refine⟨{d.eI with R:=o_ d.R x.file x.b},?_,hr.iC hp (m:=x.b.length) (zzi _) (λe=>by cases e) (by rw[zz1,h.files]),e,by simp[DS.eI],by omega,Ab _ rfl⟩;have e2:d.eI.err=8:=by unfold DS.err;rw[e];rfl
  rw[JR (by rw[mT];exact jz) hm xf rfl,e2];rfl
 have e:d.eI.off=false:=by simp[DS.eI,h1]
 have e2:d.eI.err=0:=by unfold DS.err;rw[e];rfl
 have xe:=hr.app x.b;rw[<- h.files]at xe
 let d1:DS:={d.eI with R:=o_ d.R x.file x.b}
 have sS:uq f (A.map jF++[⟨x.file,pre.length,pre++x.b⟩]):=hr.chain.wT.snoc (by rw[zzs];exact hr.file);have nO:d1.R=A.map jF++[⟨x.file,pre.length,pre++x.b⟩]:=xe;have so:d1.find x.file=0:=by
  unfold DS.find;rw[zzb (by rw[(hr.may h (d':=d1) e).1];simp)];have hs:=sS.sorted;rw[nO,zzc (F7 (x:=⟨x.file,pre.length,pre++x.b⟩) hs)]
 rw[e2]at xf
 by_cases h2:d.arm=2
 ·right;have e3:d1.eI.off=true:=by simp[DS.eI,d1,h2]
  have Lw:d1.sync x.file=(d1.eI,8):=by
   unfold DS.sync;rw[zzb (by simp[so]),zzc e3]
  rw[JR (by rw[mT];exact jz) hm xf Lw];refine⟨d1.eI,rfl,hr.iC hp (m:=x.b.length) (zzi _) (λe=>by cases e) (by rw[zz1,<- h.files];rfl),e3,by simp[DS.eI,d1],by omega,Ab _ rfl⟩
 left;have Vd:d1.arm=if 0<d.arm then d.arm-1 else d.arm:=rfl
 have e3:d1.eI.off=false:=zzz (by rw[Vd];split<;>omega);have Fs:0<=d1.arm:=by rw[Vd];split<;>omega
 have Lw:d1.sync x.file=({d1.eI with R:=oJ d1.R x.file λy=>{y with safe:=y.b.length}},0):=by
  unfold DS.sync;rw[zzb (by simp[so]),zzb (by simp[e3])]
 rw[JR (by rw[mT];exact jz) hm xf Lw];have oz:=hr.put;have hup:oJ d1.R x.file (λy=>{y with safe:=y.b.length})=(nQ g.bF x p).map jF:=by
  rw[nO,M5 (x:=⟨x.file,pre.length,pre++x.b⟩) sS.sorted,hr.fF6]
 refine⟨{g with bF:=nQ g.bF x p},{d1.eI with R:=oJ d1.R x.file λy=>{y with safe:=y.b.length}},?_,⟨oz,hr.aic,hup,λe=>absurd e hr.jT,h.base,h.b0,h.b1,h.s0,h.s1,h.n1,?_,e3,h.iC⟩,by simp[DS.eI,d1],?_,λh0=>by simp[DS.eI,d1,h0],rfl,rfl,hr.fF2,h1,h2⟩
 ·have:f_ (nQ g.bF x p)=n+es.length:=by
   rw[oz.head hr.jT,hr.aic,zza];simp;omega
  rw[zzb (by decide),zzb (by decide),this]
 ·show f+((es++[p]).length:Int)+2<=g.base+4096;rw[zza];simp;omega
 show 0<=if 0<d1.arm then d1.arm-1 else d1.arm
 split<;>omega
def a_9{g:ib}{d:DS}{f n:Int}{es:List (Δ)}(h:lI g d f n es){p:Δ}(hp:p.length<=1048576)(hn:n+es.length<=100000)(xh:f+es.length+3<=g.base+4096)(ha:0<=d.arm):
  (∃g' d',ki g d p=((g',d'),(n+es.length,0))/\lI g' d' f n (es++[p])/\d'.ops=d.ops+2/\0<=d'.arm/\(d.arm=0->d'.arm=0)/\g'.base=g.base/\g'.size=g.size/\(∀s∈g'.bF,s.l≠[])/\d.arm≠1/\d.arm≠2) \/
  (∃d',ki g d p=((g,d'),(0,8))/\tK d' f n es p true/\d'.off=true/\d'.ops<=d.ops+2/\d.arm≠0):=by
 rcases Tn h hp hn xh ha with h1|⟨d',a,b,c,e,k,_⟩
 ·exact .inl h1
 exact .inr ⟨d',a,b,c,e,k⟩
def tK.wK{d d':DS}{f n:Int}{es:List (Δ)}{p:Δ}{whole:Bool}(h:tK d f n es p whole)(hR:d'.R=d.R):tK d' f n es p whole:=by
 obtain⟨A,l0,pre,k,h⟩:=h;exact⟨A,l0,pre,k,by rw[hR];exact h⟩
def bwb{g g1:ib}{d d1:DS}{p:Δ}(hm:iq g d=((g1,d1),0))(hs:g1.bF=g.bF)(hb:g1.base=g.base)(hz:g1.size=g.size)(ho:d.off=false)(A7:d1.off=false)(ht:g1.iC=none){x:mc}(hx:jQ g1 false p= .ok x):ki g d p=ki g1 d1 p:=by
 have hp:jQ g false p=jQ g1 false p:=by
  unfold jQ rM;rw[hs,hb,hz]
 have FG:iq g1 d1=((g1,d1),0):=by unfold iq;rw[ht]
 unfold ki;rw[ho,A7,hp,hx];simp only[hm,FG]
def My{g:ib}{off:Bool}{p:Δ}{x:mc}(h:jQ g off p= .ok x):x.b.length<=27+p.length:=by
 have hf:∀F,rM g F p= .ok x->x.b.length<=27+p.length:=λF h=>by
  unfold rM at h;split at h
  ·cases h
  cases h;simp only[zza,oY,DC];omega
 unfold jQ at h;split at h
 ·cases h
 split at h
 ·cases h
 split at h
 ·cases h
 split at h
 ·exact hf _ h
 split at h
 ·cases h;simp only[oY];omega
 exact hf _ h
def IF{g:ib}{d:DS}{N:Nat}(h:d.Ok N):(iq g d).1.2.Ok N:=by
 unfold iq;split
 ·exact h
 simp only;split
 ·exact h.remove _
 exact h.cut _ _
def Tl{g:ib}{d:DS}{N:Nat}(h:d.Ok N)(p:Δ):(ki g d p).1.2.Ok (N+(27+p.length)):=by
 unfold ki;split
 ·exact h.mono (by omega)
 rename_i x hx;have hl:=My hx;have hm:=IF (g:=g) h;simp only;split
 ·exact hm.mono (by omega)
 have ha:=(hm.append x.file x.b).mono (M:=N+(27+p.length)) (by omega);split
 ·exact ha
 have hs:=ha.sync x.file;split
 ·exact hs
 exact hs
def gwl{g:ib}{d:DS}{N:Nat}(h:d.Ok N)(p:Δ)(k:Int):(lz g d p k).1.2.Ok (N+(27+p.length)):=by
 unfold lz;split
 ·exact h.mono (by omega)
 split
 ·exact h.mono (by omega)
 rename_i x hx;have hl:=My hx;have hm:=IF (g:=g) h;simp only;split
 ·exact hm.mono (by omega)
 have ha:=(hm.append x.file (x.b.take (k.toNat % x.b.length))).mono (M:=N+(27+p.length)) (by rw[zzf];omega);split
 ·exact ha
 exact ha
def aFs{N:Nat}(k:Int):∀(L:List il) (d:DS),d.Ok N->(mw L d k).1.2.Ok N
 | [],d,h=>h
 | [s],d,h=>h
 | s::t::L,d,h=>by
  rw[mw];split
  ·split
   ·exact h.remove _
   exact aFs k (t::L) _ (h.remove _)
  exact h
def gwy{g:ib}{d:DS}{N:Nat}(h:d.Ok N)(k:Int):(mv g d k).1.2.Ok N:=by
 unfold mv;split
 ·exact h
 exact aFs k g.bF d h
def JX{L:List il}{d:DS}{ids:Ξ}{wh:Bool}{N:Nat}(h:d.Ok N):(nC L d ids wh).1.Ok N:=by
 unfold nC;split
 ·exact h
 split
 ·exact h.remove _
 split
 ·exact h.cut _ _
 exact h
def IH{d:DS}{base size:Int}{N:Nat}(h:d.Ok N):(jX d base size).1.Ok N:=by
 unfold jX;split
 ·exact h
 split
 ·exact h
 split
 ·exact h
 split
 ·exact JX h
 exact JX h
def po.mono{s:il}{N M:Nat}(h:po s N)(hm:N<=M):po s M:=⟨h.f0,h.f1,h.n0,h.n1,yyw h.sz hm,yyw h.ln hm,h.bl⟩
def ib.Ok.mono{g:ib}{N M:Nat}(h:g.Ok N)(hm:N<=M):g.Ok M:=⟨λs hs=>(h.bF s hs).mono hm,h.b0,h.b1,h.s0,h.s1,yyw h.ln hm⟩
def ib.Ok.congr{g g':ib}{N:Nat}(h:g.Ok N)(h1:g'.bF=g.bF)(h2:g'.base=g.base)(h3:g'.size=g.size):g'.Ok N:=
 ⟨by rw[h1];exact h.bF,by rw[h2];exact h.b0,by rw[h2];exact h.b1,by rw[h3];exact h.s0,by rw[h3];exact h.s1,by rw[h1];exact h.ln⟩
def xz(g:ib)(d:DS):(iq g d).1.1.bF=g.bF/\(iq g d).1.1.base=g.base/\(iq g d).1.1.size=g.size:=by
 unfold iq;split<;>exact⟨rfl,rfl,rfl⟩
def L_{g:ib}{d:DS}{N:Nat}(h:g.Ok N):(iq g d).1.1.Ok N:=let ⟨a,b,c⟩:=xz g d;h.congr a b c
structure C_(g:ib)(p:Δ)(x:mc):Prop where
 pl:p.length<=1048576
 hd:f_ g.bF<1099511627776
 s3:x.fresh=false->∃s,g.bF.getLast?=some s/\x.file=s.file
 f0:x.fresh=true->0<=x.file/\x.file<=100000
 bl:x.b.length<=27+p.length
 pos:8<=x.b.length
def IL{g:ib}{N:Nat}(h:g.Ok N){off:Bool}{p:Δ}{x:mc}(hx:jQ g off p= .ok x):C_ g p x:=by
 have hb:=My hx;have h0:=h.b0;have h1:=h.b1;have hp:p.length<=1048576:=by
  unfold jQ at hx;split at hx
  ·cases hx
  omega
 have z_:∀F,0<=F->f_ g.bF<1099511627776->rM g F p= .ok x->C_ g p x:=λF hF hd hx=>by
  unfold rM at hx;split at hx
  ·cases hx
  cases hx;exact⟨hp,hd,λe=>(by cases e),λ_=>⟨hF,by show F<=100000;omega⟩,hb,by show 8<=(ij _++ij p).length;rw[zza,oY];omega⟩
 unfold jQ at hx;rw[zzb (by omega)]at hx
 split at hx
 ·cases hx
 split at hx
 ·cases hx
 rename_i hd;have hd:f_ g.bF<1099511627776:=by omega
 split at hx
 ·exact z_ _ h0 hd hx
 rename_i s hs;split at hx
 ·cases hx;exact⟨hp,hd,λ_=>⟨s,hs,rfl⟩,λe=>(by cases e),hb,by show 8<=(ij p).length;rw[oY];omega⟩
 have:=(h.bF s (xxu hs)).f0;exact z_ _ (by omega) hd hx
def xA(L:List il)(x:mc):List il:=if x.fresh=true then L++[⟨x.file,f_ L+1,0,[]⟩] else L
def AH(s:il)(n:Nat)(p:Δ):il:={s with size:=s.size+n,l:=s.l++[p]}
def IP(L:List il)(x:mc)(p:Δ){A:List il}{s:il}(h:xA L x=A++[s]):nQ L x p=A++[AH s x.b.length p]:=by
 unfold nQ;have:(if x.fresh=true then L++[⟨x.file,f_ L+1,0,[]⟩] else L)=A++[s]:=h;rw[this];simp only[List.dropLast_concat,yy6];rfl
def Ma{g:ib}{p:Δ}{x:mc}(h:C_ g p x):∃A s,xA g.bF x=A++[s]:=by
 unfold xA;cases hf:x.fresh with
 | true=>exact⟨_,_,rfl⟩
 | false=>
  obtain⟨s,hs,_⟩:=h.s3 hf;obtain⟨A,hA⟩:=List.getLast?_eq_some_iff.1 hs;exact⟨A,s,by rw[zzb (by decide)];exact hA⟩
def XC{g:ib}{N:Nat}(hg:g.Ok N){p:Δ}{x:mc}(h:C_ g p x):∀s∈xA g.bF x,po s N:=by
 intro s hs;unfold xA at hs;split at hs
 ·rename_i hf;rcases zz0.1 hs with hs|hs
  ·exact hg.bF s hs
  rw[zz3.1 hs];have:=y' hg.bF;have:=h.hd;exact⟨(h.f0 hf).1,(h.f0 hf).2,by show 1<=f_ g.bF+1;omega,by show f_ g.bF+1<=_;omega,zz8 _,zz8 _,λb hb=>by cases hb⟩
 exact hg.bF s hs
def e_q(L:List il)(x:mc):(xA L x).length<=L.length+1:=by
 unfold xA;split<;>simp
def aid{g:ib}{N:Nat}(hg:g.Ok N){p:Δ}{x:mc}(h:C_ g p x):(∀s∈nQ g.bF x p,po s (N+(28+p.length)))/\(nQ g.bF x p).length<=N+1:=by
 obtain⟨A,s,hA⟩:=Ma h;have eW:=XC hg h;have hl:=e_q g.bF x;have hn:=hg.ln;rw[IP _ _ _ hA];rw[hA]at eW hl
 refine⟨λt ht=>?_,by simp at hl ⊢;omega⟩;rcases zz0.1 ht with ht|ht
 ·exact (eW t (xx7 _ ht)).mono (by omega)
 rw[zz3.1 ht];have hs:=eW s (by simp);have:=hs.sz;have:=hs.ln;have:=h.bl;refine⟨hs.f0,hs.f1,hs.n0,hs.n1,by show s.size+x.b.length<=_;omega,by show (s.l++[p]).length<=_;simp;omega,λb hb=>?_⟩;rcases zz0.1 hb with hb|hb
 ·exact hs.bl b hb
 rw[zz3.1 hb];exact h.pl
def M4(n:Int):∀(L:List il) (d:DS),(∀s∈(mw L d n).1.1,s∈L)/\(mw L d n).1.1.length<=L.length
 | [],d=>⟨λs hs=>hs,zzi _⟩
 | [t],d=>⟨λs hs=>hs,zzi _⟩
 | t::u::L,d=>by
  rw[mw];split
  ·split
   ·exact⟨λs hs=>hs,zzi _⟩
   obtain⟨h1,h2⟩:=M4 n (u::L) (d.remove t.file).1;exact⟨λs hs=>.tail _ (h1 s hs),by simp at h2 ⊢;omega⟩
  exact⟨λs hs=>hs,zzi _⟩
def gwx{g:ib}{d:DS}{N:Nat}(h:g.Ok N)(n:Int):(mv g d n).1.1.Ok N:=by
 unfold mv;split
 ·exact h
 obtain⟨h1,h2⟩:=M4 n g.bF d;exact⟨λs hs=>h.bF s (h1 s hs),h.b0,h.b1,h.s0,h.s1,yyw h2 h.ln⟩
def mQ:List il->Prop
 | []=>True
 | [_]=>True
 | s::t::r=>t.first=s.next/\mQ (t::r)
def mQ.tail{s:il}{L:List il}(h:mQ (s::L)):mQ L:=by
 cases L with
 | nil=>trivial
 | cons t r=>exact h.2
def mQ.drop{L:List il}(h:mQ L):∀i,mQ (L.drop i)
 | 0=>h
 | i+1=>by
  cases L with
  | nil=>exact trivial
  | cons s L=>exact mQ.drop h.tail i
def mQ.snoc:∀{L:List il} {x:il},mQ L->(L≠[]->x.first=f_ L+1)->mQ (L++[x])
 | [],x,_,_=>trivial
 | [s],x,_,h=>⟨by have:=h (by simp);simp only[f_,List.getLast?_singleton]at this;omega,trivial⟩
 | s::t::r,x,h,hx=>by
  refine⟨h.1,?_⟩;refine mQ.snoc (L:=t::r) h.2 λ_=>?_;have:=hx (by simp);simp only[f_,uug]at this ⊢;exact this
def mQ.last:∀{A:List il} {s t:il},mQ (A++[s])->t.first=s.first->mQ (A++[t])
 | [],s,t,_,_=>trivial
 | [a],s,t,h,e=>⟨by rw[e];exact h.1,trivial⟩
 | a::b::r,s,t,h,e=>⟨h.1,mQ.last (A:=b::r) h.2 e⟩
def TOk(g:ib):Prop:=∀x,g.iC=some x->0<=x.file/\x.file<=100000/\(x.fresh=false->∃s,g.bF.getLast?=some s/\s.file=x.file/\x.tu=s.size)/\(x.fresh=true->∀s,g.bF.getLast?=some s->s.file≠x.file)
structure mH(g:ib)(M:Nat):Prop where
 ok:g.Ok M
 seq:mQ g.bF
 hd:f_ g.bF<=1099511627776
 iC:TOk g
def mH.mono{g:ib}{N M:Nat}(h:mH g N)(hm:N<=M):mH g M:=⟨h.ok.mono hm,h.seq,h.hd,h.iC⟩
def Xw(g:ib)(d:DS):(iq g d).1.1.iC=if (iq g d).2=0 then none else g.iC:=by
 unfold iq;split
 ·rename_i h;simp[h]
 rename_i x h;simp only;split<;>simp[h]
def Xt{g:ib}{d:DS}{M:Nat}(h:mH g M):mH (iq g d).1.1 M:=by
 obtain⟨h1,h2,h3⟩:=xz g d;refine⟨L_ h.ok,by rw[h1];exact h.seq,by rw[h1];exact h.hd,λx hx=>?_⟩;rw[Xw]at hx
 split at hx
 ·cases hx
 rw[h1];exact h.iC x hx
def KY(A:List il)(s:il):f_ (A++[s])=s.next-1:=by
 unfold f_;rw[yy6]
def fF7{g:ib}{M:Nat}(h:mH g M){p:Δ}{x:mc}(hw:C_ g p x)(ht:g.iC=none):mH {g with bF:=nQ g.bF x p} (M+(28+p.length)):=by
 obtain⟨k1,k2⟩:=aid h.ok hw;have hb:=h.ok;have Ab:=hw.hd;obtain⟨A,s,hA⟩:=Ma hw;have Lt:mQ (A++[s])/\s.next-1<=f_ g.bF:=by
  rw[<- hA];unfold xA at hA ⊢;split
  ·rename_i hf;rw[zzc hf]at hA
   have hs:=List.append_inj' hA rfl;have e:s=⟨x.file,f_ g.bF+1,0,[]⟩:=by simpa using hs.2.symm
   refine⟨h.seq.snoc λ_=>rfl,?_⟩;rw[e];simp[il.next]
  rename_i hf;rw[zzb hf]at hA
  refine⟨h.seq,?_⟩;rw[hA,KY];exact yyc _
 rw[IP _ _ _ hA]at k1 k2 ⊢
 refine⟨⟨k1,hb.b0,hb.b1,hb.s0,hb.s1,by show (A++[AH s x.b.length p]).length<=_;omega⟩,Lt.1.last rfl,?_,λy hy=>?_⟩
 ·show f_ (A++[AH s x.b.length p])<=_;rw[KY];have e:(AH s x.b.length p).next=s.next+1:=by simp[il.next,AH];omega
  rw[e];omega
 have:g.iC=some y:=hy;rw[ht]at this;cases this
def Tk{g:ib}{d:DS}{M:Nat}(h:mH g M)(p:Δ):mH (ki g d p).1.1 (M+(28+p.length)):=by
 unfold ki;split
 ·exact h.mono (by omega)
 rename_i x hx;have hw:=IL h.ok hx;have hm:=Xt (d:=d) h;obtain⟨m1,_,_⟩:=xz g d;have mt:=Xw g d;simp only;split
 ·exact hm.mono (by omega)
 rename_i h0;have h0:(iq g d).2=0:=by simpa using h0
 rw[zzc h0]at mt
 split
 ·exact hm.mono (by omega)
 split
 ·exact hm.mono (by omega)
 refine fF7 hm ⟨hw.pl,by rw[m1];exact hw.hd,by rw[m1];exact hw.s3,hw.f0,hw.bl,hw.pos⟩ mt
def fFu{g:ib}{M:Nat}(h:g.Ok M){off:Bool}{p:Δ}{x:mc}(hx:jQ g off p= .ok x):0<=x.file/\x.file<=100000/\(x.fresh=false->∃s,g.bF.getLast?=some s/\s.file=x.file)/\(x.fresh=true->∀s,g.bF.getLast?=some s->s.file≠x.file):=by
 have hw:=IL h hx;cases hf:x.fresh with
 | false=>
  obtain⟨s,h1,h2⟩:=hw.s3 hf;have:=h.bF s (xxu h1);exact⟨by rw[h2];exact this.f0,by rw[h2];exact this.f1,λ_=>⟨s,h1,h2.symm⟩,λe=>by cases e⟩
 | true=>
  obtain⟨f0,f1⟩:=hw.f0 hf;refine⟨f0,f1,(λe=>by cases e),λ_ s hs=>?_⟩;unfold jQ at hx;rw[hs]at hx
  split at hx
  ·cases hx
  split at hx
  ·cases hx
  split at hx
  ·cases hx
  simp only at hx;split at hx
  ·cases hx;cases hf
  unfold rM at hx;split at hx
  ·cases hx
  cases hx;show s.file≠s.file+1;omega
def gwf{g:ib}{d:DS}{M:Nat}(h:mH g M)(p:Δ)(k:Int):mH (lz g d p k).1.1 M:=by
 unfold lz;split
 ·exact h
 split
 ·exact h
 rename_i x hx;have hm:=Xt (d:=d) h;obtain⟨m1,m2,m3⟩:=xz g d;obtain⟨f0,f1,f2,f3⟩:=fFu h.ok hx;simp only;split
 ·exact hm
 split
 ·exact hm
 refine⟨hm.ok.congr rfl rfl rfl,hm.seq,hm.hd,λy hy=>?_⟩;have hy:some (⟨x.file,if x.fresh=true then 0 else pU (iq g d).1.1.bF,x.fresh⟩:Bv)=some y:=hy;cases hy;refine⟨f0,f1,λhf=>?_,λhf s hs=>f3 hf s (by rw[<- m1];exact hs)⟩;have hf:x.fresh=false:=hf;obtain⟨s,h1,h2⟩:=f2 hf;refine⟨s,by rw[<- m1]at h1;exact h1,h2,?_⟩;show (if x.fresh=true then 0 else pU (iq g d).1.1.bF)=_;rw[zzb (by rw[hf];decide)];unfold pU;rw[m1,h1]
def aFr(n:Int):∀(L:List il) (d:DS),∃i,(mw L d n).1.1=L.drop i/\(i=0\/i<L.length)
 | [],d=>⟨0,rfl,.inl rfl⟩
 | [t],d=>⟨0,rfl,.inl rfl⟩
 | t::u::L,d=>by
  rw[mw];split
  ·split
   ·exact⟨0,rfl,.inl rfl⟩
   obtain⟨i,h1,h2⟩:=aFr n (u::L) (d.remove t.file).1;exact⟨i+1,by rw[h1];rfl,.inr (by simp at h2 ⊢;omega)⟩
  exact⟨0,rfl,.inl rfl⟩
def bR9{α:Type}{L:List α}{i:Nat}(h:i=0\/i<L.length):(L.drop i).getLast?=L.getLast?:=by
 rcases h with rfl|h
 ·rfl
 rw[List.getLast?_drop,zzb (by omega)]
def gww{g:ib}{d:DS}{M:Nat}(h:mH g M)(n:Int):mH (mv g d n).1.1 M:=by
 have hk:=gwx (d:=d) h.ok n;unfold mv at hk ⊢;split
 ·exact h
 rename_i ho;rw[zzb ho]at hk
 obtain⟨i,h1,h2⟩:=aFr n g.bF d;have hl:(mw g.bF d n).1.1.getLast?=g.bF.getLast?:=by rw[h1];exact bR9 h2
 refine⟨hk,by show mQ (mw g.bF d n).1.1;rw[h1];exact h.seq.drop i,?_,λx hx=>?_⟩
 ·show f_ (mw g.bF d n).1.1<=_;unfold f_;rw[hl];exact h.hd
 show _/\_/\(_->∃s,(mw g.bF d n).1.1.getLast?=some s/\_)/\(_->∀s,(mw g.bF d n).1.1.getLast?=some s->_);rw[hl];exact h.iC x hx
def eWi{L:List il}{R:List PF}{f:Int}{last:Bool}(h:mQ L)(hh:f_ L<=1099511627776):mQ (na L R f last).2/\f_ (na L R f last).2<=1099511627776:=by
 unfold na;simp only;split
 ·exact⟨h,hh⟩
 split
 ·exact⟨h,hh⟩
 rename_i k l n hr hc;refine⟨h.snoc λhL=>?_,?_⟩
 ·show k=f_ L+1;have:0<L.length:=xx0.2 hL;rcases Int.lt_trichotomy k (f_ L+1) with h1|h1|h1
  ·exact absurd (.inr (.inl ⟨this,by omega⟩)) hc
  ·exact h1
  exact absurd (.inr (.inl ⟨this,by omega⟩)) hc
 show f_ (L++[_])<=_;rw[KY];simp only[il.next];rcases Int.lt_or_le 1099511627776 (k+l.length-1) with h1|h1
 ·exact absurd (.inr (.inr h1)) hc
 exact h1
def W9{R:List PF}:∀(ids:Ξ) (prev:Option Int) (L:List il) (wh:Bool),mQ L->f_ L<=1099511627776->∀{L' CZ},pV R ids prev L wh=some (L',CZ)->mQ L'/\f_ L'<=1099511627776
 | [],prev,L,wh,h,hh,L',CZ,e=>by cases e;exact⟨h,hh⟩
 | f::r,prev,L,wh,h,hh,L',CZ,e=>by
  rw[D4]at e
  obtain⟨k1,k2⟩:=eWi (R:=R) (f:=f) (last:=r.isEmpty) h hh;split at e
  ·cases e
  split at e
  ·cases e
  exact W9 r _ _ _ k1 k2 e
def vP(C:List Cell):Prop:=C.Pairwise (λa b=>a.key<b.key)
def vm(C:List Cell)(k:Int):Option Cell:=C.find? (λc=>decide (c.key=k))
def ry:List Cell->Cell->List Cell
 | [],c=>[c]
 | x::C,c=>if x.key<c.key then x::ry C c else if x.key=c.key then c::C else c::x::C
def cellOf(o:lA):Cell:=⟨o.key,o.aw,o.gone,if o.gone then ⟨#[]⟩ else o.val⟩
def vD(C:List Cell)(o:lA):List Cell × Bool:=match vm C o.key with
 | some c=>if o.aw<c.aw then (C,false) else (ry C (cellOf o),true)
 | none=>(ry C (cellOf o),true)
def pY(ts:List (List Cell))(o:lA):List (List Cell) × Bool:=
 if o.table<0 then (ts,false) else match ts[o.table.toNat]? with
 | some C=>(ts.set o.table.toNat (vD C o).1,(vD C o).2)
 | none=>(ts,false)
def ks:List (List Cell)->List lA->List (List Cell) × Nat
 | ts,[]=>(ts,0)
 | ts,o::l=>((ks (pY ts o).1 l).1,(if (pY ts o).2 then 1 else 0)+(ks (pY ts o).1 l).2)
def rowsOf(C:List Cell):List Row:=(C.filter λc=>!c.gone).map λc=>⟨c.key,c.val⟩
def fR3(C:List Cell)(k:Nat)(h:k<C.length):rowsOf (C.take (k+1))=if C[k].gone then rowsOf (C.take k) else rowsOf (C.take k)++[⟨C[k].key,C[k].val⟩]:=by
 unfold rowsOf;rw[zze h,yy0,zzt];cases hg:C[k].gone<;>simp[hg]
def fR2(C:List Cell):(rowsOf C).length<=C.length:=by unfold rowsOf;rw[zzs];exact yyp _ _
def Xo{C:List Cell}{c x:Cell}(h:x∈ry C c):x=c\/x∈C:=by
 induction C with
 | nil=>simpa [ry] using h
 | cons y C ih=>
  unfold ry at h;split at h
  ·rcases zz7.1 h with rfl|h
   ·exact .inr (.head _)
   rcases ih h with h|h
   ·exact .inl h
   exact .inr (.tail _ h)
  split at h
  ·rcases zz7.1 h with rfl|h
   ·exact .inl rfl
   exact .inr (.tail _ h)
  rcases zz7.1 h with rfl|h
  ·exact .inl rfl
  exact .inr h
def gia{C:List Cell}(h:vP C)(c:Cell):vP (ry C c):=by
 unfold vP at *
 induction C with
 | nil=>simp[ry]
 | cons y C ih=>
  rw[yyj]at h
  unfold ry;split
  ·rename_i iw;refine yyj.2 ⟨λz hz=>?_,ih h.2⟩;rcases Xo hz with rfl|hz
   ·exact iw
   exact h.1 z hz
  split
  ·rename_i he;exact yyj.2 ⟨λz hz=>by have:=h.1 z hz;omega,h.2⟩
  rename_i h1 h2;refine yyj.2 ⟨λz hz=>?_,yyj.2 h⟩;rcases zz7.1 hz with rfl|hz
  ·omega
  have:=h.1 z hz;omega
def cWl(C:List Cell)(c:Cell)(k:Int):vm (ry C c) k=if c.key=k then some c else vm C k:=by
 unfold vm;induction C with
 | nil=>by_cases h:c.key=k<;>simp[ry,h]
 | cons y C ih=>
  unfold ry;split
  ·rw[xxo,xxo,ih];by_cases h1:y.key=k
   ·have:c.key≠k:=by omega
    simp[h1,this]
   simp[h1]
  split
  ·rename_i he;rw[xxo,xxo];by_cases h1:c.key=k
   ·simp[h1]
   have:y.key≠k:=by omega
   simp[h1,this]
  rw[xxo];by_cases h1:c.key=k<;>simp[h1]
def eWb(C:List Cell)(c:Cell):(ry C c).length<=C.length+1:=by
 induction C with
 | nil=>simp[ry]
 | cons y C ih=>
  unfold ry;split
  ·simp;omega
  split<;>simp
def cWi{C:List Cell}{k:Int}{c:Cell}(h:vm C k=some c):c.key=k/\c∈C:=by
 unfold vm at h;have h1:=List.find?_some (p:=λc:Cell=>decide (c.key=k)) h;exact⟨zzl h1,List.mem_of_find?_eq_some h⟩
def UO{C:List Cell}(h:vP C){c:Cell}(hc:c∈C):vm C c.key=some c:=by
 unfold vm vP at *
 induction C with
 | nil=>cases hc
 | cons y C ih=>
  rw[yyj]at h
  rcases zz7.1 hc with rfl|hc
  ·simp
  have:=h.1 c hc;rw[xxo];have hn:¬y.key=c.key:=by omega
  simp[hn,ih h.2 hc]
def aii{ts:List (List Cell)}{t:Nat}{o:lA}(h:o.table=t)(ht:t<ts.length):pY ts o=(ts.set t (vD ts[t] o).1,(vD ts[t] o).2):=by
 have h0:¬o.table<0:=by omega
 have h1:o.table.toNat=t:=by omega
 unfold pY;simp[h0,h1,ht]
def IT(ts:List (List Cell))(o:lA):(pY ts o).1.length=ts.length:=by
 unfold pY;split
 ·rfl
 split<;>simp
def MB(l:List lA):∀ts,(ks ts l).1.length=ts.length:=by
 induction l with
 | nil=>intro ts;rfl
 | cons o l ih=>intro ts;simp only[ks];rw[ih,IT]
def fF4(l:List lA):∀ts,(ks ts l).2<=l.length:=by
 induction l with
 | nil=>intro ts;simp[ks]
 | cons o l ih=>intro ts;simp only[ks,zzj];have:=ih (pY ts o).1;split<;>omega
def fF3(l l':List lA):∀ts,ks ts (l++l')=((ks (ks ts l).1 l').1,(ks ts l).2+(ks (ks ts l).1 l').2):=by
 induction l with
 | nil=>intro ts;simp[ks]
 | cons o l ih=>intro ts;simp only[zzu,ks,ih];simp only[ww9]
def small(ts:List (List Cell))(k:Nat):Prop:=∀C∈ts,C.length+k<=1000000
def fId(C:List Cell)(o:lA):(vD C o).1.length<=C.length+1:=by
 unfold vD;have:=eWb C (cellOf o);split
 ·split<;>simp_all
 exact this
def f_x{ts:List (List Cell)}{k:Nat}{o:lA}(h:small ts (k+1)):small (pY ts o).1 k:=by
 unfold pY;split
 ·intro C hC;have:=h C hC;omega
 split
 ·rename_i C0 h0;intro C hC;rcases vv2 hC with hC|rfl
  ·have:=h C hC;omega
  have:=h C0 (xxe h0);have:=fId C0 o;omega
 intro C hC;have:=h C hC;omega
def awx{ts:List (List Cell)}{j k:Nat}(h:small ts k)(hj:j<=k):small ts j:=λC hC=>by have:=h C hC;omega
def f_v{l:List lA}:∀{ts:List (List Cell)} {k:Nat},small ts (k+l.length)->small (ks ts l).1 k:=by
 induction l with
 | nil=>intro ts k h;simpa [ks] using h
 | cons o l ih=>intro ts k h;exact ih (f_x (by rw[zzj]at h;rw[ww9];exact h))
def pD(n:Int):Prop:=-9223372036854775808<=n/\n<=9223372036854775807
def CV(C:List Cell):Prop:=vP C/\∀c∈C,pD c.key
def wD(ts:List (List Cell)):Prop:=∀C∈ts,CV C
def fws{C:List Cell}{o:lA}(h:CV C)(ho:pD o.key):CV (vD C o).1:=by
 have hi:CV (ry C (cellOf o)):=⟨gia h.1 _,λc hc=>by rcases Xo hc with rfl|hc;exact ho;exact h.2 c hc⟩;unfold vD;split
 ·split
  ·exact h
  exact hi
 exact hi
def XV{ts:List (List Cell)}{o:lA}(h:wD ts)(ho:pD o.key):wD (pY ts o).1:=by
 unfold pY;split
 ·exact h
 split
 ·rename_i C0 h0;intro C hC;rcases vv2 hC with hC|rfl
  ·exact h C hC
  exact fws (h C0 (xxe h0)) ho
 exact h
def fww{l:List lA}:∀{ts:List (List Cell)},wD ts->(∀o∈l,pD o.key)->wD (ks ts l).1:=by
 induction l with
 | nil=>intro ts h _;exact h
 | cons o l ih=>intro ts h ho;exact ih (XV h (ho o (.head _))) (λo' h'=>ho o' (.tail _ h'))
def vh(ts:List (List Cell))(t:Int):List Cell:=if 0<=t then (ts[t.toNat]?).getD [] else []
def bw7{ts:List (List Cell)}{t:Int}(hs:small ts 0):(vh ts t).length<=1000000:=by
 unfold vh;split
 ·cases h:ts[t.toNat]? with
  | none=>simp
  | some C=>simpa using hs C (xxe h)
 simp
structure p8(m:List (Int × Cell))(C:List Cell):Prop where
 get:∀k,kN m k=vm C k
 nodup:(m.map (·.1)).Nodup
def e_h{α:Type}(m:List (Int × α))(k:Int)(v:α)(k':Int):kN (lM m k v) k'=if k=k' then some v else kN m k':=by
 induction m with
 | nil=>by_cases h:k=k'<;>simp[lM,kN,h]
 | cons p m ih=>
  unfold lM;split
  ·rename_i hp;by_cases h:k=k'
   ·simp[kN,h]
   have:¬p.1=k':=by omega
   simp[kN,h,this]
  by_cases h:p.1=k'
  ·have:¬k=k':=by omega
   simp[kN,h,this]
  simp[kN,h,ih]
def e_e{α:Type}{m:List (Int × α)}{k:Int}{v:α}{x:Int}(h:x∈(lM m k v).map (·.1)):x=k\/x∈m.map (·.1):=by
 induction m with
 | nil=>simpa [lM] using h
 | cons p m ih=>
  unfold lM at h;split at h
  ·simp only[zzn,zz7]at h ⊢;rcases h with h|h
   ·exact .inl h
   exact .inr (.inr h)
  simp only[zzn,zz7]at h ⊢;rcases h with h|h
  ·exact .inr (.inl h)
  rcases ih h with h|h
  ·exact .inl h
  exact .inr (.inr h)
def e_5{α:Type}{m:List (Int × α)}(h:(m.map (·.1)).Nodup)(k:Int)(v:α):((lM m k v).map (·.1)).Nodup:=by
 induction m with
 | nil=>simp[lM]
 | cons p m ih=>
  rw[zzn,wws]at h
  unfold lM;split
  ·rename_i hp;rw[zzn,wws];exact⟨by rw[<- hp];exact h.1,h.2⟩
  rename_i hp;rw[zzn,wws];refine⟨λhm=>?_,ih h.2⟩;rcases e_e hm with e|e
  ·exact hp e
  exact h.1 e
def e_j{α:Type}{m:List (Int × α)}{k:Int}:k∈m.map (·.1)↔∃v,kN m k=some v:=by
 induction m with
 | nil=>simp[kN]
 | cons p m ih=>
  by_cases h:p.1=k
  ·simp[kN,h]
  have:¬k=p.1:=λe=>h e.symm;simp only[zzn,zz7,this,false_or,ih,kN,h,vvn]
def p8.put{m:List (Int × Cell)}{C:List Cell}(h:p8 m C)(c:Cell):p8 (lM m c.key c) (ry C c):=
 ⟨λk=>by rw[e_h,cWl,h.get],e_5 h.nodup _ _⟩
def p8.nil:p8 [] []:=⟨λk=>rfl,by simp⟩
def nodup_keys{C:List Cell}(h:vP C):(C.map (·.key)).Nodup:=by
 unfold vP at h;refine wwp.2 (h.imp λuM=>?_);omega
def p8.perm{m:List (Int × Cell)}{C:List Cell}(h:p8 m C)(hs:vP C):(m.map (·.1)).Perm (C.map (·.key)):=by
 refine (List.perm_ext_iff_of_nodup h.nodup (nodup_keys hs)).2 λk=>?_;rw[e_j];simp only[h.get];constructor
 ·rintro ⟨c,hc⟩;obtain⟨h1,h2⟩:=cWi hc;exact zzy.2 ⟨c,h2,h1⟩
 intro hk;obtain⟨c,hc,rfl⟩:=zzy.1 hk;exact⟨c,UO hs hc⟩
def p8.u0{m:List (Int × Cell)}{C:List Cell}(h:p8 m C)(hs:vP C):u0 m=C.map (·.key):=by
 have e:YtmkllimamejcgaaGreat.u0 m=(C.map (·.key)).mergeSort (λx y=>decide (x<=y)):=Go.mergeSort_of_perm_i (h.perm hs);rw[e];refine List.mergeSort_of_pairwise ?_;refine wwp.2 (uu8 (R:=λa b:Cell=>a.key<b.key) (λ{a b} uM=>?_) hs);simp only[zzx];omega
def p8.len{m:List (Int × Cell)}{C:List Cell}(h:p8 m C)(hs:vP C):m.length=C.length:=by simpa using (h.perm hs).length_eq
def p8.wf{m:List (Int × Cell)}{C:List Cell}(h:p8 m C)(ok:CV C):∀p∈m,(Lit.int .i64 p.1).wf=true:=λp hp=>by
 have:p.1∈C.map (·.key):=(h.perm ok.1).subset (zzy.2 ⟨p,hp,rfl⟩);obtain⟨c,hc,hk⟩:=zzy.1 this;have:=ok.2 c hc;rw[hk]at this
 unfold pD at this;have h1:IntKind.i64.min = -9223372036854775808:=by decide
 have h2:IntKind.i64.max=9223372036854775807:=by decide
 simp only[Lit.wf,h1,h2,zz9,zzx];exact this
open Go.RowKit
structure kY where
 kind:Int
 keep:Int
def mK(f:kY):Γ:=[.int .i64 f.kind,.int .i64 f.keep]
def Kd(f:kY):(mK f).length=2:=rfl
def b_y(f:kY):∀v∈mK f,v.oneCell'=true:=by simp[mK,Value.oneCell']
def nc(f:kY):Bool:=decide (((f.kind=1\/f.kind=3)/\f.keep=0)\/(f.kind=2/\0<=f.keep))
def rU(p:List kY):List kY->List kY
 | []=>p
 | f::l=>rU (if nc f=true/\p.length<1024 then p++[f] else p) l
structure gF where
 g:ib
 d:DS
 ts:List (List Cell)
 plan:List kY
 aw:Int
 reqs:List Rq
def tD(L:List Rq)(n:mn):Option (List Rq):=
 if n.kind=2 then p' L n.id n.iH n.done
 else match ux L n.table n.weight n.at_ with
  | some L'=>if n.id=L'.length then some L' else none
  | none=>none
def kW:List Rq->List mn->Option (List Rq)
 | L,[]=>some L
 | L,n::r=>match tD L n with
  | some L'=>kW L' r
  | none=>none
def wH(k:Nat)(x:eF):Bool:=x.ops.all λo=>decide (o.table<k)
def k9(k:Nat)(L:List Rq)(x:eF):Option (List Rq):=if jE x=true/\wH k x=true then kW L x.notes else none
def gF.Dj(k:gF)(x:eF)(L:List Rq):gF:={k with ts:=(ks k.ts x.ops).1,reqs:=L,aw:=x.aw}
def lu(x:eF):Δ:=match xS x with
 | .ok b=>b
 | .error _=>[]
def gF.lE(k:gF)(x:eF)(L:List Rq):gF × Int:=
 let r:=ki k.g k.d (lu x)
 if r.2.2=0 then (gF.Dj {k with g:=r.1.1,d:=r.1.2} x L,0) else ({k with g:=r.1.1,d:=r.1.2},r.2.2)
def gF.oI(k:gF)(x:eF)(n:Int):gF × Int:=
 let r:=lz k.g k.d (lu x) n
 ({k with g:=r.1.1,d:=r.1.2},r.2)
def gF.kR(k:gF)(x:eF):gF × Int:=
 if jE x=false\/(k.aw<x.aw/\k9 k.ts.length k.reqs x=none) then (k,1)
 else if k.d.off=true then (k,8)
 else
  let L:=(k9 k.ts.length k.reqs x).getD []
  match k.plan with
  | []=>if k.aw<x.aw then k.lE x L else (k,0)
  | f::r=>
   let k':gF:={k with plan:=r}
   if f.kind=3 then (if k.aw<x.aw then ((k'.lE x L).1,if (k'.lE x L).2=0 then 9 else (k'.lE x L).2) else (k',9))
   else if f.kind=2/\k.aw<x.aw then ((k'.oI x f.keep).1,if (k'.oI x f.keep).2=0 then 9 else (k'.oI x f.keep).2)
   else (k',9)
abbrev Tr:=List (List Cell) × List Rq × Int
def stepT(gw:Nat)(t:Tr)(x:eF):Option Tr:=match k9 gw t.2.1 x with
 | some L=>if t.2.2<x.aw then some ((ks t.1 x.ops).1,L,x.aw) else none
 | none=>none
def xD(gw:Nat):List (Δ)->Tr->Option Tr
 | [],t=>some t
 | b::r,t=>match sQ b with
  | .ok x=>match stepT gw t x with
   | some t'=>xD gw r t'
   | none=>none
  | .error _=>none
def vG(gw:Nat):Tr:=(List.replicate gw [],[],0)
def gF.tr(k:gF):Tr:=(k.ts,k.reqs,k.aw)
def oX(d:DS)(gw size:Int):DS × Except Int gF:=
 if gw<1\/8<gw then (d,.error 1)
 else match jX d 8192 size with
  | (d',.error e)=>(d',.error e)
  | (d',.ok g)=>
   if j7 g.bF≠1/\j7 g.bF<=f_ g.bF then (d',.error 3)
   else match xD gw.toNat (gR g.bF) (vG gw.toNat) with
    | none=>(d',.error 3)
    | some t=>(d',.ok ⟨g,d',t.1,[],t.2.2,t.2.1⟩)
set_option maxRecDepth 100000
def aib:∀(p a b:List kY),rU p (a++b)=rU (rU p a) b
 | p,[],b=>rfl
 | p,f::a,b=>aib _ a b
def Gq(p:List kY)(f:kY):rU p [f]=if nc f=true/\p.length<1024 then p++[f] else p:=rfl
def fF1{p l:List kY}{i:Nat}(h:i<l.length):rU p (l.take (i+1))=if nc l[i]=true/\(rU p (l.take i)).length<1024 then rU p (l.take i)++[l[i]] else rU p (l.take i):=by
 rw[zze h,aib,Gq]
def MA:∀(l p:List kY),p.length<=1024->p.length<=(rU p l).length/\(rU p l).length<=1024
 | [],p,h=>⟨zzi _,h⟩
 | f::l,p,h=>by
  unfold rU;split
  ·rename_i hc;have:=MA l (p++[f]) (by rw[zza,zz6];omega);rw[zza,zz6]at this
   omega
  exact MA l p h
def mo(p:Nat)(L:List kY):zB:=nT λv:Ω=>zG True [.pt p [v] 225,.ob (iB v 33 2 L.length (L.map mK).flatten)]
def mo.iff{W w:Α}{p:Nat}{L:List kY}{l:Ψ}:SL W (.ob (mo p L)::l) w↔∃v,SL W (.pt p [v] 225::.ob (iB v 33 2 L.length (L.map mK).flatten)::l) w:=by
 unfold mo;simp only[SL.ex,SL.fact,zzu,zzp,uus]
def cIq:SP 142 [] [] (λv post=>∃p:Nat,v= .pointer (some ⟨p,0,none⟩)/\post=[.ob (mo p [])]):=by
 refine Enzz λW F w hS=>?_;apply gIc;delta N8 bI;refine Gp ?_;refine zw hS λb w hS=>?_;have hS:=(mo.iff (L:=[])).2 ⟨_,SL.cR (iB.vz (a:=none) (t:=33) (sz:=2) hS) (t:=.pt b [.slice none 0 0] 225::.ob (iB (.slice none 0 0) 33 2 0 [])::F) Xi⟩;exact⟨_,⟨b,rfl,rfl⟩,hS⟩
def Yu(f:kY):SP 178 [agg (mK f)] [] (e_ (.bool (nc f)) []):=by
 refine Enzz λW F w hS=>?_;apply gRd;delta OL aI a_ cW ai;refine zw hS λb w hS=>?_;unfold mK at hS;refine cF (λh=>?_) (λh=>?_)
 ·refine Gp ?_;have e:nc f=decide (f.keep=0):=by unfold nc;rw[yyg];omega
  rw[e];(exact dW hS)
 refine cF (λh2=>?_) (λh2=>?_)
 ·refine Gp ?_;have e:nc f=decide (f.keep=0):=by unfold nc;rw[yyg];omega
  rw[e];(exact dW hS)
 refine cF (λh3=>?_) (λh3=>?_)
 ·refine Gp ?_;have e:nc f=decide (0<=f.keep):=by unfold nc;rw[yyg];omega
  rw[e];(exact dW hS)
 have e:nc f=false:=by unfold nc;rw[yy7];omega
 rw[e];(exact dW hS)
def ZX(H:bw)(p:Nat)(L l:List kY)(v:Ω)(hv:iD H 2 v l.length (l.map mK).flatten)(hl:l.length<=1000000)(hL:L.length<=1024):
  SP 179 [.pointer (some ⟨p,0,none⟩),v] [.ob (mo p L),.mem H] (e_ (.int .i64 (((rU L l).length-L.length:Nat):Int)) [.ob (mo p (rU L l)),.mem H]):=by
 refine Enzz λW F w hS=>?_;apply gRe;delta OM aI bW ia aR b_ ai;refine zo hv ?_;refine⟨λvs w=>∃i:Nat,vs=[.int .i64 (((rU L (l.take i)).length-L.length:Nat):Int),.int .i64 i]/\i<=l.length/\SL W (.ob (mo p (rU L (l.take i)))::.mem H::F) w,
  λvs _=>match vs with|[_,.int _ i]=>(l.length-i).toNat|_=>0,⟨0,by simp[rU],by omega,hS⟩,?_⟩
 clear hS;rintro v5 v10 w ⟨i,jR,hi,hS⟩;cases jR;refine cF (λh=>?_) (λh=>?_)
 ·have d_:i<l.length:=by omega
  have ht:=fF1 (p:=L) d_;have hle:=MA (l.take i) L hL;refine zE hS Xh Kd hv (x:=l[i]) (by simp[d_]) d_ ?_;refine Gm λb w hS=>?_;generalize hM:rU L (l.take i)=M at *
  generalize hf:l[i]=f at *
  refine Cg (Yu f) λw hS=>?_;refine yF (λhm=>?_) (λhm=>?_)
  ·obtain⟨pv,hS⟩:=mo.iff.1 (SL.cR hS (t:=.ob (mo p M)::.pt b (mK f) 33::.mem H::F) Xi);refine Gp ?_;refine zN hS (v:=pv) Xh ?_;refine cF (λh2=>?_) (λh2=>?_)
   ·rw[zzc ⟨hm,by omega⟩]at ht
    refine Gm λb w hS=>?_;refine qG (t:=33) (n:=M.length) (xs:=M) (y:=f) (enc:=mK) hS Xr Xh Kd b_y rfl rfl (by omega) (by omega) ?_;clear hS;intro nv w hS;have h1:=iB.one hS .hd;refine Gn λw hS=>?_;refine⟨⟨i+1,by rw[ht,zza,zz6,show M.length+1-L.length=M.length-L.length+1 by omega],by omega,?_⟩,by dsimp only;omega⟩;rw[ht];refine mo.iff.2 ⟨nv,?_⟩;rw[show (M++[f]).length=M.length+1 by simp];exact aW hS
   rw[zzb (λh=>h2 (by omega))]at ht
   refine Gp ?_;refine⟨⟨i+1,by rw[ht],by omega,?_⟩,by dsimp only;omega⟩;rw[ht];exact mo.iff.2 ⟨pv,aW hS⟩
  rw[zzb (λh=>by rw[hm]at h;exact Bool.false_ne_true h.1)]at ht
  refine Gp ?_;refine⟨⟨i+1,by rw[ht],by omega,?_⟩,by dsimp only;omega⟩;rw[ht];exact aW hS
 have:i=l.length:=by omega
 subst this;rw[zz1]at *
 (exact dW hS)
def cIs(p:Nat):SP 343 [.pointer (some ⟨p,0,none⟩)] [.ob (mo p [])] (e_ (.tuple #[agg (mK ⟨0,0⟩),.bool false]) [.ob (mo p [])]):=by
 refine Enzz λW F w hS=>?_;apply aF8;delta JG aI bW ia ai;obtain⟨v,hS⟩:=mo.iff.1 hS;refine Gm λb w hS=>?_;refine zN hS (v:=v) Xh ?_;refine Gp ?_;refine za (λh=>?_) (λh=>absurd rfl h);refine Gn λw hS=>?_;exact⟨_,⟨rfl,rfl⟩,mo.iff.2 ⟨v,aW hS⟩⟩
def cIr(p:Nat)(f:kY)(r:List kY)(hr:r.length<=1024):SP 343 [.pointer (some ⟨p,0,none⟩)] [.ob (mo p (f::r))] (e_ (.tuple #[agg (mK f),.bool true]) [.ob (mo p r)]):=by
 refine Enzz λW F w hS=>?_;apply aF8;delta JG aI bW ia ai;obtain⟨v,hS⟩:=mo.iff.1 hS;refine Gm λb w hS=>?_;refine zN hS (v:=v) Xh ?_;refine Gp ?_;refine za (λh=>by rw[zzj]at h;omega) (λh=>?_);refine Gp ?_;refine qJ (j:=0) (k:=.i64) hS (t:=33) (v:=v) (enc:=mK) (xs:=f::r) Xh Kd rfl (by simp) ?_;refine Gm λb w hS=>?_;refine Yc (k:=1) (v:=v) (Has.front hS Xr) (by simp) λu hS=>?_;have hS:SL W (.ob (iB u 33 2 r.length (r.map mK).flatten)::_) _:=hS;have h1:=iB.one hS .hd;refine Gn λw hS=>?_;exact⟨_,⟨rfl,rfl⟩,mo.iff.2 ⟨u,SL.cR (t:=.pt p [u] 225::.ob (iB u 33 2 r.length (r.map mK).flatten)::F) hS Xi⟩⟩
def Fi(f:kY):kY:=if md f.kind 3=1 then ⟨2,md f.keep 300⟩ else ⟨1+md f.kind 3,0⟩
def qx(f:kY):SP 45 [agg (mK f)] [] (e_ (agg (mK (Fi f))) []):=by
 refine Enzz λW F w hS=>?_;apply ia0;delta Sq aI a_ ai;refine zw hS λb w hS=>?_;unfold mK at hS;refine Gm λb w hS=>?_;have hm:=mj f.kind 3 (by decide);refine Cg (yj f.kind 3 (by decide) (by decide)) λw hS=>?_;refine za (λh=>?_) (λh=>?_)
 ·refine Gp ?_;refine Cg (yj f.keep 300 (by decide) (by decide)) λw hS=>?_;have e:Fi f=⟨2,md f.keep 300⟩:=zzc (by omega);rw[e];have e2:(1:Int)+md f.kind 3=2:=h;rw[e2]at hS ⊢
  (exact dW hS)
 refine Gn λw hS=>?_;have e:Fi f=⟨1+md f.kind 3,0⟩:=zzb (by omega);rw[e];(exact dW hS)
