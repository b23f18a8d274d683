/- Part. -/
import Derived.Test.YtmkllimamejcgaaGreatJ2
import Derived.Shelf.SlIterI.Nil
import Derived.Shelf.SortM.Plain
import Derived.Shelf.SortM.SortNone
import Derived.WideShapes
import Derived.Test.YtmkllimamejcgaaGreatQLay
import Derived.Test.YtmkllimamejcgaaGreatQVcG
import Derived.Test.YtmkllimamejcgaaGreatQVcS
namespace Go.Proofs.YtmkllimamejcgaaGreat
set_option linter.all false
open Go.RowKit Go.Maps Go.Sort Go.Shelf
def yyt:=@congrArg
def uuk:=@callsIn_wide
def yyp:=@List.length_filter_le
def vvk:=@List.filter_cons_of_pos
def vvm:=@List.filter_eq_nil_iff
def vvl:=@List.filter_cons_of_neg
def zzh:=@List.getElem_mem
def xxr:=@List.pairwise_iff_getElem
def xxa:=@List.mem_iff_getElem
def xxh:=@List.set_eq_take_append_cons_drop
def yyj:=@List.length_set
def xxp:=@List.getElem_set
def uul:=@List.getElem_take
def zz5:=@List.mem_append
def ww1:=@List.pairwise_map
def uu9:=@List.Pairwise.imp
def vvn:=@List.getElem_cons_zero
def uuh:=@List.eraseIdx_cons_succ
def zzn:=@List.length_map
def ww2:=@List.getElem?_map
def yyr:=@List.mem_of_mem_take
def vvx:=@List.mem_of_mem_drop
def vvi:=@List.mem_of_mem_eraseIdx
def ww5:=@List.nodup_cons
def tta:=@Option.some.injEq
def uut:=@true_and
def vvu:=@List.perm_append_comm
def vvo:=@List.map_set
def uum:=@List.ext_getElem?
def zz9:=@Nat.zero_le
def yy2:=@Nat.le_trans
def yyf:=@Int.le_refl
def ttm:=@enters_of
def yy4:=@Tryz.underlying2
def yyc:=@Tryz.underlying3
def vve:=@Int.emod_nonneg
def uuc:=@Int.emod_lt_of_pos
def ww7:=@IntKind.wrap_u64
def zzv:=@List.cons_append
def zzr:=@List.nil_append
def wwq:=@Tryz.underlying166
def vvt:=@Option.map_none
def ww8:=@Option.getD_none
def yyh:=@Option.map_some
def xxi:=@Option.getD_some
def wwy:=@List.set_append_left
def vvv:=@List.set_append_right
def yya:=@List.length_singleton
def vvy:=@Int.fdiv_eq_ediv_of_nonneg
def uud:=@List.getElem?_take
def wwz:=@List.drop_left
def ww0:=@List.take_left
def zz1:=@List.append_nil
def ww3:=@List.foldl_append
def ttj:=@List.foldl_nil
def uu2:=@List.take_zero
def wwr:=@Nat.not_lt
def xx1:=@List.mem_of_getLast?
def www:=@List.getElem_append_left
def vvp:=@List.getElem_cons_succ
def xxb:=@List.getLast?_concat
def xxf:=@List.take_append_of_le_length
def zz6:=@List.take_of_length_le
def zzt:=@List.map_append
def yy7:=@List.map_nil
def tte:=@List.isEmpty_nil
def ttk:=@List.take_take
def xxu:=@Nat.min_eq_left
def zzy:=@Int.toNat_natCast
def xx4:=@Nat.lt_or_ge
def zz7:=@List.mem_singleton
def uu3:=@List.mapIdx_append
def xxw:=@List.ext_getElem
def vv6:=@List.getElem_mapIdx
def xx9:=@List.length_pos_iff
def vvq:=@List.append_eq_nil_iff
def vv7:=@List.mem_map_of_mem
def zz2:=@decide_eq_false
def uui:=@List.getLast?_cons_cons
def xxv:=@List.find?_cons
def vv5:=@List.mem_or_eq_of_mem_set
def yyi:=@decide_eq_decide
def p7{α:Type}(m:List (Int × α)):Ω:=(m.map (·.1)).mergeSort (λx y=>decide (x<=y))
section
variable {W w:Ζ} {l:Β} {P:Program} {ρ σ:Ren} {b:Nat} {α:Type} {val:α->Ε} {m:List (Int × α)}
def SL.kept{w':Ζ}(h:SL W l w)(hb:Below w.heap.size w w'):SL W l w':=by
 obtain⟨a1,a2,a3,k,s,x⟩:=h;refine⟨hb.os.trans a1,hb.tape.trans a2,hb.output.trans a3,k,s,λb o e=>?_⟩;have e1:=x b o e;rw[hb.block b (yy8.1 e1).1];exact e1
def SL.bYg{w':Ζ}{g:Nat}{cs:Ξ}{t:Ι}(h:SL W l w)(hb:Below w.heap.size w w')(hg:w.heap.size<=g)(he:w'.heap[g]?=some (.cells cs.toArray t (0,0))):SL W (.pt g cs t::l) w':=by
 obtain⟨a1,a2,a3,k,s,x⟩:=h;have hk:k g=none:=by
  cases hx:k g with
  | none=>rfl
  | some y=>have:=(yy8.1 (x g y hx)).1;omega
 refine⟨hb.os.trans a1,hb.tape.trans a2,hb.output.trans a3,λy=>if y=g then some (.cells cs.toArray t (0,0)) else k y,⟨bw.one g (.cells cs.toArray t (0,0)),k,λy=>?_,⟨(0,0),.inl rfl,rfl⟩,s⟩,λy o e=>?_⟩
 ·by_cases hy:y=g
  ·subst hy;exact .inr ⟨hk,by simp[bw.one]⟩
  exact .inl ⟨by simp[bw.one,hy],by simp[hy]⟩
 by_cases hy:y=g
 ·subst hy;simp at e;rw[he,e]
 simp[hy]at e
 have e1:=x y o e;rw[hb.block y (yy8.1 e1).1];exact e1
def SL.bYh{w':Ζ}{v:Ε}{n:Nat}{t:Ι}{xs:Ξ}(h:SL W l w)(hb:Below w.heap.size w w')(hr:w'.ownsRow w.heap.size t 1 v n xs):SL W (.ob (bR v t 1 n xs)::l) w':=by
 obtain⟨hx,h2⟩:=hr;rcases h2 with ⟨rfl,rfl⟩|⟨g,cap,cur,rfl,hg,he,h3,h4,h5,h6⟩
 ·obtain rfl:xs=[]:=zzl (by simpa using hx);exact bR.nil (h.kept hb)
 refine bR.mk (rest:=cur.toList.drop (n*1)) h3 hx ?_ (h.bYg hb hg ?_)
 ·rw[zzq,Array.length_toList,h5,wwo]
 rw[<- h6,yyk];exact he
def cwb{H:Type}{kt:Ι}(I3:P.underlying kt=some (.int .i64))(hS:SL W l w)(hm:Has (.ob (eE (Value.int .i64) val b m)) l)(hlen:m.length<=maxLen)(xQ:∀p∈m,(Lit.int .i64 p.1).wf=true):
  ∃D:DataW H,w.ownsMap P kt (λ_=>some (.nil,[])) b m.length D/\(intKeys D).Perm (m.map (·.1))/\Maps.size D=m.length:=by
 obtain⟨es,c,e1,e2,hb⟩:=hS.xW hm;have hl:es.length=m.length:=by simpa using yyt List.length e1
 have xA:∀x∈es,∃p∈m,x.key= .int .i64 p.1:=λx hx=>by
  have:kv x∈es.map kv:=zzx.2 ⟨x,hx,rfl⟩;rw[e1]at this
  obtain⟨p,hp,hq⟩:=zzx.1 this;exact⟨p,hp,(Prod.mk.inj hq).1.symm⟩
 have dJ:∀x∈es,∀a,x.key= .int .i64 a->WideElems.rd P kt (λ_=>some ((.nil:DataW H),[])) x=some (.int .i64 a,.nil):=λx hx a ha=>by
  obtain⟨p,hp,hq⟩:=xA x hx;rw[ha]at hq;cases hq
  have hw:=xQ p hp;simp[WideElems.rd,keyOf,I3,mapKey,ha,hw]
 refine⟨_,⟨es.toArray,c,hb,⟨by simpa [hl] using hlen,e2,λx hx=>?_⟩,by simp[hl],rfl⟩,?_,?_⟩
 ·obtain⟨p,hp,hq⟩:=xA x (by simpa using hx);exact⟨_,dJ x (by simpa using hx) _ hq⟩
 ·show (List.map (λp:Lit × DataW H=>Go.intOf p.1) _).Perm _;refine ((WideShapes.sorted_perm _).map _).trans ?_;rw[xxj];have:es.map ((λp:Lit × DataW H=>Go.intOf p.1)∘WideElems.rg P kt (λ_=>some ((.nil:DataW H),[])))=m.map (·.1):=by
   have h1:es.map ((λp:Lit × DataW H=>Go.intOf p.1)∘WideElems.rg P kt (λ_=>some ((.nil:DataW H),[])))=(es.map kv).map λq=>match q.1 with | .int _ a=>a|_=>0:=by
    rw[xxj];refine List.map_congr_left λx hx=>?_;obtain⟨p,hp,hq⟩:=xA x hx;simp[WideElems.rg_of (dJ x hx _ hq),kv,hq,Go.intOf]
   rw[h1,e1,xxj];rfl
  simpa using this▸List.Perm.refl _
 rw[Maps.size_eq,(WideShapes.sorted_perm _).length_eq];simp[hl]
def U'(L7:SlLaysZI.n7 P ρ)(L6:SlLaysZI.n6 P σ)(bWn:∀m,AnyZI.SortsIn P σ Fence.wide m)(e9:∀args w,(callFunc (σ.f 9) args).run P w= .ok (.enter (σ.f 9) args) w)(e10:∀args w,(callFunc (ρ.f 10) args).run P w= .ok (.enter (ρ.f 10) args) w)
  (I3:P.underlying (ρ.t 26)=some (.int .i64)) (hS:SL W l w) (hm:Has (.ob (eE (Value.int .i64) val b m)) l) (hlen:m.length*8<=140737488355328) (xQ:∀p∈m,(Lit.int .i64 p.1).wf=true) {K:Ε->Ζ->Prop}
  (h:∀v w',SL W (.ob (bR v (σ.t 26) 1 m.length ((p7 m).map (Value.int .i64)))::l) w'->K v w') :
  zQ P (ρ.f 7) [.map (some b)] w λv1 w1=>zQ P (σ.f 6) [v1] w1 K:=by
 obtain⟨D,Ud,De,fX⟩:=cwb (H:=Unit) I3 hS hm (by unfold maxLen;omega) xQ;refine (uuk (n:=5)).1 ((AnyZI.keys_in L7 Fence.wide 5 trivial rfl (some b) w).mono ?_);rintro e w1 ⟨rfl,rfl⟩;refine⟨_,rfl,?_⟩;have o9:=Ud.lt;have Jk:SeqGives Fence.wide 2 P (ρ.f 10) #[.pointer (some ⟨w.heap.size,0,none⟩)] encZ (λss=>ss.Perm (intKeys D)) (Maps.size D) (w.alloc (.cells #[.map (some b)] (ρ.t 23))):=
  AnyZI.keys_gives (ρ:=ρ) {L7 with} Fence.wide _ trivial rfl (by omega) w.heap.size b m.length D _ (by simp) (by simp) (by
   obtain⟨es,clock,hb,Ft,hs,hD⟩:=Ud;exact⟨es,clock,(Below.heap_alloc _ _ b o9).trans hb,Ft,hs,hD⟩)
 have cS:=AnyZI.sorted_in L6 Fence.wide 5 trivial trivial trivial trivial rfl (by omega) (bWn _) e9 (ρ.f 10) #[.pointer (some ⟨w.heap.size,0,none⟩)] trivial e10 _ _ (by rw[fX];unfold maxLen;omega) (by rw[fX];exact hlen) _ Jk;refine (uuk (n:=5)).1 (cS.mono ?_);rintro e w' ⟨v,ss,rfl,Bg,rC,Ja,hb⟩;refine⟨v,rfl,h v w' ?_⟩;have hp:=Bg.trans De;have bVs:ss.length=m.length:=by simpa using hp.length_eq
 have ng:ss.mergeSort (λx y=>decide (x<=y))=p7 m:=mergeSort_of_perm_i hp;rw[bVs,ng]at rC
 have mF:Below w.heap.size w w':=((Below.refl _ w).alloc (zzj _) _).trans (hb.mono (by simp));exact hS.bYh mF (ownsRow_base_a rC (by simp))
end
section
variable {α:Type} (key:α->Int)
def fI(L:List α):Prop:=L.Pairwise λa b=>key a<key b
def fq(L:List α)(k:Int):Nat:=(L.filter λx=>decide (key x<k)).length
variable {key}
def ED(L:List α)(k:Int):fq key L k<=L.length:=yyp _ _
def HK{L:List α}(hs:fI key L)(k:Int):∀j (h:j<L.length),key L[j]<k↔j<fq key L k:=by
 unfold fI at hs;unfold fq;induction L with
 | nil=>intro j h;simp at h
 | cons x L ih=>
  rw[yyg]at hs
  intro j h;by_cases hx:key x<k
  ·rw[vvk (by simpa using hx)];cases j with
   | zero=>simp[hx]
   | succ j=>simpa using ih hs.2 j (by simpa using h)
  have e:L.filter (λr=>decide (key r<k))=[]:=by
   rw[vvm];intro y hy;have:=hs.1 y hy;simp;omega
  rw[vvl (by simpa using hx),e];cases j with
  | zero=>simpa using hx
  | succ j=>
   have hm:L[j]'(by simpa using h)∈L:=zzh _;have:=hs.1 _ hm;simp;omega
def aWx{L:List α}(hs:fI key L)(k:Int){i:Nat}(hi:i<=L.length)(h1:∀j (h:j<L.length),j<i->key L[j]<k)(h2:∀h:i<L.length,¬key L[i]<k):fq key L k=i:=by
 have hle:=ED (key:=key) L k;rcases Nat.lt_trichotomy (fq key L k) i with h|h|h
 ·have:=(HK hs k _ (by omega)).1 (h1 (fq key L k) (by omega) h);omega
 ·exact h
 have:=h2 (by omega);have h3:=(HK hs k i (by omega)).2 h;exact absurd h3 this
def Cq{L:List α}(hs:fI key L){k:Int}{j:Nat}(hj:j<L.length)(h:key L[j]=k):fq key L k=j:=by
 refine aWx hs k (by omega) (λi hi sD=>?_) (λ_=>by omega);have:=xxr.1 hs i j hi hj sD;omega
def iA(key:α->Int)(L:List α)(k:Int):Bool:=match L[fq key L k]? with
 | some x=>decide (key x=k)
 | none=>false
def xS{L:List α}(hs:fI key L){k:Int}:iA key L k=true↔∃x∈L,key x=k:=by
 unfold iA;constructor
 ·intro h;split at h
  ·rename_i x e;exact⟨x,yy9 e,zzp h⟩
  cases h
 rintro ⟨x,hx,rfl⟩;obtain⟨j,hj,rfl⟩:=xxa.1 hx;rw[Cq hs hj rfl,zzc hj];simp
def tL{L:List α}{k:Int}(h:iA key L k=true):∃hl:fq key L k<L.length,key L[fq key L k]=k:=by
 unfold iA at h;split at h
 ·rename_i x e;obtain⟨hl,rfl⟩:=zzf.1 e;exact⟨hl,zzp h⟩
 cases h
def JG{L:List α}(hs:fI key L){k:Int}(h:iA key L k=false):∀x∈L,key x≠k:=λx hx e=>by
 have:=(xS hs).2 ⟨x,hx,e⟩;rw[h]at this;cases this
def dK(key:α->Int)(L:List α)(k:Int):Option α:=if iA key L k then L[fq key L k]? else none
def fZ(key:α->Int)(L:List α)(x:α):List α:=L.take (fq key L (key x))++[x]++L.drop (if iA key L (key x) then fq key L (key x)+1 else fq key L (key x))
def jE(key:α->Int)(L:List α)(k:Int):List α:=if iA key L k then L.eraseIdx (fq key L k) else L
def Gh{L:List α}{x:α}(h:iA key L (key x)=true):fZ key L x=L.set (fq key L (key x)) x:=by
 obtain⟨hl,_⟩:=tL h;unfold fZ;rw[zzd h,xxh,zzd hl];simp
def uq{L:List α}{k:Int}{x:α}(h:dK key L k=some x):x∈L/\key x=k:=by
 unfold dK at h;split at h
 ·rename_i hi;obtain⟨hl,e⟩:=tL hi;rw[zzc hl]at h
  cases h;exact⟨zzh hl,e⟩
 cases h
def tm{L:List α}(hs:fI key L){x:α}(h:x∈L):dK key L (key x)=some x:=by
 unfold dK;rw[zzd ((xS hs).2 ⟨x,h,rfl⟩)];obtain⟨j,hj,rfl⟩:=xxa.1 h;rw[Cq hs hj rfl,zzc hj]
def Im{L:List α}(hs:fI key L){k:Int}:dK key L k=none↔∀x∈L,key x≠k:=by
 constructor
 ·intro h x hx e;subst e;rw[tm hs hx]at h;cases h
 intro h;cases hg:dK key L k with
 | none=>rfl
 | some x=>obtain⟨h1,h2⟩:=uq hg;exact absurd h2 (h x h1)
def Xf{L:List α}(hs:fI key L){i:Nat}(hi:i<L.length){x:α}(hx:key x=key L[i]):fI key (L.set i x):=by
 unfold fI at *
 rw[xxr]at *
 intro a b ha hb pS;rw[yyj]at ha hb
 rw[xxp,xxp];have h1:=hs a b ha hb pS;split<;>split
 ·omega
 ·rename_i e _;subst e;omega
 ·rename_i e;subst e;omega
 exact h1
def Kn{L:List α}(hs:fI key L){x:α}(h:iA key L (key x)=false):(fZ key L x).Perm (x::L):=by
 unfold fZ;rw[zzb (by rw[h];decide)];have:L=L.take (fq key L (key x))++L.drop (fq key L (key x)):=by simp
 conv=>rhs;rw[this]
 rw[zzk];exact vv2
def Gi{L:List α}(hs:fI key L)(x:α):fI key (fZ key L x):=by
 cases h:iA key L (key x) with
 | true=>
  rw[Gh h];obtain⟨hl,e⟩:=tL h;exact Xf hs hl e.symm
 | false=>
  have hn:=JG hs h;unfold fZ;rw[zzb (by rw[h];decide)];have de:=HK hs (key x);have hle:=ED (key:=key) L (key x);unfold fI at *
  rw[zzk,List.pairwise_append];refine⟨hs.sublist (List.take_sublist _ _),?_,λa ha b hb=>?_⟩
  ·rw[List.singleton_append,yyg];refine⟨λb hb=>?_,hs.sublist (List.drop_sublist _ _)⟩;obtain⟨j,hj,rfl⟩:=xxa.1 hb;rw[List.getElem_drop];have oB:fq key L (key x)+j<L.length:=by simp at hj;omega
   have h1:=(not_congr (de _ oB)).2 (by omega);have h2:=hn _ (zzh oB);omega
  obtain⟨j,hj,rfl⟩:=xxa.1 ha;rw[uul];have oB:j<fq key L (key x)/\j<L.length:=by simp at hj;omega
  have h1:=(de j oB.2).2 oB.1;rcases zz5.1 hb with hb|hb
  ·simp at hb;subst hb;exact h1
  obtain⟨i,hi,rfl⟩:=xxa.1 hb;rw[List.getElem_drop];have mH:fq key L (key x)+i<L.length:=by simp at hi;omega
  have h3:=(not_congr (de _ mH)).2 (by omega);omega
def Sa{L:List α}(hs:fI key L)(k:Int):fI key (jE key L k):=by
 unfold jE;split
 ·exact hs.sublist (List.eraseIdx_sublist _ _)
 exact hs
def b_t{L:List α}(hs:fI key L):(L.map key).Nodup:=by
 refine ww1.2 (uu9 (R:=λa b=>key a<key b) (λ{a b} pS=>?_) hs);omega
def bwa{L:List α}(hs:fI key L)(k:Int):jE key L k=L.filter λx=>decide (key x≠k):=by
 unfold jE;split
 ·rename_i h;obtain⟨hl,e⟩:=tL h;generalize fq key L k=i at *
  have lL:=hs;unfold fI at lL;clear h hs;induction L generalizing i with
  | nil=>simp at hl
  | cons y L ih=>
   rw[yyg]at lL
   cases i with
   | zero=>
    simp only[vvn]at e;rw[List.eraseIdx_cons_zero,vvl (by simp[e])];symm;rw[yy3];intro z hz;have:=lL.1 z hz;simp;omega
   | succ i=>
    have rn:i<L.length:=by simpa using hl
    have e':key L[i]=k:=by simpa using e
    have:=lL.1 _ (zzh rn);rw[uuh,vvk (by simp;omega),ih i rn e' lL.2]
 rename_i h;have hn:=JG hs (by simpa using h);symm;rw[yy3];intro x hx;simpa using hn x hx
def Cr{β:Type}{kb:β->Int}{f:β->α}(hf:∀b,key (f b)=kb b)(L:List β)(k:Int):fq key (L.map f) k=fq kb L k:=by
 unfold fq;rw[List.filter_map,zzn];congr 2
 funext b
 simp[hf]
def JH{β:Type}{kb:β->Int}{f:β->α}(hf:∀b,key (f b)=kb b)(L:List β)(k:Int):iA key (L.map f) k=iA kb L k:=by
 unfold iA;rw[Cr hf,ww2];cases L[fq kb L k]? with
 | none=>rfl
 | some b=>simp[hf]
def cw0{β:Type}{kb:β->Int}{f:β->α}(hf:∀b,key (f b)=kb b)(L:List β)(b:β):(fZ kb L b).map f=fZ key (L.map f) (f b):=by
 unfold fZ;rw[JH hf,Cr hf,hf];simp
def Vn{α β:Type}(f:β->α):∀(L:List β) (i:Nat),(L.eraseIdx i).map f=(L.map f).eraseIdx i
 | [],_=>rfl
 | x::L,0=>rfl
 | x::L,i+1=>by simp only[uuh,zzo,Vn f L i]
def bwb{β:Type}{kb:β->Int}{f:β->α}(hf:∀b,key (f b)=kb b)(L:List β)(k:Int):(jE kb L k).map f=jE key (L.map f) k:=by
 unfold jE;rw[JH hf,Cr hf];split
 ·exact Vn f L _
 rfl
def Bw{L:List α}{x y:α}(h:y∈fZ key L x):y=x\/y∈L:=by
 unfold fZ at h;rcases zz5.1 h with h|h
 ·rcases zz5.1 h with h|h
  ·exact .inr (yyr h)
  exact .inl (by simpa using h)
 exact .inr (vvx h)
def F'{L:List α}{k:Int}{y:α}(h:y∈jE key L k):y∈L:=by
 unfold jE at h;split at h
 ·exact vvi h
 exact h
end
section
variable {α β:Type} {key:α->Int} {val:α->β} {m:List (Int × β)} {L:List α}
def ko(key:α->Int)(val:α->β)(m:List (Int × β))(L:List α):Prop:=m.Perm (L.map λx=>(key x,val x))/\fI key L
def ko.nodup(h:ko key val m L):(m.map (·.1)).Nodup:=by
 have:=h.1.map (·.1);rw[xxj]at this
 exact this.nodup_iff.2 (b_t h.2)
def VE(hn:(m.map (·.1)).Nodup)(k:Int)(v:β):fO m k=some v↔(k,v)∈m:=by
 induction m with
 | nil=>simp[fO]
 | cons p m ih=>
  rw[zzo,ww5]at hn
  obtain⟨a,b⟩:=p;by_cases ha:a=k
  ·subst ha;simp only[fO,wwj,tta,zz0,wwi,uut];constructor
   ·rintro rfl;exact .inl rfl
   rintro (h|h)
   ·exact h.symm
   exact absurd (zzx.2 ⟨_,h,rfl⟩) hn.1
  have JB:=ih hn.2;have dQ:¬(k=a):=λe=>ha e.symm;simp only[fO,ha,wwb,JB,zz0,wwi,dQ,false_and,false_or]
def ko.get(h:ko key val m L)(k:Int):fO m k=(dK key L k).map val:=by
 cases hg:dK key L k with
 | some x=>
  obtain⟨hx,rfl⟩:=uq hg;exact (VE h.nodup _ _).2 (h.1.symm.subset (zzx.2 ⟨x,hx,rfl⟩))
 | none=>
  cases hm:fO m k with
  | none=>rfl
  | some v=>
   obtain⟨x,hx,e⟩:=zzx.1 (h.1.subset ((VE h.nodup _ _).1 hm));cases e;exact absurd rfl ((Im h.2).1 hg x hx)
def bZ0(hn:(m.map (·.1)).Nodup)(k:Int):rI m k=m.filter λp=>decide (p.1≠k):=by
 induction m with
 | nil=>rfl
 | cons p m ih=>
  rw[zzo,ww5]at hn
  unfold rI;split
  ·rename_i e;rw[vvl (by simp[e])];symm;rw[yy3];intro q hq;have:q.1≠p.1:=λe2=>hn.1 (by rw[<- e2];exact zzx.2 ⟨q,hq,rfl⟩);simp;omega
  rename_i e;rw[vvk (by simpa using e),ih hn.2]
def ko.del(h:ko key val m L)(k:Int):ko key val (rI m k) (jE key L k):=by
 refine⟨?_,Sa h.2 k⟩;rw[bZ0 h.nodup,bwa h.2];have:=h.1.filter λp=>decide (p.1≠k)
 rwa [List.filter_map]at this
def b_h{k:Int}(hn:fO m k=none)(v:β):gI m k v=m++[(k,v)]:=by
 induction m with
 | nil=>rfl
 | cons p m ih=>
  unfold fO at hn;split at hn
  ·cases hn
  rename_i e;unfold gI;rw[zzb e,ih hn];rfl
def ko.add(h:ko key val m L){x:α}(hn:iA key L (key x)=false):ko key val (gI m (key x) (val x)) (fZ key L x):=by
 refine⟨?_,Gi h.2 x⟩;have hg:dK key L (key x)=none:=(Im h.2).2 (JG h.2 hn);rw[b_h (by rw[h.get,hg];rfl)];have h1:=(Kn h.2 hn).map λx=>(key x,val x);refine (vvu.trans ?_).trans h1.symm;rw[zzo];exact h.1.cons _
def ko.rS(h:ko key val m L){i:Nat}(hi:i<L.length){x:α}(h1:key x=key L[i])(h2:val x=val L[i]):ko key val m (L.set i x):=by
 refine⟨?_,Xf h.2 hi h1⟩;have e:(L.set i x).map (λx=>(key x,val x))=L.map λx=>(key x,val x):=by
  rw[vvo,h1,h2];refine uum λj=>?_;rw[List.getElem?_set];split
  ·rename_i sD;subst sD;rw[zzd (by simpa using hi),ww2,zzc hi];rfl
  rfl
 rw[e];exact h.1
def ko.p7(h:ko key val m L):p7 m=L.map key:=by
 have hp:(m.map (·.1)).Perm (L.map key):=by
  have:=h.1.map (·.1)
  rwa [xxj]at this
 have e:YtmkllimamejcgaaGreat.p7 m=(L.map key).mergeSort (λx y=>decide (x<=y)):=Go.mergeSort_of_perm_i hp;rw[e];refine List.mergeSort_of_pairwise ?_;refine ww1.2 (uu9 (R:=λa b:α=>key a<key b) (λ{a b} pS=>?_) h.2);simp only[zzw];omega
def ko.len(h:ko key val m L):m.length=L.length:=by simpa using h.1.length_eq
def ko.nil:ko key val [] []:=⟨.refl _,.nil⟩
end
structure PF where
 id:Int
 safe:Nat
 b:Φ
def cX(x:Κ):Ε:=.int .u8 (x.toNat:Int)
structure DS where
 R:List PF
 off:Bool
 arm:Int
 ops:Nat
def x'(f:Int):PF:=⟨f,0,[]⟩
def kN(R:List PF)(f:Int)(b:Φ):List PF:=fZ PF.id R ⟨f,((dK PF.id R f).getD (x' f)).safe,((dK PF.id R f).getD (x' f)).b++b⟩
def ki(R:List PF)(f:Int)(g:PF->PF):List PF:=match dK PF.id R f with
 | some x=>fZ PF.id R {g x with id:=f}
 | none=>R
def may(s:DS)(f:Int):Int:=if s.off=true then 8 else if f<0\/16384<=f then 1 else 0
def DS.cA(s:DS):DS:={s with off:=decide (s.arm=1),arm:=if 0<s.arm then s.arm-1 else s.arm,ops:=s.ops+1}
def DS.err(s:DS):Int:=if s.off=true then 8 else 0
def DS.find(s:DS)(f:Int):Int:=if may s f≠0 then may s f else if iA PF.id s.R f=true then 0 else 5
def DS.append(s:DS)(f:Int)(b:Φ):DS × Int:=if may s f≠0 then (s,may s f) else ({s.cA with R:=kN s.R f b},s.cA.err)
def DS.sync(s:DS)(f:Int):DS × Int:=if s.find f≠0 then (s,s.find f) else if s.cA.off=true then (s.cA,8) else ({s.cA with R:=ki s.R f λx=>{x with safe:=x.b.length}},0)
def gn(R:List PF)(f:Int):Int:=match dK PF.id R f with
 | some x=>x.b.length
 | none=>-1
def jj(n:Nat)(x:PF):PF:={x with b:=x.b.take n,safe:=min x.safe n}
def DS.cut(s:DS)(f n:Int):DS × Int:=if s.find f≠0 then (s,s.find f) else if n<0\/gn s.R f<n then (s,1) else if s.cA.off=true then (s.cA,8) else ({s.cA with R:=ki s.R f (jj n.toNat)},0)
def DS.remove(s:DS)(f:Int):DS × Int:=if s.find f≠0 then (s,s.find f) else if s.cA.off=true then (s.cA,8) else ({s.cA with R:=jE PF.id s.R f},0)
def DS.oh(s:DS)(n:Int):DS:={s with arm:=max n 0}
def jQ(keep:Ω)(i:Nat)(x:PF):Nat:=match keep[i]? with
 | some k=>if 0<k then k.toNat % (x.b.length-x.safe+1) else 0
 | none=>0
def iY(keep:Ω)(i:Nat)(x:PF):PF:=⟨x.id,min (x.safe+jQ keep i x) x.b.length,x.b.take (x.safe+jQ keep i x)⟩
def eY(R:List PF)(keep:Ω):List PF:=R.mapIdx (iY keep)
def DS.ed(s:DS)(keep:Ω):DS:={s with R:=eY s.R keep,off:=false,arm:=0}
structure DS.Ok(s:DS)(N:Nat):Prop where
 sorted:fI PF.id s.R
 ids:∀x∈s.R,0<=x.id/\x.id<16384
 safe:∀x∈s.R,x.safe<=x.b.length
 len:∀x∈s.R,x.b.length<=N
 pE:0<=s.arm
 q_:s.arm<=9223372036854775807
def x8{keep:Ω}{i:Nat}{x:PF}(h:x.safe<=x.b.length):x.safe+jQ keep i x<=x.b.length:=by
 unfold jQ;split
 ·split
  ·have:=vvg (Int.toNat ‹Int›) (show 0<x.b.length-x.safe+1 by omega);omega
  omega
 omega
def Cs{keep:Ω}{i:Nat}{x:PF}(h:x.safe<=x.b.length):(iY keep i x).b.length=x.safe+jQ keep i x:=by
 have:=x8 (keep:=keep) (i:=i) h;simp[iY];omega
def EG{keep:Ω}{i:Nat}{x:PF}(h:x.safe<=x.b.length):(iY keep i x).safe=x.safe+jQ keep i x:=by
 have:=x8 (keep:=keep) (i:=i) h;simp[iY];omega
def F_{R:List PF}{f:Int}{g:PF->PF}{y:PF}(h:y∈ki R f g):y∈R\/∃x∈R,x.id=f/\y={g x with id:=f}:=by
 unfold ki at h;split at h
 ·rename_i x e;obtain⟨h1,h2⟩:=uq e;rcases Bw h with h|h
  ·exact .inr ⟨x,h1,h2,h⟩
  exact .inl h
 exact .inl h
def SZ{R:List PF}{f:Int}{N:Nat}(h:∀x∈R,x.b.length<=N):((dK PF.id R f).getD (x' f)).b.length<=N:=by
 cases e:dK PF.id R f with
 | none=>exact zz9 _
 | some x=>exact h x (uq e).1
def bI3{R:List PF}{f:Int}(h:∀x∈R,x.safe<=x.b.length):((dK PF.id R f).getD (x' f)).safe<=((dK PF.id R f).getD (x' f)).b.length:=by
 cases e:dK PF.id R f with
 | none=>exact zz9 _
 | some x=>exact h x (uq e).1
def DS.Ok.mono{s:DS}{N M:Nat}(h:s.Ok N)(hm:N<=M):s.Ok M:=⟨h.sorted,h.ids,h.safe,λx hx=>yy2 (h.len x hx) hm,h.pE,h.q_⟩
def DS.Ok.cA{s:DS}{N:Nat}(h:s.Ok N):s.cA.Ok N:=by
 have h0:=h.pE;have h1:=h.q_;refine⟨h.sorted,h.ids,h.safe,h.len,?_,?_⟩<;>simp only[DS.cA]<;>split<;>omega
def DS.Ok.K9{s:DS}{N:Nat}(h:s.Ok N){R:List PF}(h1:fI PF.id R)(h2:∀x∈R,0<=x.id/\x.id<16384)(h3:∀x∈R,x.safe<=x.b.length)(h4:∀x∈R,x.b.length<=N):({s with R:=R}:DS).Ok N:=
 ⟨h1,h2,h3,h4,h.pE,h.q_⟩
def DC{s:DS}{f:Int}(h:may s f=0):s.off=false/\0<=f/\f<16384:=by
 unfold may at h;split at h
 ·cases h
 split at h
 ·cases h
 rename_i h1 h2;refine⟨by simpa using h1,by omega,by omega⟩
def DS.Ok.append{s:DS}{N:Nat}(h:s.Ok N)(f:Int)(b:Φ):(s.append f b).1.Ok (N+b.length):=by
 unfold DS.append;split
 ·exact h.mono (by omega)
 rename_i hm;have hm:may s f=0:=by simpa using hm
 obtain⟨_,f0,f1⟩:=DC hm;have hl:=SZ (f:=f) h.len;have hs:=bI3 (f:=f) h.safe;refine (h.cA.mono (Nat.le_add_right N b.length)).K9 (Gi h.sorted _) ?_ ?_ ?_
 ·intro x hx;rcases Bw hx with rfl|hx
  ·exact⟨f0,f1⟩
  exact h.ids x hx
 ·intro x hx;rcases Bw hx with rfl|hx
  ·simp only[zza];omega
  exact h.safe x hx
 intro x hx;rcases Bw hx with rfl|hx
 ·simp only[zza];omega
 have:=h.len x hx;omega
def cD0{R:List PF}(h:fI PF.id R)(f:Int)(g:PF->PF):fI PF.id (ki R f g):=by
 unfold ki;split
 ·exact Gi h _
 exact h
def DS.Ok.rS{s:DS}{N:Nat}(h:s.Ok N)(f:Int)(g:PF->PF)(h1:∀x,x.safe<=x.b.length->(g x).safe<=(g x).b.length)(h2:∀x,(g x).b.length<=x.b.length):({s.cA with R:=ki s.R f g}:DS).Ok N:=by
 refine h.cA.K9 (cD0 h.sorted f g) ?_ ?_ ?_
 ·intro x hx;rcases F_ hx with hx|⟨y,hy,rfl,rfl⟩
  ·exact h.ids x hx
  exact h.ids y hy
 ·intro x hx;rcases F_ hx with hx|⟨y,hy,rfl,rfl⟩
  ·exact h.safe x hx
  exact h1 y (h.safe y hy)
 intro x hx;rcases F_ hx with hx|⟨y,hy,rfl,rfl⟩
 ·exact h.len x hx
 exact yy2 (h2 y) (h.len y hy)
def DS.Ok.sync{s:DS}{N:Nat}(h:s.Ok N)(f:Int):(s.sync f).1.Ok N:=by
 unfold DS.sync;split
 ·exact h
 split
 ·exact h.cA
 exact h.rS f _ (λx _=>zzj _) (λx=>zzj _)
def DS.Ok.cut{s:DS}{N:Nat}(h:s.Ok N)(f n:Int):(s.cut f n).1.Ok N:=by
 unfold DS.cut;split
 ·exact h
 split
 ·exact h
 split
 ·exact h.cA
 exact h.rS f _ (λx hx=>by simp only[jj,zzg];omega) (λx=>by simp only[jj,zzg];omega)
def DS.Ok.remove{s:DS}{N:Nat}(h:s.Ok N)(f:Int):(s.remove f).1.Ok N:=by
 unfold DS.remove;split
 ·exact h
 split
 ·exact h.cA
 exact h.cA.K9 (Sa h.sorted _) (λx hx=>h.ids x (F' hx)) (λx hx=>h.safe x (F' hx)) (λx hx=>h.len x (F' hx))
def DS.Ok.ed{s:DS}{N:Nat}(h:s.Ok N)(keep:Ω):(s.ed keep).Ok N:=by
 have hm:∀y∈eY s.R keep,∃x∈s.R,∃i,y=iY keep i x:=λy hy=>by
  obtain⟨i,hi,rfl⟩:=xxa.1 hy;unfold eY at *
  simp only[List.length_mapIdx]at hi;exact⟨s.R[i],zzh hi,i,by simp⟩
 refine⟨?_,?_,?_,?_,yyf _,by simp[DS.ed]⟩
 ·show fI PF.id (eY s.R keep);have:=h.sorted;unfold fI at *
  rw[xxr]at *
  intro i j hi hj sD;unfold eY at *
  simp only[List.length_mapIdx]at hi hj;simpa [iY] using this i j hi hj sD
 ·intro y hy;obtain⟨x,hx,i,rfl⟩:=hm y hy;exact h.ids x hx
 ·intro y hy;obtain⟨x,hx,i,rfl⟩:=hm y hy;rw[Cs (h.safe x hx),EG (h.safe x hx)];exact zzj _
 intro y hy;obtain⟨x,hx,i,rfl⟩:=hm y hy;rw[Cs (h.safe x hx)];exact yy2 (x8 (h.safe x hx)) (h.len x hx)
def gP:DS:=⟨[],false,0,0⟩
def DT(N:Nat):gP.Ok N:=⟨.nil,by simp[gP],by simp[gP],by simp[gP],by simp[gP],by simp[gP]⟩
set_option maxRecDepth 100000
open Go.RowKit Go.Maps Go.Sort Go.Shelf
def cB4(m:Nat):AnyZI.SortsIn Tryz.prog Xc Fence.wide m:=
 ⟨λoQ off cap ss W hH hblk fX=>uuk.2 (AnyM.slices_Sort_int W9 oQ off cap ss W hH hblk fX),
  λp cap W=>uuk.2 (AnyM.slices_Sort_int_none W9 p cap W)⟩
def cB5(m:Nat):AnyZI.SortsIn Tryz.prog Xd Fence.wide m:=
 ⟨λoQ off cap ss W hH hblk fX=>uuk.2 (AnyM.slices_Sort_int W_ oQ off cap ss W hH hblk fX),
  λp cap W=>uuk.2 (AnyM.slices_Sort_int_none W_ p cap W)⟩
section
variable {W w:Ζ} {l:Β} {b:Nat} {α:Type} {val:α->Ε} {m:List (Int × α)}
def cAf(hS:SL W l w)(hm:Has (.ob (eE (Value.int .i64) val b m)) l)(hlen:m.length*8<=140737488355328)(xQ:∀p∈m,(Lit.int .i64 p.1).wf=true){K:Ε->Ζ->Prop}
  (h:∀v w',SL W (.ob (bR v 2 1 m.length ((p7 m).map (Value.int .i64)))::l) w'->K v w') :
  aF 83 [.map (some b)] w λv1 w1=>aF 82 [v1] w1 K:=
 U' bYi cB0 cB4 (ttm Tryz.func132 (by kernel_rfl) rfl) (ttm Tryz.func133 (by kernel_rfl) rfl) yy4 hS hm hlen xQ h
def cAg(hS:SL W l w)(hm:Has (.ob (eE (Value.int .i64) val b m)) l)(hlen:m.length*8<=140737488355328)(xQ:∀p∈m,(Lit.int .i64 p.1).wf=true){K:Ε->Ζ->Prop}
  (h:∀v w',SL W (.ob (bR v 3 1 m.length ((p7 m).map (Value.int .i64)))::l) w'->K v w') :
  aF 254 [.map (some b)] w λv1 w1=>aF 253 [v1] w1 K:=
 U' bYk cB1 cB5 (ttm Tryz.func312 (by kernel_rfl) rfl) (ttm Tryz.func313 (by kernel_rfl) rfl) yyc hS hm hlen xQ h
end
set_option maxRecDepth 100000
open Go.RowKit
abbrev SP := Spec Tryz.prog
def md(v:Int)(n:Nat):Nat:=((IntKind.u64.wrap v) % (n:Int)).toNat
def h_(v:Int)(n:Nat)(hn:0<n):md v n<n:=by
 unfold md;have h1:=vve (IntKind.u64.wrap v) (show (n:Int)≠0 by omega);have h2:=uuc (IntKind.u64.wrap v) (show (0:Int)<n by omega);omega
def ya(v:Int)(n:Nat)(h1:0<n)(h2:n<=9223372036854775807):SP 15 [Γ v,Γ (n:Int)] [] (cE (Γ (md v n:Int)) []):=by
 refine Enzz λW F w hS=>?_;apply cFg;unfold Me;have hn:IntKind.u64.wrap (n:Int)=n:=by rw[ww7];omega
 have hv:0<=IntKind.u64.wrap v:=by rw[ww7];omega
 refine zW (zW ?_);rw[hn];refine ZK (by omega) ?_;have e:(IntKind.u64.wrap v).tmod (n:Int)=(md v n:Int):=by
  rw[xx0 hv];unfold md;have:=vve (IntKind.u64.wrap v) (show (n:Int)≠0 by omega);omega
 rw[e];have:=h_ v n h1;refine yy (by omega) ?_;(exact cC hS)
def zO(v:Int)(n:Nat)(h1:0<n)(h2:n<=9223372036854775807):SP 38 [Γ v,Γ (n:Int)] [] (cE (Γ (md v n:Int)) []):=by
 refine Enzz λW F w hS=>?_;apply cKo;unfold Pc;have hn:IntKind.u64.wrap (n:Int)=n:=by rw[ww7];omega
 have hv:0<=IntKind.u64.wrap v:=by rw[ww7];omega
 refine zW (zW ?_);rw[hn];refine ZK (by omega) ?_;have e:(IntKind.u64.wrap v).tmod (n:Int)=(md v n:Int):=by
  rw[xx0 hv];unfold md;have:=vve (IntKind.u64.wrap v) (show (n:Int)≠0 by omega);omega
 rw[e];have:=h_ v n h1;refine yy (by omega) ?_;(exact cC hS)
section
variable {W w:Ζ} {l:Β}
def ze.perm{α:Type}{A:α->zB}{xs ys:List α}(h:SL W (.ob (ze A xs)::l) w)(p:xs.Perm ys):SL W (.ob (ze A ys)::l) w:=
 ze.iff.2 ((ze.iff.1 h).perm ((p.map _).append_right l))
def SL.rL{v:Ε}{t:Ι}{sz n:Nat}{cells:Ξ}(h:SL W l w)(m:Has (.ob (bR v t sz n cells)) l):v.oneCell'=true:=by
 obtain⟨a,cap,rfl,_⟩:=bR.at h m;rfl
def WO{t:Ι}{a:Option Addr}{n c:Nat}{K:Ε->Prop}(h:K (.bool a.isNone)):HEq (.slice t) false (.slice a n c) Θ K:=⟨a.isNone,by cases a<;>rfl,h⟩
end
def bI2{α β:Type}{key:α->Int}{kb:β->Int}{f:β->α}(hf:∀b,key (f b)=kb b)(L:List β)(k:Int):dK key (L.map f) k=(dK kb L k).map f:=by
 unfold dK;rw[JH hf,Cr hf];split
 ·rw[ww2]
 rfl
def vv{α:Type}{key:α->Int}{L:List α}{k:Int}{x:α}(h:dK key L k=some x):L[fq key L k]?=some x/\fq key L k<L.length/\key x=k:=by
 unfold dK at h;split at h
 ·rename_i hi;obtain⟨hl,e⟩:=tL hi;refine⟨h,hl,?_⟩;rw[zzc hl]at h
  cases h;exact e
 cases h
def CK{α:Type}{key:α->Int}{L:List α}{k:Int}:(dK key L k).isSome=iA key L k:=by
 cases h:iA key L k with
 | true=>
  obtain⟨hl,_⟩:=tL h;unfold dK;rw[zzd h,zzc hl];rfl
 | false=>unfold dK;rw[zzb (by rw[h];decide)];rfl
def gq(b:Nat):Ε:=Δ b
abbrev EF:=PF × Nat
def fM(x:EF):Int:=x.1.id
def FR(x:EF):PF.id (Prod.fst x)=fM x:=rfl
abbrev Lg(x:EF)(v:Ε):Β:=[.pt x.2 [v,Γ x.1.safe] 296,.ob (bR v 5 1 x.1.b.length (x.1.b.map cX))]
def eJ(x:EF):zB:=jK λv:Ε=>zG True (Lg x v)
def eJ.iff{W w:Ζ}{x:EF}{l:Β}:SL W (.ob (eJ x)::l) w↔∃v,SL W (.pt x.2 [v,Γ x.1.safe] 296::.ob (bR v 5 1 x.1.b.length (x.1.b.map cX))::l) w:=by
 unfold eJ Lg;simp only[SL.ex,SL.fact,zzv,zzr,uut]
abbrev iH(mb:Nat)(s:DS):Ξ:=[.map (some mb),.bool s.off,Γ s.arm,Γ s.ops]
abbrev Lf(dp:Nat)(s:DS)(mb:Nat)(m:List (Int × Nat)):Β:=[.pt dp (iH mb s) 168,.ob (eE (Value.int .i64) gq mb m)]
structure lW(m:List (Int × Nat))(L:List EF)(R:List PF):Prop where
 rel:ko fM Prod.snd m L
 eq:L.map Prod.fst=R
def bX(dp:Nat)(s:DS):zB:=jK λx:Nat × List (Int × Nat) × List EF=>zG (lW x.2.1 x.2.2 s.R) [.pt dp (iH x.1 s) 168,.ob (eE (Value.int .i64) gq x.1 x.2.1),.ob (ze eJ x.2.2)]
def bX.iff{W w:Ζ}{dp:Nat}{s:DS}{l:Β}:SL W (.ob (bX dp s)::l) w↔∃mb m L,lW m L s.R/\SL W (.pt dp (iH mb s) 168::.ob (eE (Value.int .i64) gq mb m)::.ob (ze eJ L)::l) w:=by
 unfold bX;simp only[SL.ex,SL.fact,zzv,zzr];exact⟨λ⟨x,h1,h2⟩=>⟨x.1,x.2.1,x.2.2,h1,h2⟩,λ⟨mb,m,L,h1,h2⟩=>⟨(mb,m,L),h1,h2⟩⟩
def lW.get{m:List (Int × Nat)}{L:List EF}{R:List PF}(h:lW m L R)(f:Int):fO m f=(dK fM L f).map Prod.snd:=h.rel.get f
def lW.eZ{m:List (Int × Nat)}{L:List EF}{R:List PF}(h:lW m L R)(f:Int):dK PF.id R f=(dK fM L f).map Prod.fst:=by
 rw[<- h.eq];exact bI2 FR L f
def lW.len{m:List (Int × Nat)}{L:List EF}{R:List PF}(h:lW m L R):L.length=R.length:=by rw[<- h.eq,zzn]
def lW.set{m:List (Int × Nat)}{L:List EF}{R:List PF}(h:lW m L R){f:Int}{x:EF}(hx:dK fM L f=some x){y:PF}(hy:y.id=f):lW m (L.set (fq fM L f) (y,x.2)) (fZ PF.id R y):=by
 obtain⟨h1,h2,h3⟩:=vv hx;obtain⟨h4,h5⟩:=zzf.1 h1;refine⟨h.rel.rS h2 (by rw[h5,h3];exact hy) (by rw[h5]),?_⟩;have hi:iA PF.id R y.id=true:=by
  rw[<- CK,hy,h.eZ,hx];rfl
 rw[Gh hi,hy,<- h.eq,Cr FR,vvo]
def lW.new{m:List (Int × Nat)}{L:List EF}{R:List PF}(h:lW m L R){f:Int}(hx:dK fM L f=none){y:PF}(hy:y.id=f)(p:Nat):lW (gI m f p) (fZ fM L (y,p)) (fZ PF.id R y):=by
 have hi:iA fM L (fM (y,p))=false:=by
  rw[<- CK,show fM (y,p)=f from hy,hx];rfl
 have:=h.rel.add (x:=(y,p)) hi;refine⟨by rw[<- hy];exact this,?_⟩;rw[<- h.eq];exact cw0 FR L (y,p)
def lW.del{m:List (Int × Nat)}{L:List EF}{R:List PF}(h:lW m L R)(f:Int):lW (rI m f) (jE fM L f) (jE PF.id R f):=by
 refine⟨h.rel.del f,?_⟩;rw[<- h.eq];exact bwb FR L f
def b_n:SP 40 [] [] (λv post=>∃dp:Nat,v= Δ dp/\post=[.ob (bX dp gP)]):=by
 refine Enzz λW F w hS=>?_;apply cKt;delta Ph ai;refine yW rfl ?_;refine⟨_,rfl,zC (cs:=[.map (some w.heap.size),.bool false,Γ 0,Γ 0]) (SL.JP (key:=Value.int .i64) (val:=gq) hS) ?_⟩;intro dp w' gE;refine⟨_,⟨dp,rfl,rfl⟩,bX.iff.2 ⟨w.heap.size,[],[],⟨ko.nil,rfl⟩,?_⟩⟩;have pR:SL W (.pt dp (iH w.heap.size gP) 168::.ob (eE (Value.int .i64) gq w.heap.size [])::F) w':=gE;have h2:=ze.nil (A:=eJ) pR;exact SL.b_ h2 Xi
def YE(dp mb:Nat)(s:DS)(f:Int):SP 287 [Δ dp,Γ f] [.pt dp (iH mb s) 168] (cE (Γ (may s f)) [.pt dp (iH mb s) 168]):=by
 refine Enzz λW F w hS=>?_;apply cIu;delta Oe aI bU ai;refine Gp ?_;unfold may;refine yT (λh=>?_) (λh=>?_)
 ·rw[zzd h];(exact cC hS)
 rw[zzb (by rw[h];decide)];refine bZ (λh2=>?_) (λh2=>?_)
 ·rw[zzd (.inl h2)];(exact cC hS)
 refine bZ (λh3=>?_) (λh3=>?_)
 ·rw[zzd (.inr h3)];(exact cC hS)
 rw[zzb (by omega)];(exact cC hS)
def CE(s:DS)(m:List (Int × Nat))(f:Int):Ε:=if may s f≠0 then .tuple #[.pointer none,Γ (may s f)] else match fO m f with
 | none=>.tuple #[.pointer none,Γ 5]
 | some p=>.tuple #[gq p,Γ 0]
def y4(dp mb:Nat)(s:DS)(m:List (Int × Nat))(f:Int):SP 289 [Δ dp,Γ f] (Lf dp s mb m) (cE (CE s m f) (Lf dp s mb m)):=by
 refine Enzz λW F w hS=>?_;apply cIw;delta Og aI bU ai cT;refine Cg (YE dp mb s f) λw hS=>?_;unfold CE;refine za (λh=>?_) (λh=>?_)
 ·rw[zzd h];(exact cC hS)
 rw[zzb h];refine Gp ?_;refine yL hS Xh (pg .i64) wwq yyc (λ_=>rfl) ?_;cases hm:fO m f with
 | none=>
  simp only[vvt,ww8];refine Yb (zq ?_);(exact cC hS)
 | some p=>
  simp only[yyh,xxi];unfold gq;refine Yb (zp ?_);(exact cC hS)
def yl(dp mb:Nat)(s:DS)(h0:s.off=false)(h1:0<=s.arm)(h2:s.arm<=9223372036854775807)(h3:s.ops<=100000):SP 288 [Δ dp] [.pt dp (iH mb s) 168]
  (cE (Γ s.cA.err) [.pt dp (iH mb s.cA) 168]):=by
 refine Enzz λW F w hS=>?_;apply cIv;delta Of aI bU cV ai;refine Gn λw hS=>?_;refine za (λh=>?_) (λh=>?_)
 ·refine Gn λw hS=>?_;have e:decide (s.arm-1=0)=decide (s.arm=1):=by congr 1;exact propext ⟨λ_=>by omega,λ_=>by omega⟩
  rw[e];rw[e]at hS
  have hS:SL W (.pt dp (iH mb s.cA) 168::F) w:=by
   simp only[iH,DS.cA,zzd h];exact hS
  unfold DS.err;refine za (λh4=>?_) (λh4=>?_)
  ·rw[zzd (by simp[DS.cA,h4])];(exact cC hS)
  rw[zzb (by simp[DS.cA,h4])];(exact cC hS)
 refine Gp ?_;have ha:¬s.arm=1:=by omega
 have hS:SL W (.pt dp (iH mb s.cA) 168::F) w:=by
  simp only[iH,DS.cA,zzb h,ha,vvf];rw[h0]at hS
  exact hS
 rw[h0];refine zp ?_;have:s.cA.err=0:=by simp[DS.err,DS.cA,ha]
 rw[this];(exact cC hS)
def Ii{α:Type}{enc:α->Ξ}{n:Nat}(hn:∀x,(enc x).length=n):∀(xs:List α) (j k:Nat) (hj:j<xs.length) (x:α) (v:Ε),k<n->(enc xs[j]).set k v=enc x->((xs.map enc).flatten).set (j*n+k) v=((xs.set j x).map enc).flatten
 | y::xs,0,k,_,x,v,hk,h=>by
  simp only[zzo,zz8,List.set_cons_zero,uuj,yye];rw[wwy _ _ (by rw[hn];exact hk)];rw[show (enc y).set k v=enc x from h]
 | y::xs,j+1,k,hj,x,v,hk,h=>by
  simp only[zzo,zz8,List.set_cons_succ];rw[vvv _ _ (by rw[hn,yyx];omega),hn,show (j+1)*n+k-n=j*n+k by rw[yyx];omega,Ii hn xs j k (by simpa using hj) x v hk (by simpa using h)]
def Cb(sz hU:Nat)(z:Ξ)(t ts:Ι)(v0:Ε)(w:Ζ)(R:Ε->Ζ->Prop):Prop:=
 HEq (.slice ts) false v0 (.slice Option.none 0 0) λv4=>
 dm v4
 (R (.slice Option.none 0 0) w)
 (zn (cK z 0) [] t 0 w λv5 px=>
 zx sz hU z t v5 v0 px λv7 sU=>
 R v7 sU)
def HI{W w:Ζ}{F:Β}{sz hU n:Nat}{z cs:Ξ}{t ts:Ι}{v:Ε}{K:Ε->Ζ->Prop}(hv:∃a c,v= .slice a n c)(gU:∀w' c,SL W (c::F) w'->kJ w' sz v n cs)(hl:cs.length=n*sz)(hz:z.length=sz)(h0:0<sz)(h1:∀v∈cs,v.oneCell'=true)(hb:n*hU<=140737488355328)(hn:n<=140737488355328)
  (hS:SL W F w) (h:∀u w',SL W (.ob (bR u t sz n cs)::F) w'->K u w'):Cb sz hU z t ts v w K:=by
 obtain⟨a,c,rfl⟩:=hv;unfold Cb;refine WO ?_;cases a with
 | none=>
  refine zq ?_;have hs:=gU _ _ (bR.nil (t:=t) (sz:=sz) hS);obtain rfl:cs=[]:=hs.2;obtain rfl:n=0:=by
   rw[yym]at hl
   rcases Nat.mul_eq_zero.1 hl.symm with h|h
   ·exact h
   omega
  exact h _ _ (bR.nil hS)
 | some p=>
  refine zp ?_;refine zN hS rfl ?_;intro b w' gE;have pR:SL W (.ob (bR (.slice (some ⟨b,0,none⟩) 0 0) t sz 0 [])::F) w':=bR.full (by simp) (by simpa [cK] using gE);refine zI pR .hd (gU _ _ pR) hl hz h1 (by rw[yye];exact hb) (by omega) ?_;intro u w2 AW;rw[yye,zzr]at AW
  exact h u w2 AW
section
variable {P:Program} {f:FuncId} {sz hU n:Nat} {z cs:Ξ} {t ts:Ι}
def RL(vc:∀v0 w R,Cb sz hU z t ts v0 w R->zQ P f [v0] w R)(hz:z.length=sz)(h0:0<sz){H:bw}{v:Ε}(hv:dq H sz v n cs)(h1:∀v∈cs,v.oneCell'=true)(hb:n*hU<=140737488355328)(hn:n<=140737488355328):
  Spec P f [v] [.mem H] (λu post=>post=[.ob (bR u t sz n cs),.mem H]):=by
 intro W F w hS;have hS:SL W (.mem H::F) w:=hS;exact vc _ _ _ (HI (let ⟨_,a,c,e,_⟩:=hv;⟨a,c,e⟩) (λw' c h=>KE h (.tl .hd) hv) hv.1 hz h0 h1 hb hn hS λu w' hS=>⟨_,rfl,hS⟩)
def aWp(vc:∀v0 w R,Cb sz hU z t ts v0 w R->zQ P f [v0] w R)(hz:z.length=sz)(h0:0<sz){v:Ε}(h1:∀v∈cs,v.oneCell'=true)(hl:cs.length=n*sz)(hb:n*hU<=140737488355328)(hn:n<=140737488355328):
  Spec P f [v] [.ob (bR v t sz n cs)] (λu post=>post=[.ob (bR u t sz n cs),.ob (bR v t sz n cs)]):=by
 intro W F w hS;have hS:SL W (.ob (bR v t sz n cs)::F) w:=hS;exact vc _ _ _ (HI (let ⟨a,c,e,_⟩:=bR.at hS .hd;⟨a,c,e⟩) (λw' c h=>nk h (.tl .hd)) hl hz h0 h1 hb hn hS λu w' hS=>⟨_,rfl,hS⟩)
end
section
variable {W w:Ζ} {l F:Β} {α:Type} {enc:α->Ξ} {t:Ι} {sz:Nat}
def zw{cs:Ξ}{K:Ε->Ζ->Prop}(hS:SL W l w)(h:∀b w,SL W (.pt b cs t::l) w->K (Δ b) w):∃pH:Ξ,Value.agg cs.toArray= .agg pH.toArray/\zh pH t w K:=⟨cs,rfl,zC hS h⟩
def qQ{v:Ε}{n j:Nat}{k:IntKind}{xs:List α}{x:α}{K:Ε->Prop}(h:SL W l w)(m:Has (.ob (dt v t sz n (xs.map enc).flatten)) l)(hn:∀x,(enc x).length=sz)(hx:xs[j]?=some x)(hj:j<n)(hK:K (agg (enc x))):
  zk sz v (.int k (j:Int)) λp=>zg sz p w K:=by
 refine y1 h m hj λb o hb=>⟨⟨b,o,none⟩,enc x,rfl,hn x,λi u hu=>?_,hK⟩;rw[yyd];have hi:i<sz:=by rw[<- hn x];exact (zzf.1 hu).1
 exact hb i u hi (pP hn xs j i x u hx hu)
def qN{x:Ε}{hU n b:Nat}{z:Ξ}{xs:List α}{y:α}{K:Ε->Ζ->Prop}(hS:SL W l w)(hr:gd (.ob (dt x t sz n (xs.map enc).flatten)) l F)(hm:Has (.pt b (enc y) t) l)(hn:∀x,(enc x).length=sz)(h1:∀x,∀v∈enc x,v.oneCell'=true)(hz:z.length=sz)(hl:xs.length=n)(hb:(n+1)*hU<=140737488355328)(I8:n+1<=140737488355328)
  (h:∀v' w',SL W (.ob (dt v' t sz (n+1) ((xs++[y]).map enc).flatten)::F) w'->K v' w'):zx sz hU z t x (.slice (some ⟨b,0,none⟩) 1 1) w K:=
 ZP hS hr (kf hS hm (by rw[hn,wwx])) (by rw[hn,wwx]) hz (h1 y) hb I8 λv' w' hS=>h v' w' (by rw[vt];exact hS)
def yx{x:Ε}{hU n b:Nat}{z:Ξ}{xs:List α}{y:α}{K:Ε->Ζ->Prop}(hS:SL W l w)(hr:gd (.ob (bR x t sz n (xs.map enc).flatten)) l F)(hm:Has (.pt b (enc y) t) l)(hn:∀x,(enc x).length=sz)(h1:∀x,∀v∈enc x,v.oneCell'=true)(hz:z.length=sz)(hb:(n+1)*hU<=140737488355328)(I8:n+1<=140737488355328)
  (h:∀v' w',SL W (.ob (bR v' t sz (n+1) ((xs++[y]).map enc).flatten)::F) w'->K v' w'):zx sz hU z t x (.slice (some ⟨b,0,none⟩) 1 1) w K:=
 zI hS hr (kf hS hm (by rw[hn,wwx])) (by rw[hn,wwx]) hz (h1 y) hb I8 λv' w' hS=>h v' w' (by rw[vt];exact hS)
def SL.p8{v:Ε}{cs:Ξ}{xs:List α}{x:α}(hS:SL W (.ob (bR v t sz (xs.length+1) cs)::l) w):SL W (.ob (bR v t sz (xs++[x]).length cs)::l) w:=by
 rw[zza,yya];exact hS
def SL.Kr{H:bw}{b n:Nat}{cs:Ξ}(hS:SL W l w)(hp:gC [.mem H,.pt b cs t] l F)(hl:cs.length=n*sz):∃H',H.le H'/\dq H' sz (.slice (some ⟨b,0,none⟩) n n) n cs/\SL W (.mem H'::F) w:=by
 have hS:=hS.pick hp;exact bR.freeze ((bR.full hl (hS.perm (.swap _ _ _))).perm (.swap _ _ _))
end
def BW(a b:Int):Int:=IntKind.u32.wrap ((BitVec.ofInt IntKind.u32.bits a ^^^ BitVec.ofInt IntKind.u32.bits b).toNat)
def Rf(a b:Int):Int:=IntKind.u32.wrap ((BitVec.ofInt IntKind.u32.bits a &&& BitVec.ofInt IntKind.u32.bits b).toNat)
def EE(a:Int):Int:=IntKind.u32.wrap ((BitVec.ofInt IntKind.u32.bits IntKind.u32.max ^^^ BitVec.ofInt IntKind.u32.bits a).toNat)
def Ew(c:Int):Int:=if Rf c 1=1 then BW (c.fdiv (2 ^ 1)) 3988292384 else c.fdiv (2 ^ 1)
def Cm:Nat->Int->Int
 | 0,c=>c
 | n+1,c=>Ew (Cm n c)
def KL(c:Int)(b:Κ):Int:=Cm 8 (BW c (b.toNat:Int))
def vV(s:Int)(b:Φ):Int:=EE (b.foldl KL (EE s))
def gW(n:Int):Κ:=UInt8.ofNat (n % 256).toNat
def bZc(n:Int):cX (gW n)= .int .u8 (IntKind.u8.wrap n):=by
 unfold cX gW;congr 1;rw[UInt8.toNat_ofNat'];simp only[IntKind.wrap,IntKind.bits,IntKind.signed];have h1:=vve n (show (256:Int)≠0 by omega);have h2:=uuc n (show (0:Int)<256 by omega);simp;omega
def four(x:Int):Φ:=[gW (x.fdiv (2 ^ 24)),gW (x.fdiv (2 ^ 16)),gW (x.fdiv (2 ^ 8)),gW x]
def AR(x:Int):(four x).length=4:=rfl
def sumOf(p:Φ):Int:=vV (vV 0 (four p.length)) p
def da(p:Φ):Φ:=four p.length++four (sumOf p)++p
def kI(p:Φ):(da p).length=8+p.length:=by simp[da,AR];omega
def jg(b:Φ):Nat:=((b.getD 0 0).toNat*16777216+(b.getD 1 0).toNat*65536)+(b.getD 2 0).toNat*256+(b.getD 3 0).toNat
def gY(b:Φ):Except Int (Φ × Nat):=
 if b.length<8 then .error 2
 else if 1048576<jg b then .error 3
 else if b.length<8+jg b then .error 2
 else if four (sumOf ((b.drop 8).take (jg b)))≠(b.drop 4).take 4 then .error 4
 else .ok ((b.drop 8).take (jg b),8+jg b)
def rO:Nat->Φ->List Φ × Nat
 | 0,_=>([],0)
 | f+1,b=>match gY b with
  | .ok (p,n)=>(p::(rO f (b.drop n)).1,n+(rO f (b.drop n)).2)
  | .error _=>([],0)
def b_4(b:Φ):jg b<4294967296:=by
 unfold jg;have h:∀i,(b.getD i 0).toNat<256:=λi=>UInt8.toNat_lt _;have:=h 0;have:=h 1;have:=h 2;have:=h 3;omega
def JO(n:Nat):(gW (n:Int)).toNat=n % 256:=by
 unfold gW;rw[UInt8.toNat_ofNat'];omega
def Cz(n k:Nat)(hk:0<k):(n:Int).fdiv (k:Int)=((n / k:Nat):Int):=by
 rw[vvy _ (by omega)];exact (Int.natCast_ediv n k).symm
def b_3(n:Nat)(r:Φ)(h:n<4294967296):jg (four n++r)=n:=by
 unfold jg four;have e1:((n:Int).fdiv (2 ^ 24))=((n / 16777216:Nat):Int):=Cz n 16777216 (by decide);have e2:((n:Int).fdiv (2 ^ 16))=((n / 65536:Nat):Int):=Cz n 65536 (by decide);have e3:((n:Int).fdiv (2 ^ 8))=((n / 256:Nat):Int):=Cz n 256 (by decide);rw[e1,e2,e3];simp only[zzv,zzr,List.getD_cons_zero,List.getD_cons_succ,JO];omega
def b_5{b:Φ}{k:Nat}(h:4<=k):jg (b.take k)=jg b:=by
 unfold jg;have e:∀i,i<4->(b.take k).getD i 0=b.getD i 0:=λi hi=>by
  rw[vva,vva,uud,zzd (by omega)]
 rw[e 0 (by omega),e 1 (by omega),e 2 (by omega),e 3 (by omega)]
def Ww{p r:Φ}(h:p.length<=1048576):jg (da p++r)=p.length:=by
 unfold da;rw[zzk,zzk];exact b_3 p.length _ (by omega)
def KU{p r:Φ}(h:p.length<=1048576):gY (da p++r)= .ok (p,8+p.length):=by
 have hn:=Ww (r:=r) h;have hl:(da p++r).length=8+p.length+r.length:=by rw[zza,kI]
 have hd8:((da p++r).drop 8).take p.length=p:=by
  unfold da;rw[show (8:Nat)=(four p.length++four (sumOf p)).length by simp[AR],zzk (four (p.length:Int)++four (sumOf p)) p r,wwz];exact ww0
 have hd4:((da p++r).drop 4).take 4=four (sumOf p):=by
  unfold da;rw[zzk,zzk,show (4:Nat)=(four (p.length:Int)).length by simp[AR],wwz,show (four (p.length:Int)).length=(four (sumOf p)).length from rfl];exact ww0
 unfold gY;rw[hn,zzb (by omega),zzb (by omega),zzb (by omega),hd8,hd4,zzb (by simp)]
def Xz{p:Φ}(h:p.length<=1048576){k:Nat}(hk:k<8+p.length):∃e,gY ((da p).take k)= .error e/\e≠0:=by
 have hl:((da p).take k).length=k:=by rw[zzg,kI];omega
 unfold gY;rw[hl];by_cases h8:k<8
 ·rw[zzd h8];exact⟨2,rfl,by decide⟩
 rw[zzb h8,b_5 (by omega)];have hn:=Ww (r:=[]) h;rw[zz1]at hn
 rw[hn,zzb (by omega),zzd hk];exact⟨2,rfl,by decide⟩
def XB:gY []= .error 2:=rfl
def GA{f:Nat}{b p:Φ}{n:Nat}(h:gY b= .ok (p,n)):rO (f+1) b=(p::(rO f (b.drop n)).1,n+(rO f (b.drop n)).2):=by simp only[rO,h]
def Gz{f:Nat}{b:Φ}{e:Int}(h:gY b= .error e):rO (f+1) b=([],0):=by simp only[rO,h]
def d_(ps:List Φ):Φ:=(ps.map da).flatten
def nj(p:Φ)(ps:List Φ):d_ (p::ps)=da p++d_ ps:=by simp[d_]
def Wy(ps:List Φ)(p:Φ):d_ (ps++[p])=d_ ps++da p:=by simp[d_]
def czd(ps qs:List Φ):d_ (ps++qs)=d_ ps++d_ qs:=by simp[d_]
def W1:∀(ps:List Φ) (r:Φ) (f:Nat),(∀p∈ps,p.length<=1048576)->(∃e,gY r= .error e)->ps.length<f->rO f (d_ ps++r)=(ps,(d_ ps).length)
 | [],r,f+1,_,⟨e,he⟩,_=>by
  rw[show d_ []++r=r from rfl,Gz he];rfl
 | p::ps,r,f+1,hp,he,hf=>by
  have rB:=hp p (.head _);have ih:=W1 ps r f (λq hq=>hp q (.tail _ hq)) he (Nat.lt_of_succ_lt_succ hf);rw[nj,zzk,GA (KU rB),<- kI,wwz,ih,zza]
def D0{b p:Φ}{n:Nat}(h:gY b= .ok (p,n)):8<=n/\n<=b.length/\p.length<=1048576/\n=8+p.length/\p=(b.drop 8).take p.length:=by
 unfold gY at h;split at h
 ·cases h
 split at h
 ·cases h
 split at h
 ·cases h
 split at h
 ·cases h
 rename_i h1 h2 h3 h4;have h:=Except.ok.inj h;generalize jg b=k at *
 cases h;have:((b.drop 8).take k).length=k:=by rw[zzg,zzq];omega
 exact⟨by omega,by omega,by omega,by omega,by rw[this]⟩
def XA{b:Φ}{e:Int}(h:gY b= .error e):e=2\/e=3\/e=4:=by
 unfold gY at h;split at h
 ·cases h;simp
 split at h
 ·cases h;simp
 split at h
 ·cases h;simp
 split at h
 ·cases h;simp
 cases h
def WZ:∀(f g:Nat) (b:Φ),b.length<f->b.length<g->rO f b=rO g b
 | f+1,g+1,b,hf,hg=>by
  cases h:gY b with
  | error e=>rw[Gz h,Gz h]
  | ok x=>
   obtain⟨p,n⟩:=x;have:=D0 h;rw[GA h,GA h,WZ f g (b.drop n) (by rw[zzq];omega) (by rw[zzq];omega)]
def jo(b:Φ):List Φ × Nat:=rO (b.length+1) b
def Gy{b p:Φ}{n:Nat}(h:gY b= .ok (p,n)):jo b=(p::(jo (b.drop n)).1,n+(jo (b.drop n)).2):=by
 have:=D0 h;unfold jo;rw[GA h,WZ b.length ((b.drop n).length+1) (b.drop n) (by rw[zzq];omega) (by omega)]
def DV{b:Φ}{e:Int}(h:gY b= .error e):jo b=([],0):=Gz h
def cBb(f:Nat):∀b:Φ,b.length<f->(jo b).2<=b.length:=by
 induction f with
 | zero=>intro b h;omega
 | succ f ih=>
  intro b hb;cases h:gY b with
  | error e=>rw[DV h];exact zz9 _
  | ok x=>
   obtain⟨p,n⟩:=x;have h2:=D0 h;have:=ih (b.drop n) (by rw[zzq];omega);rw[Gy h];rw[zzq]at this
   show n+_<=_;omega
def Wx:∀ps:List Φ,ps.length*8<=(d_ ps).length
 | []=>by simp
 | p::ps=>by
  have:=Wx ps;rw[nj,zza,kI,zzi];omega
def cBd(ps:List Φ)(r:Φ)(hp:∀p∈ps,p.length<=1048576)(he:∃e,gY r= .error e):jo (d_ ps++r)=(ps,(d_ ps).length):=by
 refine W1 ps r _ hp he ?_;have:=Wx ps;rw[zza];omega
structure dE where
 kind:Int
 n:Int
 s:Η
def gj(x:dE):Ξ:=[Γ x.kind,Γ x.n,.string x.s]
def wY:dE:=⟨0,0,⟨#[]⟩⟩
def eV(x:Int):Nat->Φ
 | 0=>[]
 | n+1=>gW (x.fdiv (2 ^ (8*n)))::eV x n
def lQ(x:Int):∀n,(eV x n).length=n
 | 0=>rfl
 | n+1=>by simp[eV,lQ x n]
def oJ(x:dE):Bool:=if x.kind=1 then decide (x.s=⟨#[]⟩) else if x.kind=2 then decide (x.n=0) && decide (x.s.size<=4096) else false
def wk(n:Int):Int:=n % 18446744073709551616
def fy(x:dE):Φ:=if x.kind=1 then gW x.kind::eV (wk x.n) 8 else gW x.kind::(eV x.s.size 2++x.s.data.toList)
def ou(l:List dE):Except Int Φ:=if 32767<l.length then .error 1 else if l.all oJ then .ok (eV l.length 2++(l.map fy).flatten) else .error 1
structure jr where
 b:Φ
 e:Int
def gO(n:Nat)(r:jr):Φ × jr:=if r.e≠0 then ([],r) else if r.b.length<n then ([],{r with e:=2}) else (r.b.take n,{r with b:=r.b.drop n})
def iU(b:Φ):Nat:=b.foldl (λx c=>(x*256+c.toNat) % 18446744073709551616) 0
def fQ(n:Nat)(r:jr):Nat × jr:=(iU (gO n r).1,(gO n r).2)
def gN(m:Nat)(r:jr):Nat × jr:=if m<(fQ 2 r).1 then (0,{(fQ 2 r).2 with e:=3}) else fQ 2 r
def sig(n:Nat):Int:=if n<9223372036854775808 then n else (n:Int)-18446744073709551616
def iJ(r:jr):dE × jr:=
 if (fQ 1 r).1=1 then (⟨1,sig (fQ 8 (fQ 1 r).2).1,⟨#[]⟩⟩,(fQ 8 (fQ 1 r).2).2)
 else if (fQ 1 r).1=2 then (⟨2,0,⟨(gO (gN 4096 (fQ 1 r).2).1 (gN 4096 (fQ 1 r).2).2).1.toArray⟩⟩,(gO (gN 4096 (fQ 1 r).2).1 (gN 4096 (fQ 1 r).2).2).2)
 else (wY,if (fQ 1 r).2.e=0 then {(fQ 1 r).2 with e:=3} else (fQ 1 r).2)
def ik:Nat->jr->List dE × jr
 | 0,r=>([],r)
 | i+1,r=>if r.e=0 then ((iJ r).1::(ik i (iJ r).2).1,(ik i (iJ r).2).2) else ([],r)
def jD(b:Φ):Except Int (List dE):=
 let m:=gN 32767 ⟨b,0⟩
 let x:=ik m.1 m.2
 let e:=if x.2.e=0 then if 0<x.2.b.length then 3 else 0 else x.2.e
 if e=0 then .ok x.1 else .error e
def dP(n:Nat):Φ:=[0,1,1]++eV n 8
def AZ(n:Nat):(dP n).length=11:=by simp[dP,lQ]
def aRd(x:Nat)(b:Φ)(c:Κ)(h:iU b=x):iU (b++[c])=(x*256+c.toNat) % 18446744073709551616:=by
 unfold iU at *
 rw[ww3,h];rfl
def VU{n:Nat}(h:n<1152921504606846976):iU (eV n 8)=n:=by
 have f:∀k,((n:Int).fdiv (2 ^ (8*k)))=((n / 2 ^ (8*k):Nat):Int):=λk=>by
  have:=Cz n (2 ^ (8*k)) (Nat.two_pow_pos _);rw[<- this];push_cast;rfl
 unfold eV eV eV eV eV eV eV eV eV;simp only[f,iU,xxo,ttj,JO,show (2:Nat) ^ (8*7)=72057594037927936 from rfl,show (2:Nat) ^ (8*6)=281474976710656 from rfl,show (2:Nat) ^ (8*5)=1099511627776 from rfl,
  show (2:Nat) ^ (8*4)=4294967296 from rfl,show (2:Nat) ^ (8*3)=16777216 from rfl,show (2:Nat) ^ (8*2)=65536 from rfl,show (2:Nat) ^ (8*1)=256 from rfl,show (2:Nat) ^ (8*0)=1 from rfl]
 omega
def b_q{x y:Φ}{n:Nat}(h:x.length=n):gO n ⟨x++y,0⟩=(x,⟨y,0⟩):=by
 subst h;unfold gO;rw[zzb (by simp),zzb (by simp)];simp
def J2{x y:Φ}{n:Nat}(h:x.length=n):fQ n ⟨x++y,0⟩=(iU x,⟨y,0⟩):=by
 unfold fQ;rw[b_q h]
def a_x{n:Nat}(h:n<1152921504606846976):jD (dP n)= .ok [⟨1,n,⟨#[]⟩⟩]:=by
 have h8:=VU h;have hl:=lQ (n:Int) 8;unfold dP;generalize eV (n:Int) 8=y at *
 have e1:gN 32767 ⟨[0,1,1]++y,0⟩=(1,⟨[1]++y,0⟩):=by
  have:fQ 2 ⟨[0,1]++([1]++y),0⟩=(1,⟨[1]++y,0⟩):=J2 rfl;unfold gN;rw[show ([0,1,1]++y:Φ)=[0,1]++([1]++y) from rfl,this,zzb (by show ¬32767<1;omega)]
 have e3:fQ 1 ⟨[1]++y,0⟩=(1,⟨y,0⟩):=J2 rfl;have e4:fQ 8 ⟨y,0⟩=(n,⟨[],0⟩):=by
  have:=J2 (x:=y) (y:=[]) hl;rw[zz1,h8]at this;exact this
 have e2:iJ ⟨[1]++y,0⟩=(⟨1,n,⟨#[]⟩⟩,⟨[],0⟩):=by
  unfold iJ;rw[e3,zzd rfl,e4,sig,zzd (by omega)]
 have e5:ik 1 ⟨[1]++y,0⟩=([⟨1,n,⟨#[]⟩⟩],⟨[],0⟩):=by
  show (if (0:Int)=0 then _ else _)=_;rw[zzd rfl,e2];rfl
 unfold jD;simp only[e1,e5];rfl
def Fl(l:List dE):Option Int:=match l with
 | [f]=>if f.kind=1/\1<=f.n/\f.n<=1099511627776 then some f.n else none
 | _=>none
def pc(b:Φ):Option Int:=match jD b with
 | .ok l=>Fl l
 | .error _=>none
def TD{n:Nat}(h1:1<=n)(h:n<=1099511627776):pc (dP n)=some (n:Int):=by
 unfold pc;rw[a_x (by omega)];show (if (1:Int)=1/\1<=(n:Int)/\(n:Int)<=1099511627776 then some (n:Int) else none)=_;rw[zzd ⟨rfl,by omega,by omega⟩]
def gX(q:Φ):Option (Int × List Φ × Nat):=match (jo q).1 with
 | []=>none
 | h::l=>(pc h).map λn=>(n,l,(jo q).2)
def oS(l:List dE)(i:Nat)(r:jr):Except Int (List dE):=
 if (ik i r).2.e=0 then (if 0<(ik i r).2.b.length then .error 3 else .ok (l++(ik i r).1)) else .error (ik i r).2.e
def bId:∀(i:Nat) (r:jr),r.e≠0->ik i r=([],r)
 | 0,r,_=>rfl
 | i+1,r,h=>by rw[ik,zzb h]
def EI{l:List dE}{i:Nat}{r:jr}(h:r.e≠0):oS l i r= .error r.e:=by
 unfold oS;rw[bId i r h,zzb h]
def a_0(l:List dE)(b:Φ):oS l 0 ⟨b,0⟩=if 0<b.length then .error 3 else .ok l:=by
 unfold oS ik;rw[zzd rfl,zz1]
def R5(l:List dE)(i:Nat)(b:Φ):oS l (i+1) ⟨b,0⟩=oS (l++[(iJ ⟨b,0⟩).1]) i (iJ ⟨b,0⟩).2:=by
 unfold oS;have e:ik (i+1) ⟨b,0⟩=((iJ ⟨b,0⟩).1::(ik i (iJ ⟨b,0⟩).2).1,(ik i (iJ ⟨b,0⟩).2).2):=by rw[ik,zzd rfl]
 rw[e];simp only[zzk,zzv,zzr]
def VM{b:Φ}{n:Nat}(h:n<=b.length):gO n ⟨b,0⟩=(b.take n,⟨b.drop n,0⟩):=by
 unfold gO;rw[zzb (by simp),zzb (by show ¬b.length<n;omega)]
def VN{b:Φ}{n:Nat}(h:b.length<n):gO n ⟨b,0⟩=([],⟨b,2⟩):=by
 unfold gO;rw[zzb (by simp),zzd (by show b.length<n;omega)]
def DJ{b:Φ}{n:Nat}(h:n<=b.length):fQ n ⟨b,0⟩=(iU (b.take n),⟨b.drop n,0⟩):=by unfold fQ;rw[VM h]
def VV{b:Φ}{n:Nat}(h:b.length<n):fQ n ⟨b,0⟩=(0,⟨b,2⟩):=by unfold fQ;rw[VN h];rfl
def a_w{b:Φ}(h:2<=b.length)(hn:iU (b.take 2)<=32767):jD b=oS [] (iU (b.take 2)) ⟨b.drop 2,0⟩:=by
 have e:gN 32767 ⟨b,0⟩=(iU (b.take 2),⟨b.drop 2,0⟩):=by unfold gN;rw[DJ h,zzb (by show ¬32767<iU (b.take 2);omega)]
 unfold jD oS;simp only[e,zzr];by_cases h1:(ik (iU (b.take 2)) ⟨b.drop 2,0⟩).2.e=0
 ·rw[zzd h1,zzd h1];by_cases h2:0<(ik (iU (b.take 2)) ⟨b.drop 2,0⟩).2.b.length
  ·rw[zzd h2,zzd h2,zzb (by decide)]
  rw[zzb h2,zzb h2,zzd rfl]
 rw[zzb h1,zzb h1,zzb h1]
def VS(k:Κ)(b:Φ):fQ 1 ⟨k::b,0⟩=(k.toNat,⟨b,0⟩):=by
 rw[DJ (by simp)];have:=k.toNat_lt;simp only[xxx,uu2,uuz,List.drop_zero,iU,xxo,ttj];rw[show (0*256+k.toNat) % 18446744073709551616=k.toNat by omega]
def a_y{l:List dE}{i:Nat}{k:Κ}{b:Φ}(hk:k.toNat=1):oS l (i+1) ⟨k::b,0⟩=if b.length<8 then .error 2 else oS (l++[⟨1,sig (iU (b.take 8)),⟨#[]⟩⟩]) i ⟨b.drop 8,0⟩:=by
 rw[R5];unfold iJ;rw[VS,zzd hk];by_cases h:b.length<8
 ·simp only[VV h];rw[zzd h,EI (by simp)]
 simp only[DJ (wwr.1 h)];rw[zzb h]
def a_z{l:List dE}{i:Nat}{k:Κ}{b:Φ}(hk:k.toNat=2):oS l (i+1) ⟨k::b,0⟩=if b.length<2 then .error 2 else if 4096<iU (b.take 2) then .error 3 else if b.length-2<iU (b.take 2) then .error 2 else
  oS (l++[⟨2,0,⟨((b.drop 2).take (iU (b.take 2))).toArray⟩⟩]) i ⟨(b.drop 2).drop (iU (b.take 2)),0⟩:=by
 rw[R5];unfold iJ;rw[VS,zzb (by omega),zzd hk];by_cases h:b.length<2
 ·have e:gN 4096 ⟨b,0⟩=(0,⟨b,2⟩):=by unfold gN;rw[VV h,zzb (by simp)]
  have e2:gO 0 ⟨b,2⟩=([],⟨b,2⟩):=by unfold gO;rw[zzd (by simp)]
  simp only[e,e2];rw[zzd h,EI (by simp)]
 rw[zzb h];by_cases h2:4096<iU (b.take 2)
 ·have e:gN 4096 ⟨b,0⟩=(0,⟨b.drop 2,3⟩):=by unfold gN;rw[DJ (wwr.1 h),zzd h2]
  have e2:gO 0 ⟨b.drop 2,3⟩=([],⟨b.drop 2,3⟩):=by unfold gO;rw[zzd (by simp)]
  simp only[e,e2];rw[zzd h2,EI (by simp)]
 have e:gN 4096 ⟨b,0⟩=(iU (b.take 2),⟨b.drop 2,0⟩):=by unfold gN;rw[DJ (wwr.1 h),zzb h2]
 simp only[e];rw[zzb h2];by_cases h3:b.length-2<iU (b.take 2)
 ·rw[VN (by rw[zzq];exact h3),zzd h3,EI (by simp)]
 rw[VM (by rw[zzq];omega),zzb h3]
structure Rq where
 id:Int
 table:Int
 weight:Int
 at_:Int
 dA:Int
 chunks:Int
 done:Bool
deriving DecidableEq
def iI(r:Rq):Ξ:=[Γ r.id,Γ r.table,Γ r.weight,Γ r.at_,Γ r.dA,Γ r.chunks,.bool r.done]
def nK(r:Rq):(iI r).length=7:=rfl
def EO(r:Rq):∀v∈iI r,v.oneCell'=true:=by simp[iI,Value.oneCell']
abbrev ji(H:bw)(v:Ε)(L:List Rq):Prop:=dq H 7 v L.length (L.map iI).flatten
def Ru(late t:Int):Int:=IntKind.i64.wrap ((BitVec.ofInt IntKind.i64.bits (late.fdiv (2 ^ (min t.toNat IntKind.i64.bits))) &&& BitVec.ofInt IntKind.i64.bits 1).toNat)
def czw{k:IntKind}{a b:Int}{K:Ε->Prop}(hb:0<=b)(h:K (Γ (Ru a b))):zc .shr (Γ a) (.int k b) λv=>zc .and v (Γ 1) K:=by
 refine⟨Γ (a.fdiv (2 ^ (min b.toNat IntKind.i64.bits))),?_,⟨_,?_,h⟩⟩
 ·simp only[jA];rw[zzb (by omega)]
 simp only[jA,wwj];rfl
structure ix where
 kind:Int
 id:Int
 table:Int
 weight:Int
 at_:Int
 dA:Int
 done:Bool
deriving DecidableEq
structure cD where
 aw:Int
 ops:List gr
 notes:List ix
def kO(n:ix):Ξ:=[Γ n.kind,Γ n.id,Γ n.table,Γ n.weight,Γ n.at_,Γ n.dA,.bool n.done]
def wU(n:ix):(kO n).length=7:=rfl
def emp:Η:=⟨#[]⟩
def kU(o:gr)(aw:Int):Bool:=decide (1<=o.aw/\o.aw<=aw/\0<=o.table/\o.table<8/\1<=o.key/\o.key<=1099511627776/\o.val.size<=32/\(o.gone=true->o.val=emp))
def jm(n:ix)(aw:Int):Bool:=decide (1<=n.id/\n.id<=64 /\
 ((n.kind=1/\0<=n.table/\n.table<8/\1<=n.weight/\n.weight<=8/\1<=n.at_/\n.at_<=aw/\n.dA=0/\n.done=false)\/(n.kind=2/\n.table=0/\n.weight=0/\n.at_=0/\0<=n.dA/\n.dA<=1099511627776)))
def eC(x:cD):Bool:=decide (1<=x.aw/\x.aw<=1099511627776/\x.ops.length<=4096/\x.notes.length<=256) && x.ops.all (λo=>kU o x.aw) && x.notes.all (λn=>jm n x.aw)
def iF(n:Int):dE:=⟨1,n,emp⟩
def tF(s:Η):dE:=⟨2,0,s⟩
def g_(b:Bool):Int:=if b=true then 1 else 0
def pO(o:gr):List dE:=[iF o.aw,iF o.table,iF o.key,iF (g_ o.gone),tF o.val]
def pN(n:ix):List dE:=[iF n.kind,iF n.id,iF n.table,iF n.weight,iF n.at_,iF n.dA,iF (g_ n.done)]
def kZ(x:cD):List dE:=[iF x.aw,iF x.ops.length]++(x.ops.map pO).flatten++([iF x.notes.length]++(x.notes.map pN).flatten)
def uj(x:cD):Except Int Φ:=if eC x=true then ou (kZ x) else .error 1
structure cY where
 l:List dE
 bad:Bool
def p5(k:Int)(r:cY):dE × cY:=match r.bad,r.l with
 | false,f::l=>if f.kind=k then (f,⟨l,false⟩) else (wY,⟨f::l,true⟩)
 | _,l=>(wY,⟨l,true⟩)
def fz(r:cY):Int × cY:=((p5 1 r).1.n,(p5 1 r).2)
def pq(r:cY):Η × cY:=((p5 2 r).1.s,(p5 2 r).2)
def dC(m:Int)(r:cY):Int × cY:=if (fz r).1<0\/m<(fz r).1 then (0,{(fz r).2 with bad:=true}) else fz r
def s8(r:cY):Bool × cY:=(decide ((dC 1 r).1=1),(dC 1 r).2)
def nV(r:cY):gr × cY:=
 let a:=fz r;let b:=dC 8 a.2;let c:=fz b.2;let d:=s8 c.2;let e:=pq d.2
 (⟨a.1,b.1,c.1,d.1,e.1⟩,e.2)
def ph(r:cY):ix × cY:=
 let a:=dC 2 r;let b:=dC 64 a.2;let c:=dC 8 b.2;let d:=dC 8 c.2;let e:=fz d.2;let f:=fz e.2;let g:=s8 f.2
 (⟨a.1,b.1,c.1,d.1,e.1,f.1,g.1⟩,g.2)
def iV{α:Type}(one:cY->α × cY):Nat->cY->List α × cY
 | 0,r=>([],r)
 | i+1,r=>if r.bad=true then ([],r) else ((one r).1::(iV one i (one r).2).1,(iV one i (one r).2).2)
def nS(r:cY):cD × cY:=
 let a:=fz r;let n:=dC 4096 a.2;let os:=iV nV n.1.toNat n.2;let m:=dC 256 os.2;let ns:=iV ph m.1.toNat m.2
 (⟨a.1,os.1,ns.1⟩,ns.2)
def AB(l:List dE):Option cD:=
 let x:=nS ⟨l,false⟩
 if x.2.bad=false/\x.2.l=[]/\eC x.1=true then some x.1 else none
def nH(b:Φ):Except Int cD:=match jD b with
 | .error e=>.error e
 | .ok l=>match AB l with
  | some x=>.ok x
  | none=>.error 3
def vZ(i:Nat)(r:Rq):Prop:=r.id=(i:Int)+1/\0<=r.table/\r.table<8/\1<=r.weight/\r.weight<=8/\1<=r.at_/\r.at_<=1099511627776/\0<=r.dA/\r.dA<=1099511627776/\0<=r.chunks/\r.chunks<=1099511627776
def D'(L:List Rq)(i:Nat):Prop:=∀h:i<L.length,vZ i L[i]/\(∀h0:0<i,L[i-1].at_<=L[i].at_)/\∀k (hk:k<i),¬(L[k].table=L[i].table/\L[k].done=false)
def gk(L:List Rq):Prop:=L.length<=64/\∀i,D' L i
instance (i:Nat) (r:Rq):Decidable (vZ i r):=by unfold vZ;infer_instance
def gk.fin{L:List Rq}:gk L↔L.length<=64/\∀i:Fin L.length,vZ i.1 L[i.1]/\(0<i.1->(L[i.1-1]'(by omega)).at_<=L[i.1].at_)/\∀k:Fin i.1,¬((L[k.1]'(by omega)).table=L[i.1].table/\(L[k.1]'(by omega)).done=false):=
 ⟨λh=>⟨h.1,λi=>⟨(h.2 i.1 i.2).1,(h.2 i.1 i.2).2.1,λk=>(h.2 i.1 i.2).2.2 k.1 k.2⟩⟩,
  λh=>⟨h.1,λi hi=>⟨(h.2 ⟨i,hi⟩).1,(h.2 ⟨i,hi⟩).2.1,λk hk=>(h.2 ⟨i,hi⟩).2.2 ⟨k,hk⟩⟩⟩⟩
instance (L:List Rq):Decidable (gk L):=decidable_of_iff _ gk.fin.symm
def czs(L:List Rq):∀v∈(L.map iI).flatten,v.oneCell'=true:=tR EO L
def x_(L:List Rq)(t w a:Int):Rq:=⟨((L.length+1:Nat):Int),t,w,a,0,0,false⟩
def pD(L:List Rq)(t w a:Int):Option (List Rq):=if gk L/\gk (L++[x_ L t w a]) then some (L++[x_ L t w a]) else none
def l6(L:List Rq)(id c:Int)(dn:Bool):Option (List Rq):=
 if gk L/\1<=id/\id<=L.length then match L[(id-1).toNat]? with
  | some r=>if r.done=true\/c<r.dA\/1099511627776<c\/1099511627776<=r.chunks then none else some (L.set (id-1).toNat {r with dA:=c,chunks:=r.chunks+1,done:=dn})
  | none=>none
 else none
def aWl{L:List Rq}(hM:gk L){j:Nat}(hj:j<L.length)(c:Int)(dn:Bool):l6 L ((j+1:Nat):Int) c dn =
  if L[j].done=true\/c<L[j].dA\/1099511627776<c\/1099511627776<=L[j].chunks then none else some (L.set j {L[j] with dA:=c,chunks:=L[j].chunks+1,done:=dn}):=by
 unfold l6;have e:(((j+1:Nat):Int)-1).toNat=j:=by omega
 rw[zzd ⟨hM,by omega,by omega⟩,e,zzc hj]
def aWn{L:List Rq}{id c:Int}{dn:Bool}(h:¬(gk L/\1<=id/\id<=L.length)):l6 L id c dn=none:=zzb h
def Cj{L L':List Rq}{t w a:Int}(h:pD L t w a=some L'):gk L':=by
 unfold pD at h;split at h
 ·rename_i hm;cases h;exact hm.2
 cases h
def EA{L L':List Rq}{id c:Int}{dn:Bool}(h:l6 L id c dn=some L'):gk L':=by
 unfold l6 at h;split at h
 ·rename_i hm;obtain⟨hM,h1,h2⟩:=hm;split at h
  ·rename_i r hr;split at h
   ·cases h
   rename_i hc;cases h;generalize (id-1).toNat=j at *
   obtain⟨hj,hr⟩:=zzf.1 hr;refine⟨by rw[yyj];exact hM.1,λi hi=>?_⟩;rw[yyj]at hi
   have il:∀k (hk:k<L.length),((L.set j {r with dA:=c,chunks:=r.chunks+1,done:=dn})[k]'(by rw[yyj];exact hk)).at_=L[k].at_/\((L.set j {r with dA:=c,chunks:=r.chunks+1,done:=dn})[k]'(by rw[yyj];exact hk)).table=L[k].table:=λk hk=>by
    rw[xxp];split
    ·rename_i e;subst e;rw[hr];exact⟨rfl,rfl⟩
    exact⟨rfl,rfl⟩
   obtain⟨k1,k2,k3⟩:=hM.2 i hi;refine⟨?_,λh0=>?_,λk hk=>?_⟩
   ·rw[xxp];split
    ·rename_i e;subst e;rw[hr]at k1
     unfold vZ at k1 ⊢;simp only;omega
    exact k1
   ·rw[(il (i-1) (by omega)).1,(il i hi).1];exact k2 h0
   rw[(il k (by omega)).2,(il i hi).2];rintro ⟨e1,e2⟩;rw[xxp]at e2
   split at e2
   ·rename_i e;subst e;refine k3 j hk ⟨e1,?_⟩;rw[hr];cases hd:r.done with
    | false=>rfl
    | true=>exact absurd (.inl hd) hc
   exact k3 k hk ⟨e1,e2⟩
  cases h
 cases h
structure c_ where
 file:Int
 first:Int
 size:Nat
 l:List Φ
structure wy where
 file:Int
 oz:Int
 fresh:Bool
structure cU where
 bF:List c_
 base:Int
 size:Int
 dx:Option wy
def c_.next(s:c_):Int:=s.first+s.l.length
def cI(L:List c_):Int:=match L.getLast? with
 | none=>0
 | some s=>s.next-1
def fj(L:List c_):Int:=match L with
 | []=>1
 | s::_=>s.first
def mN:List c_->Int->Option Φ
 | [],_=>none
 | s::r,n=>if s.first<=n/\n<s.next then s.l[(n-s.first).toNat]? else mN r n
structure ig where
 file:Int
 fresh:Bool
 b:Φ
def mE(g:cU)(f:Int)(p:Φ):Except Int ig:=
 if g.base+4096<=f then .error 7 else .ok ⟨f,true,da (dP (cI g.bF+1).toNat)++da p⟩
def eQ(g:cU)(off:Bool)(p:Φ):Except Int ig:=
 if 1048576<p.length then .error 1
 else if off=true then .error 8
 else if 1099511627776<=cI g.bF then .error 7
 else match g.bF.getLast? with
  | none=>mE g g.base p
  | some s=>if s.l.length=0\/(s.size:Int)+(da p).length<=g.size then .ok ⟨s.file,false,da p⟩ else mE g (s.file+1) p
def dc(g:cU)(d:DS):(cU × DS) × Int:=match g.dx with
 | none=>((g,d),0)
 | some x=>(({g with dx:=if (if x.fresh=true then d.remove x.file else d.cut x.file x.oz).2=0 then none else some x},(if x.fresh=true then d.remove x.file else d.cut x.file x.oz).1),(if x.fresh=true then d.remove x.file else d.cut x.file x.oz).2)
def jH(L:List c_)(x:ig)(p:Φ):List c_:=
 let L:=if x.fresh=true then L++[⟨x.file,cI L+1,0,[]⟩] else L
 L.dropLast++L.getLast?.toList.map λs=>{s with size:=s.size+x.b.length,l:=s.l++[p]}
def eO(g:cU)(d:DS)(p:Φ):(cU × DS) × (Int × Int):=match eQ g d.off p with
 | .error e=>((g,d),(0,e))
 | .ok x=>
  let m:=dc g d
  if m.2≠0 then (m.1,(0,m.2)) else
  let a:=m.1.2.append x.file x.b
  if a.2≠0 then ((m.1.1,a.1),(0,a.2)) else
  let s:=a.1.sync x.file
  if s.2≠0 then ((m.1.1,s.1),(0,s.2)) else
  (({m.1.1 with bF:=jH m.1.1.bF x p},s.1),(cI (jH m.1.1.bF x p),0))
def lO(L:List c_):Int:=match L.getLast? with
 | none=>0
 | some s=>s.size
def f_(g:cU)(d:DS)(p:Φ)(k:Int):(cU × DS) × Int:=
 if k<0 then ((g,d),1) else match eQ g d.off p with
 | .error e=>((g,d),e)
 | .ok x=>
  let m:=dc g d
  if m.2≠0 then (m.1,m.2) else
  let a:=m.1.2.append x.file (x.b.take (k.toNat % x.b.length))
  if a.2≠0 then ((m.1.1,a.1),a.2) else
  (({m.1.1 with dx:=some ⟨x.file,if x.fresh=true then 0 else lO m.1.1.bF,x.fresh⟩},a.1),0)
def gJ:List c_->DS->Int->(List c_ × DS) × Int
 | s::t::r,d,n=>if s.next-1<=n then (if (d.remove s.file).2≠0 then ((s::t::r,(d.remove s.file).1),(d.remove s.file).2) else gJ (t::r) (d.remove s.file).1 n) else ((s::t::r,d),0)
 | L,d,_=>((L,d),0)
def gQ(g:cU)(d:DS)(n:Int):(cU × DS) × Int:=
 if d.off=true then ((g,d),8) else (({g with bF:=(gJ g.bF d n).1.1},(gJ g.bF d n).1.2),(gJ g.bF d n).2)
def fN(base:Int)(R:List PF):Ω:=(R.map PF.id).filter λf=>decide (base<=f/\f<base+4096)
def jb(L:List c_)(R:List PF)(f:Int)(last:Bool):(Bool × Bool) × List c_:=
 let b:=((dK PF.id R f).map PF.b).getD []
 match gX b with
 | none=>((false,last),L)
 | some (first,l,n)=>
  if (last=false/\(n≠b.length\/l.length=0))\/(0<L.length/\first≠cI L+1)\/1099511627776<first+l.length-1 then ((true,false),L)
  else ((true,true),L++[⟨f,first,n,l⟩])
def lP(R:List PF):Ω->Option Int->List c_->Bool->Option (List c_ × Bool)
 | [],_,L,whole=>some (L,whole)
 | f::r,prev,L,whole=>
  let x:=jb L R f r.isEmpty
  if x.1.2=false then none else if (match prev with|none=>false|some g=>decide (f≠g+1))=true then none else lP R r (some f) x.2 x.1.1
def iG(L:List c_)(d:DS)(ids:Ω)(whole:Bool):DS × Int:=match ids.getLast? with
 | none=>(d,0)
 | some f=>if whole=false then d.remove f else if lO L<gn d.R f then d.cut f (lO L) else (d,0)
def eN(d:DS)(base size:Int):DS × Except Int cU:=
 if base<0\/12288<base\/size<64\/65536<size then (d,.error 1)
 else if d.off=true then (d,.error 8)
 else match lP d.R (fN base d.R) none [] true with
  | none=>(d,.error 3)
  | some (L,whole)=>if (iG L d (fN base d.R) whole).2≠0 then ((iG L d (fN base d.R) whole).1,.error (iG L d (fN base d.R) whole).2) else ((iG L d (fN base d.R) whole).1,.ok ⟨L,base,size,none⟩)
structure kY(s:c_)(N:Nat):Prop where
 f0:0<=s.file
 f1:s.file<=100000
 n0:1<=s.first
 n1:s.first<=1099511627776
 sz:s.size<=N
 ln:s.l.length<=N
 bl:∀b∈s.l,b.length<=1048576
structure cU.Ok(g:cU)(N:Nat):Prop where
 bF:∀s∈g.bF,kY s N
 b0:0<=g.base
 b1:g.base<=12288
 s0:64<=g.size
 s1:g.size<=65536
 ln:g.bF.length<=N
def sB{L:List c_}{N:Nat}(h:∀s∈L,kY s N):0<=cI L/\cI L<=1099511627776+N:=by
 unfold cI;split
 ·omega
 rename_i s hs;have:=h s (xx1 hs);have h1:=this.n0;have h2:=this.n1;have h3:=this.ln;simp only[c_.next];omega
section
variable {A:List PF} {x:PF}
def RP(hs:fI PF.id (A++[x])):fq PF.id (A++[x]) x.id=A.length:=Cq hs (j:=A.length) (by simp) (by simp)
def Dx(hs:fI PF.id (A++[x])):iA PF.id (A++[x]) x.id=true:=(xS hs).2 ⟨x,by simp,rfl⟩
def CL(hs:fI PF.id (A++[x])):dK PF.id (A++[x]) x.id=some x:=tm hs (by simp)
def Wt(hs:fI PF.id (A++[x])){y:PF}(hy:y.id=x.id):fZ PF.id (A++[x]) y=A++[y]:=by
 have h1:iA PF.id (A++[x]) y.id=true:=by rw[hy];exact Dx hs
 rw[Gh h1,hy,RP hs];simp
def KX(hs:fI PF.id (A++[x]))(g:PF->PF):ki (A++[x]) x.id g=A++[{g x with id:=x.id}]:=by
 unfold ki;rw[CL hs];exact Wt hs rfl
def Sd(hs:fI PF.id (A++[x])):jE PF.id (A++[x]) x.id=A:=by
 rw[jE,zzd (Dx hs),RP hs];simp[List.eraseIdx_append_of_length_le]
def bwe(hs:fI PF.id (x::A)):jE PF.id (x::A) x.id=A:=by
 have h1:iA PF.id (x::A) x.id=true:=(xS hs).2 ⟨x,by simp,rfl⟩;have h2:fq PF.id (x::A) x.id=0:=Cq hs (j:=0) (by simp) rfl;rw[jE,zzd h1,h2];rfl
def aIe(hs:fI PF.id (A++[x]))(b:Φ):kN (A++[x]) x.id b=A++[⟨x.id,x.safe,x.b++b⟩]:=by
 unfold kN;rw[CL hs];exact Wt hs rfl
def aIf(hs:fI PF.id A){f:Int}(h:∀y∈A,y.id<f)(b:Φ):kN A f b=A++[⟨f,0,b⟩]:=by
 have h1:dK PF.id A f=none:=(Im hs).2 λy hy=>by have:=h y hy;omega
 have h2:iA PF.id A f=false:=by
  cases e:iA PF.id A f with
  | false=>rfl
  | true=>obtain⟨y,hy,e⟩:=(xS hs).1 e;have:=h y hy;omega
 have h3:fq PF.id A f=A.length:=by
  unfold fq;rw[yy3.2 λy hy=>by simpa using h y hy]
 unfold kN;rw[h1];unfold fZ;simp only[h2,h3];simp[x']
end
def pz(f:Int)(R:List PF):Prop:=∀i (h:i<R.length),R[i].id=f+i
def pz.sorted{f:Int}{R:List PF}(h:pz f R):fI PF.id R:=by
 unfold fI;rw[xxr];intro i j hi hj sD;rw[h i hi,h j hj];omega
def pz.mem{f:Int}{R:List PF}(h:pz f R){x:PF}(hx:x∈R):f<=x.id/\x.id<f+R.length:=by
 obtain⟨i,hi,rfl⟩:=xxa.1 hx;rw[h i hi];omega
def pz.snoc{f:Int}{R:List PF}(h:pz f R){x:PF}(hx:x.id=f+R.length):pz f (R++[x]):=by
 intro i hi;by_cases hl:i<R.length
 ·rw[www hl];exact h i hl
 have:i=R.length:=by simp at hi;omega
 subst this;simp[hx]
def ia(s:c_):Φ:=d_ (dP s.first.toNat::s.l)
def eD(s:c_):PF:=⟨s.file,(ia s).length,ia s⟩
def gL:Int->Int->List c_->Prop
 | _,_,[]=>True
 | f,n,s::r=>s.file=f/\s.first=n/\s.size=(ia s).length/\(∀p∈s.l,p.length<=1048576)/\(r≠[]->s.l≠[])/\gL (f+1) (n+s.l.length) r
def cR(L:List c_):List Φ:=(L.map c_.l).flatten
def pJ(s:c_)(L:List c_):cR (s::L)=s.l++cR L:=by simp[cR]
def wX(A B:List c_):cR (A++B)=cR A++cR B:=by simp[cR]
def gL.app:∀{f n:Int} {A B:List c_},gL f n (A++B)↔gL f n A/\(B≠[]->∀s∈A,s.l≠[])/\gL (f+A.length) (n+(cR A).length) B
 | f,n,[],B=>by simp[gL,cR]
 | f,n,s::A,B=>by
  have ih:=gL.app (f:=f+1) (n:=n+s.l.length) (A:=A) (B:=B);have e1:f+1+(A.length:Int)=f+((s::A).length:Int):=by simp;omega
  have e2:n+(s.l.length:Int)+((cR A).length:Int)=n+((cR (s::A)).length:Int):=by rw[pJ,zza];omega
  rw[e1,e2]at ih
  rw[zzv];simp only[gL,ih];constructor
  ·rintro ⟨h1,h2,h3,h4,h5,h6,h7,h8⟩;refine⟨⟨h1,h2,h3,h4,λhA=>h5 (by simp[hA]),h6⟩,λhB t ht=>?_,h8⟩;rcases zz0.1 ht with rfl|ht
   ·exact h5 (by simp[hB])
   exact h7 hB t ht
  rintro ⟨⟨h1,h2,h3,h4,h5,h6⟩,h7,h8⟩;refine⟨h1,h2,h3,h4,λh=>?_,h6,λhB t ht=>h7 hB t (.tail _ ht),h8⟩;by_cases hA:A=[]
  ·subst hA;exact h7 (by simpa using h) s (.head _)
  exact h5 hA
def gL.s_:∀{f n:Int} {L:List c_},gL f n L->pz f (L.map eD)
 | f,n,[],_=>λi h=>by simp at h
 | f,n,s::L,h=>by
  obtain⟨h1,_,_,_,_,h6⟩:=h;have ih:=h6.s_;intro i hi;cases i with
  | zero=>simpa [eD] using h1
  | succ i=>
   have:=ih i (by simpa using hi);simp only[zzo,vvp];rw[this];push_cast;omega
def gL.head{f n:Int}{L:List c_}(h:gL f n L)(hL:L≠[]):cI L=n+(cR L).length-1:=by
 obtain⟨A,s,rfl⟩:∃A s,L=A++[s]:=⟨L.dropLast,L.getLast hL,(List.dropLast_concat_getLast hL).symm⟩;obtain⟨_,_,h3⟩:=gL.app.1 h;obtain⟨_,h4,_⟩:=h3;unfold cI;rw[xxb,wX];simp only[c_.next,h4,zza];simp[cR];omega
def gL.low{f n:Int}{L:List c_}(h:gL f n L)(hL:L≠[]):fj L=n:=by
 cases L with
 | nil=>exact absurd rfl hL
 | cons s L=>exact h.2.1
def gL.read:∀{f n:Int} {L:List c_},gL f n L->∀i,mN L i=if n<=i then (cR L)[(i-n).toNat]? else none
 | f,n,[],_,i=>by simp[mN,cR]
 | f,n,s::L,h,i=>by
  obtain⟨_,h2,_,_,_,h6⟩:=h;have ih:=h6.read i;subst h2;rw[mN,ih,pJ];have pf:s.next=s.first+s.l.length:=rfl;by_cases h1:s.first<=i
  ·rw[zzd (c:=s.first<=i) h1];by_cases h3:i<s.next
   ·rw[zzd (c:=s.first<=i/\i<s.next) ⟨h1,h3⟩,zzs (by omega)]
   rw[zzb (c:=s.first<=i/\i<s.next) (by omega),zzd (by omega),yyb (by omega)];congr 1;omega
  rw[zzb (c:=s.first<=i/\i<s.next) (by omega),zzb (by omega),zzb h1]
def gL.bl:∀{f n:Int} {L:List c_},gL f n L->∀s∈L,s.size=(ia s).length/\∀p∈s.l,p.length<=1048576
 | f,n,[],_,s,hs=>by cases hs
 | f,n,t::L,h,s,hs=>by
  obtain⟨_,_,h3,h4,_,h6⟩:=h;rcases zz0.1 hs with rfl|hs
  ·exact⟨h3,h4⟩
  exact h6.bl s hs
def TC(n:Nat):(dP n).length<=1048576:=by rw[AZ];omega
def WY:∀(ps:List Φ) (k:Nat),(∀p∈ps,p.length<=1048576)->∃j,j<=ps.length/\(∀i,i<=ps.length->((d_ (ps.take i)).length<=k↔i<=j))/\jo ((d_ ps).take k)=(ps.take j,(d_ (ps.take j)).length)
 | [],k,_=>⟨0,zzj _,λi hi=>by simp at hi;subst hi;simp[d_],by
   rw[show (d_ []).take k=[] by simp[d_],DV XB];rfl⟩
 | p::ps,k,hp=>by
  have rB:=hp p (.head _);by_cases hk:k<(da p).length
  ·refine⟨0,zz9 _,λi hi=>?_,?_⟩
   ·cases i with
    | zero=>simp[d_]
    | succ i=>
     rw[xxx,nj,zza];constructor<;>intro h<;>omega
   obtain⟨e,he,_⟩:=Xz rB (k:=k) (by rw[<- kI];exact hk);rw[nj,xxf (by omega),DV he];rfl
  obtain⟨j,h1,h2,h5⟩:=WY ps (k-(da p).length) (λq hq=>hp q (.tail _ hq));refine⟨j+1,by simpa using h1,λi hi=>?_,?_⟩
  ·cases i with
   | zero=>simp[d_]
   | succ i=>
    have:=h2 i (by simpa using hi);rw[xxx,nj,zza];constructor<;>intro h<;>omega
  have e:(d_ (p::ps)).take k=da p++(d_ ps).take (k-(da p).length):=by
   rw[nj,List.take_append,zz6 (by omega)]
  rw[e,Gy (KU rB),<- kI,wwz,h5,xxx,nj,zza]
def czc{n:Nat}{l:List Φ}(h1:1<=n)(h2:n<=1099511627776)(hl:∀p∈l,p.length<=1048576):gX (d_ (dP n::l))=some ((n:Int),l,(d_ (dP n::l)).length):=by
 have:=cBd (dP n::l) [] (λp hp=>by rcases zz0.1 hp with rfl|hp;exact TC n;exact hl p hp) ⟨2,XB⟩;rw[zz1]at this
 unfold gX;rw[this];simp only[TD h1 h2,yyh]
def cza{n:Nat}{l:List Φ}(k:Nat)(h1:1<=n)(h2:n<=1099511627776)(hl:∀p∈l,p.length<=1048576):
  (gX ((d_ (dP n::l)).take k)=none/\k<(d_ [dP n]).length)\/∃j,j<=l.length/\(∀i,i<=l.length->((d_ (dP n::l.take i)).length<=k↔i<=j))/\gX ((d_ (dP n::l)).take k)=some ((n:Int),l.take j,(d_ (dP n::l.take j)).length):=by
 obtain⟨j,h3,h4,h5⟩:=WY (dP n::l) k (λp hp=>by rcases zz0.1 hp with rfl|hp;exact TC n;exact hl p hp);cases j with
 | zero=>
  left;unfold gX;rw[h5];refine⟨rfl,?_⟩;have:=h4 1 (by simp);rw[xxx,uu2]at this
  omega
 | succ j=>
  right;refine⟨j,by simpa using h3,λi hi=>?_,?_⟩
  ·have:=h4 (i+1) (by simpa using hi);rw[xxx]at this
   omega
  unfold gX;rw[h5,xxx];simp only[TD h1 h2,yyh]
def bY5{R:List PF}{L0:List c_}{f n:Int}{s:c_}{last:Bool}{x:PF}(hx:dK PF.id R f=some x)(hb:x.b=ia s)(h1:s.file=f)(h2:s.first=n)(h3:s.size=(ia s).length)(h4:∀p∈s.l,p.length<=1048576)
  (n1:1<=n) (n2:n+s.l.length<=1099511627776) (hl:last=false->s.l≠[]) (h0:L0=[]\/cI L0+1=n):jb L0 R f last=((true,true),L0++[s]):=by
 unfold jb;rw[hx];simp only[yyh,xxi,hb];have hr:gX (ia s)=some (s.first,s.l,(ia s).length):=by
  have:=czc (n:=s.first.toNat) (l:=s.l) (by omega) (by omega) h4;unfold ia;rw[this];congr 2;omega
 rw[hr];have hs:(⟨f,s.first,(ia s).length,s.l⟩:c_)=s:=by
  obtain⟨a,b,c,d⟩:=s;simp only at h1 h3;simp[<- h1,<- h3]
 simp only;rw[zzb,hs];rintro (⟨e1,e2⟩|⟨e1,e2⟩|e)
 ·rcases e2 with e2|e2
  ·exact e2 rfl
  exact hl e1 (zzl e2)
 ·rcases h0 with rfl|h0
  ·simp at e1
  omega
 omega
def vu(prev:Option Int)(f:Int):Bool:=match prev with
 | none=>false
 | some g=>decide (f≠g+1)
def Br(R:List PF)(f:Int)(r:Ω)(prev:Option Int)(L:List c_)(wh:Bool):lP R (f::r) prev L wh =
  if (jb L R f r.isEmpty).1.2=false then none else if vu prev f=true then none else lP R r (some f) (jb L R f r.isEmpty).2 (jb L R f r.isEmpty).1.1:=rfl
def JN(R:List PF):∀(r:List c_) (f n:Int) (L0:List c_) (prev:Option Int) (ids:Ω) (wh:Bool),gL f n r->(∀s∈r,∃x,dK PF.id R s.file=some x/\x.b=ia s)->(L0=[]\/cI L0+1=n)->(prev=none\/prev=some (f-1))->1<=n->n+(cR r).length<=1099511627776->(ids≠[]->∀s∈r,s.l≠[]) ->
  lP R (r.map c_.file++ids) prev L0 wh=lP R ids (if r=[] then prev else some (f+r.length-1)) (L0++r) (if r=[] then wh else true)
 | [],f,n,L0,prev,ids,wh,_,_,_,_,_,_,_=>by simp
 | s::r,f,n,L0,prev,ids,wh,hc,hg,h0,hp,n1,n2,hi=>by
  obtain⟨h1,h2,h3,h4,h5,h6⟩:=hc;obtain⟨x,hx,hb⟩:=hg s (.head _);rw[pJ,zza]at n2
  have lk:jb L0 R s.file (r.map c_.file++ids).isEmpty=((true,true),L0++[s]):=by
   refine bY5 hx hb rfl h2 h3 h4 n1 (by omega) (λhl=>?_) h0;by_cases hr:r=[]
   ·subst hr;refine hi (λe=>?_) s (.head _);subst e;simp at hl
   exact h5 hr
  rw[zzo,zzv,Br];simp only[lk];rw[zzb (by simp),zzb ?_]
  ·rw[JN R r (f+1) (n+s.l.length) (L0++[s]) (some s.file) ids true h6 (λt ht=>hg t (.tail _ ht)) (.inr ?_) (.inr (by rw[h1];congr 1;omega)) (by omega) (by omega) (λhd t ht=>hi hd t (.tail _ ht))]
   ·rw[zzb (by simp:¬(s::r=[])),zzb (by simp:¬(s::r=[])),zzk];by_cases hr:r=[]
    ·subst hr;simp[h1]
    rw[zzb hr,zzb hr];congr 2;simp;omega
   unfold cI;rw[xxb];simp only[c_.next];omega
  rcases hp with rfl|rfl
  ·simp[vu]
  simp[vu,h1]
def UH{R:List PF}{f base:Int}(h:pz f R)(h1:base<=f)(h2:f+R.length<=base+4096):fN base R=R.map PF.id:=by
 unfold fN;rw[yy3];intro a ha;obtain⟨x,hx,rfl⟩:=zzx.1 ha;have:=h.mem hx;simp only[zzw];omega
def S1{f n:Int}{L:List c_}{R:List PF}(hR:pz f R)(hs:∀s∈L,eD s∈R):∀s∈L,∃x,dK PF.id R s.file=some x/\x.b=ia s:=λs h=>⟨eD s,tm hR.sorted (hs s h),rfl⟩
def Vo(L:List c_):(L.map eD).map PF.id=L.map c_.file:=by rw[xxj];rfl
def Ka{d:DS}{L:List c_}{f n base size:Int}(hc:gL f n L)(hR:d.R=L.map eD)(gT:d.off=false)(b0:0<=base)(b1:base<=12288)(s0:64<=size)(s1:size<=65536)(hf:base<=f)(xu:f+L.length<=base+4096)
  (n1:1<=n) (n2:n+(cR L).length<=1099511627776):eN d base size=(d,.ok ⟨L,base,size,none⟩):=by
 have nL:=hc.s_;have vG:fN base d.R=L.map c_.file:=by
  rw[hR,UH nL hf (by rw[zzn];exact xu),Vo]
 have hl:=JN d.R L f n [] none [] true hc (S1 (f:=f) (n:=n) (by rw[hR];exact nL) (λs hs=>by rw[hR];exact zzx.2 ⟨s,hs,rfl⟩)) (.inl rfl) (.inl rfl) n1 n2 (λh=>absurd rfl h);rw[zz1]at hl
 unfold eN;rw[zzb (by omega),zzb (by simp[gT]),vG,hl];simp only[lP,zzr];have hb:iG L d (L.map c_.file) (if L=[] then true else true)=(d,0):=by
  unfold iG;rcases List.eq_nil_or_concat L with rfl|⟨A,s,rfl⟩
  ·rfl
  simp only[List.concat_eq_append,zzt,zzo,yy7,xxb];rw[zzb (by simp),zzb];have fX:=(hc.bl s (by simp)).1;have:dK PF.id d.R s.file=some (eD s):=by
   rw[hR];exact tm (x:=eD s) nL.sorted (by simp)
  unfold gn lO;rw[this,xxb];simp only[eD,fX];omega
 rw[hb];simp
def cn1{d:DS}{A:List c_}{l:List Φ}{f n base size:Int}{k:Nat}{x:PF}(hc:gL f n A)(hA:∀s∈A,s.l≠[])(hl:∀p∈l,p.length<=1048576)(hR:d.R=A.map eD++[x])(hid:x.id=f+A.length)(uK:x.safe=x.b.length)
  (hb:x.b=(d_ (dP (n+(cR A).length).toNat::l)).take k) (gT:d.off=false) (o7:d.arm=0) (b0:0<=base) (b1:base<=12288) (s0:64<=size) (s1:size<=65536) (hf:base<=f) (xu:f+A.length+1<=base+4096)
  (n1:1<=n) (n2:n+(cR A).length+l.length<=1099511627776) :
  ∃L j d',j<=l.length/\(∀i,i<=l.length->(d_ (dP (n+(cR A).length).toNat::l.take i)).length<=k->i<=j)/\(∀i,i<=l.length->k<(d_ (dP (n+(cR A).length).toNat::l.take i)).length->j<i\/j=0) /\
   eN d base size=(d',.ok ⟨L,base,size,none⟩)/\gL f n L/\cR L=cR A++l.take j/\d'.R=L.map eD/\d'.off=false/\d'.arm=0/\d'.ops<=d.ops+1/\L.length<=A.length+1/\A.length<=L.length/\(A=[]->j=0->L=[]\/(L.length=1/\(d_ [dP (n+(cR A).length).toNat]).length<=k))/\((d_ [dP (n+(cR A).length).toNat]).length<=k->L≠[]):=by
 have nL:pz f d.R:=by rw[hR];exact hc.s_.snoc (by simpa using hid)
 have sH:=nL.sorted;have vG:fN base d.R=A.map c_.file++[x.id]:=by
  rw[UH nL hf (by rw[hR];simp;omega),hR,zzt,Vo];rfl
 have lk:=JN d.R A f n [] none [x.id] true hc (S1 (f:=f) (n:=n) nL (λs hs=>by rw[hR];exact yyo _ (zzx.2 ⟨s,hs,rfl⟩))) (.inl rfl) (.inl rfl) n1 (by omega) (λ_=>hA);have A3:dK PF.id d.R x.id=some x:=by
  have:=sH;rw[hR]at this ⊢;exact CL this
 have Uf:∀b:Bool,vu (if A=[] then (none:Option Int) else some (f+A.length-1)) x.id=false:=by
  intro _;unfold vu;split
  ·rfl
  rename_i g hg;split at hg
  ·cases hg
  cases hg;simp;omega
 have bUu:jE PF.id d.R x.id=A.map eD:=by
  have:=sH;rw[hR]at this ⊢;exact Sd this
 have j6:may d x.id=0:=by
  unfold may;rw[zzb (by simp[gT]),zzb (by omega)]
 have bVj:iA PF.id d.R x.id=true:=by
  have:=sH;rw[hR]at this ⊢;exact Dx this
 have m_:d.find x.id=0:=by
  unfold DS.find;rw[zzb (by simp[j6]),zzd bVj]
 have AY:d.cA.off=false:=by simp[DS.cA,o7]
 have Tu:d.cA.arm=0:=by simp[DS.cA,o7]
 have hh:A≠[]->cI ([]++A)+1=n+(cR A).length:=λh=>by rw[zzr,hc.head h];omega
 have rA:((n+(cR A).length).toNat:Int)=n+(cR A).length:=by omega
 have hbound:¬(base<0\/12288<base\/size<64\/65536<size):=by omega
 rcases cza (n:=(n+(cR A).length).toNat) (l:=l) k (by omega) (by omega) hl with ⟨h1,h2⟩|⟨j,h1,h2,h3⟩
 ·have vK:jb ([]++A) d.R x.id true=((false,true),A):=by
   unfold jb;rw[A3];simp only[yyh,xxi,hb,h1];rfl
  have nc:lP d.R [x.id] (if A=[] then none else some (f+A.length-1)) ([]++A) (if A=[] then true else true)=some (A,false):=by
   rw[Br];simp only[tte,vK];rw[Uf true];rfl
  rw[nc]at lk
  refine⟨A,0,{d.cA with R:=A.map eD},zz9 _,λi hi hk=>?_,λi _ _=>.inr rfl,?_,hc,by simp,rfl,AY,Tu,by simp[DS.cA],by omega,zzj _,λh _=>.inl h,λhk=>?_⟩
  ·rw[nj,zza]at hk
   rw[nj,zza]at h2
   have:(d_ []).length=0:=rfl;omega
  ·have IE:iG A d (A.map c_.file++[x.id]) false=({d.cA with R:=A.map eD},0):=by
    unfold iG;rw[xxb];simp only[wwj,DS.remove];rw[zzb (by simp[m_]),zzb (by simp[AY]),bUu]
   unfold eN;rw[zzb hbound,zzb (by simp[gT]),vG,lk];simp only[IE];rfl
  rw[nj,zza]at hk
  rw[nj,zza]at h2
  have:(d_ []).length=0:=rfl;omega
 let s:c_:=⟨x.id,n+(cR A).length,(d_ (dP (n+(cR A).length).toNat::l.take j)).length,l.take j⟩
 have vK:jb ([]++A) d.R x.id true=((true,true),A++[s]):=by
  unfold jb;rw[A3];simp only[yyh,xxi,hb,h3];rw[zzb,rA]
  ·rfl
  rintro (⟨e1,e2⟩|⟨e1,e2⟩|e)
  ·cases e1
  ·by_cases E6:A=[]
   ·subst E6;simp at e1
   have:=hh E6;omega
  rw[zzg]at e;omega
 have nc:lP d.R [x.id] (if A=[] then none else some (f+A.length-1)) ([]++A) (if A=[] then true else true)=some (A++[s],true):=by
  rw[Br];simp only[tte,vK];rw[Uf true];rfl
 rw[nc]at lk
 have Un:ia s=d_ (dP (n+(cR A).length).toNat::l.take j):=rfl;have gz:gL f n (A++[s]):=gL.app.2 ⟨hc,λ_=>hA,hid,rfl,rfl,λp hp=>hl p (yyr hp),λh=>absurd rfl h,trivial⟩;have fX:lO (A++[s])=(ia s).length:=by unfold lO;rw[xxb];rfl
 have xz:(ia s).length<=k:=by
  have:=(h2 j h1).2 (zzj _);rw[Un];exact this
 have rE:(d_ (dP (n+(cR A).length).toNat::l)).take (ia s).length=ia s:=by
  have:d_ (dP (n+(cR A).length).toNat::l)=ia s++d_ (l.drop j):=by
   rw[Un,nj,nj,zzk,<- czd,yyk]
  rw[this,ww0]
 have hlen:(ia s).length<=(d_ (dP (n+(cR A).length).toNat::l)).length:=by
  rw[<- rE,zzg];omega
 have j7:(ia s).length<=x.b.length:=by rw[hb,zzg];omega
 have UB:x.b.take (ia s).length=ia s:=by rw[hb,ttk,xxu xz,rE]
 have TY:gn d.R x.id=x.b.length:=by unfold gn;rw[A3]
 have Dl:∃d',iG (A++[s]) d (A.map c_.file++[x.id]) true=(d',0)/\d'.R=(A++[s]).map eD/\d'.off=false/\d'.arm=0/\d'.ops<=d.ops+1:=by
  unfold iG;rw[xxb];simp only[TY,fX];rw[zzb (by simp)];by_cases de:((ia s).length:Int)<x.b.length
  ·rw[zzd de];unfold DS.cut;rw[zzb (by simp[m_]),zzb (by rw[TY];omega),zzb (by simp[AY])];refine⟨_,rfl,?_,AY,Tu,by simp[DS.cA]⟩;show ki d.R x.id (jj (((ia s).length:Nat):Int).toNat)=_;rw[hR,KX (by rw[<- hR];exact sH),zzy,zzt];congr 1;simp only[jj,UB,uK,zzo,yy7,eD];rw[Nat.min_eq_right j7]
  rw[zzb de];refine⟨d,rfl,?_,gT,o7,by omega⟩;rw[hR,zzt];congr 1;have:x.b=ia s:=by rw[<- UB,zz6 (by omega)]
  obtain⟨xi,xs,xb⟩:=x;simp only at this uK;simp only[zzo,yy7,eD];rw[uK,this]
 obtain⟨d',IE,r1,r2,r3,r4⟩:=Dl;refine⟨A++[s],j,d',h1,λi hi hk=>(h2 i hi).1 hk,λi hi hk=>.inl ?_,?_,gz,by rw[wX];simp[cR,s],r1,r2,r3,r4,by simp,by simp,λh _=>.inr ⟨by simp[h],?_⟩,λ_=>by simp⟩
 ·rcases xx4 j i with h|h
  ·exact h
  have:=(h2 i hi).2 h;omega
 ·unfold eN;rw[zzb hbound,zzb (by simp[gT]),vG,lk];simp only[IE];rfl
 have:=(h2 0 (zz9 _)).2 (zz9 _)
 rwa [uu2]at this
def gL.sK:∀{f n:Int} {L:List c_},gL f n L->L.length<=(cR L).length+1
 | f,n,[],_=>by simp
 | f,n,[s],_=>by simp
 | f,n,s::t::L,h=>by
  obtain⟨_,_,_,_,h5,h6⟩:=h;have:=h6.sK;have h0:s.l.length≠0:=λe=>h5 (by simp) (zzl e);rw[pJ,zza,zzi];omega
structure gA(g:cU)(d:DS)(f n:Int)(es:List Φ):Prop where
 chain:gL f n g.bF
 gy:cR g.bF=es
 files:d.R=g.bF.map eD
 nil:g.bF=[]->f=g.base/\n=1
 base:g.base<=f
 b0:0<=g.base
 b1:g.base<=12288
 s0:64<=g.size
 s1:g.size<=65536
 n1:1<=n
 fi:f+es.length+2<=g.base+4096
 off:d.off=false
 dx:g.dx=none
def gA.head{g:cU}{d:DS}{f n:Int}{es:List Φ}(h:gA g d f n es):cI g.bF=n+es.length-1:=by
 by_cases hL:g.bF=[]
 ·have:=h.nil hL;have e:=h.gy;rw[hL]at e ⊢
  rw[<- e,this.2];rfl
 rw[h.chain.head hL,h.gy]
structure wz(g:cU)(f n:Int)(es:List Φ)(p:Φ)(x:ig)(A:List c_)(l0:List Φ)(pre:Φ):Prop where
 chain:gL f n A
 full:∀s∈A,s.l≠[]
 file:x.file=f+A.length
 gy:cR A++l0=es
 bl:∀q∈l0,q.length<=1048576
 all:pre++x.b=d_ (dP (n+(cR A).length).toNat::(l0++[p]))
 cwq:l0=[]\/pre=d_ (dP (n+(cR A).length).toNat::l0)
 app:∀t,kN (g.bF.map eD) x.file t=A.map eD++[⟨x.file,pre.length,pre++t⟩]
 put:gL f n (jH g.bF x p)
 Wm:cR (jH g.bF x p)=es++[p]
 cwx:(jH g.bF x p).map eD=A.map eD++[⟨x.file,(pre++x.b).length,pre++x.b⟩]
 eS:jH g.bF x p≠[]
 cwt:∀s∈jH g.bF x p,s.l≠[]
 pos:0<x.b.length
 len:x.b.length<=27+p.length
 fresh:x.fresh=true->g.bF=A/\pre=[]
 nU:x.fresh=false->g.bF.map eD=A.map eD++[⟨x.file,pre.length,pre⟩]/\lO g.bF=pre.length
def Gf{g:cU}{d:DS}{f n:Int}{es:List Φ}(h:gA g d f n es){p:Φ}(hp:p.length<=1048576)(hn:n+es.length<=100000):∃x A l0 pre,eQ g false p= .ok x/\wz g f n es p x A l0 pre:=by
 have hh:=h.head;have hc:=h.chain;have hle:=hc.sK;rw[h.gy]at hle
 have tA:=h.fi;have nf:=h.n1;have sH:=hc.s_.sorted;have TN:∀F:Int,F=f+g.bF.length->(∀s∈g.bF,s.l≠[])->∃x A l0 pre,mE g F p= .ok x/\wz g f n es p x A l0 pre:=by
  intro F hF A2;have e1:(cI g.bF+1).toNat=(n+(cR g.bF).length).toNat:=by rw[hh,h.gy];congr 1;omega
  have kC:jH g.bF ⟨F,true,da (dP (cI g.bF+1).toNat)++da p⟩ p=g.bF++[⟨F,cI g.bF+1,(da (dP (cI g.bF+1).toNat)++da p).length,[p]⟩]:=by
   unfold jH;simp
  have eF:da (dP (cI g.bF+1).toNat)++da p=d_ (dP (n+(cR g.bF).length).toNat::[p]):=by rw[e1,nj,nj];simp[d_]
  refine⟨⟨F,true,da (dP (cI g.bF+1).toNat)++da p⟩,g.bF,[],[],?_,hc,A2,hF,by rw[zz1];exact h.gy,by simp,?_,.inl rfl,λt=>?_,?_,?_,?_,?_,?_,?_,?_,λ_=>⟨rfl,rfl⟩,λe=>by cases e⟩
  ·unfold mE;rw[zzb (by omega)]
  ·exact eF
  ·refine aIf sH (λy hy=>?_) t;have:=hc.s_.mem hy;rw[zzn]at this
   show y.id<F;omega
  ·rw[kC];refine gL.app.2 ⟨hc,λ_=>A2,hF,?_,?_,by simpa using hp,λh=>absurd rfl h,trivial⟩
   ·show cI g.bF+1=_;rw[hh,h.gy];omega
   show (da (dP (cI g.bF+1).toNat)++da p).length=(ia _).length;unfold ia;rw[eF,e1]
  ·rw[kC,wX,h.gy];simp[cR]
  ·rw[kC,zzt,zzr];congr 1;simp only[zzo,yy7,eD,ia];rw[eF,e1]
  ·rw[kC];simp
  ·rw[kC];intro s hs;rcases zz5.1 hs with hs|hs
   ·exact A2 s hs
   rw[zz7.1 hs];simp
  ·show 0<(da (dP (cI g.bF+1).toNat)++da p).length;rw[zza,kI];omega
  show (da (dP (cI g.bF+1).toNat)++da p).length<=_;rw[zza,kI,kI,AZ];omega
 unfold eQ;rw[zzb (by omega),zzb (by simp),zzb (by omega)];rcases List.eq_nil_or_concat g.bF with hL|⟨A,s,hL⟩
 ·have Ja:=h.nil hL;rw[hL];simp only[List.getLast?_nil];exact TN g.base (by rw[hL];simp;omega) (by rw[hL];simp)
 rw[List.concat_eq_append]at hL
 have hLg:g.bF.getLast?=some s:=by rw[hL,xxb]
 rw[hLg];simp only;rw[hL]at hc
 obtain⟨h1,h2,c1,c2,c3,c4,c5,c6⟩:=gL.app.1 hc;have Fs:=h2 (by simp);by_cases IH:s.l.length=0\/(s.size:Int)+(da p).length<=g.size
 ·rw[zzd IH];have kC:jH g.bF ⟨s.file,false,da p⟩ p=A++[{s with size:=s.size+(da p).length,l:=s.l++[p]}]:=by
   unfold jH;rw[zzb (by simp)];simp only[hL,List.dropLast_concat,xxb];rfl
  have eF:ia s++da p=d_ (dP (n+(cR A).length).toNat::(s.l++[p])):=by
   unfold ia;rw[c2,<- zzv,Wy]
  have S_:ia {s with size:=s.size+(da p).length,l:=s.l++[p]}=ia s++da p:=by
   unfold ia;rw[<- zzv,Wy]
  refine⟨⟨s.file,false,da p⟩,A,s.l,ia s,rfl,h1,Fs,c1,?_,c4,eF,.inr (by unfold ia;rw[c2]),λt=>?_,?_,?_,?_,?_,?_,?_,?_,λe=>(by cases e),λ_=>⟨?_,?_⟩⟩
  ·rw[<- h.gy,hL,wX];simp[cR]
  ·rw[hL,zzt]at sH ⊢
   exact aIe (x:=eD s) sH t
  ·rw[kC];refine gL.app.2 ⟨h1,λ_=>Fs,c1,c2,?_,λq hq=>?_,λh=>absurd rfl h,trivial⟩
   ·rw[S_,zza,<- c3]
   rcases zz5.1 hq with hq|hq
   ·exact c4 q hq
   rw[zz7.1 hq];exact hp
  ·rw[kC,wX,<- h.gy,hL,wX];simp[cR]
  ·rw[kC,zzt];simp only[zzo,yy7,eD,S_]
  ·rw[kC];simp
  ·rw[kC];intro t ht;rcases zz5.1 ht with ht|ht
   ·exact Fs t ht
   rw[zz7.1 ht];simp
  ·show 0<(da p).length;rw[kI];omega
  ·show (da p).length<=_;rw[kI];omega
  ·rw[hL,zzt];rfl
  unfold lO;rw[hL,xxb];show ((s.size:Nat):Int)=_;rw[c3]
 rw[zzb IH];refine TN (s.file+1) (by rw[hL,c1];simp;omega) (by
  intro t ht;rw[hL]at ht
  rcases zz5.1 ht with ht|ht
  ·exact Fs t ht
  rw[zz7.1 ht];intro e;exact IH (.inl (by rw[e];rfl)))
def oN(d:DS)(f n:Int)(es:List Φ)(p:Φ)(whole:Bool):Prop:=∃A l0 pre k,
 gL f n A/\(∀s∈A,s.l≠[])/\cR A++l0=es/\(∀q∈l0++[p],q.length<=1048576)/\(l0=[]\/pre=(d_ (dP (n+(cR A).length).toNat::l0)).length)/\pre<=k/\k<=(d_ (dP (n+(cR A).length).toNat::(l0++[p]))).length /\
 (whole=false->k<(d_ (dP (n+(cR A).length).toNat::(l0++[p]))).length)/\d.R=A.map eD++[⟨f+A.length,pre,(d_ (dP (n+(cR A).length).toNat::(l0++[p]))).take k⟩]
def wz.dx{g:cU}{f n:Int}{es:List Φ}{p:Φ}{x:ig}{A:List c_}{l0:List Φ}{pre:Φ}(h:wz g f n es p x A l0 pre)(hp:p.length<=1048576){d:DS}{m:Nat}{whole:Bool}(hm:m<=x.b.length)(hw:whole=false->m<x.b.length)
  (hR:d.R=kN (g.bF.map eD) x.file (x.b.take m)):oN d f n es p whole:=by
 have eF:=h.all;have hl:(d_ (dP (n+(cR A).length).toNat::(l0++[p]))).length=pre.length+x.b.length:=by rw[<- eF,zza]
 refine⟨A,l0,pre.length,pre.length+m,h.chain,h.full,h.gy,λq hq=>?_,?_,by omega,by omega,λe=>by have:=hw e;omega,?_⟩
 ·rcases zz5.1 hq with hq|hq
  ·exact h.bl q hq
  rw[zz7.1 hq];exact hp
 ·rcases h.cwq with h1|h1
  ·exact .inl h1
  exact .inr (by rw[h1])
 rw[hR,h.app,<- eF,xxy,h.file]
def HM(A B:List PF)(keep:Ω):∀hA:(∀x∈A,x.safe=x.b.length),eY (A++B) keep=A++B.mapIdx λi=>iY keep (A.length+i):=by
 intro hA;unfold eY;rw[uu3];congr 1
 ·refine xxw (by simp) λi h1 h2=>?_;rw[vv6];have hx:=hA A[i] (zzh h2);have hm:jQ keep i A[i]=0:=by
   have:=x8 (keep:=keep) (i:=i) (x:=A[i]) (by omega);omega
  unfold iY;rw[hm,hx,xxn,Nat.min_self,zz4,<- hx]
 congr 1
 funext i
 rw[uu1]
def W3(A:List c_):∀x∈A.map eD,x.safe=x.b.length:=λx hx=>by
 obtain⟨s,_,rfl⟩:=zzx.1 hx;rfl
def RU{L:List c_}(keep:Ω):eY (L.map eD) keep=L.map eD:=by
 have:=HM (L.map eD) [] keep (W3 L);simpa using this
def XD{d:DS}{f n:Int}{es:List Φ}{p:Φ}{whole:Bool}(h:oN d f n es p whole)(keep:Ω){base size:Int}(b0:0<=base)(b1:base<=12288)(s0:64<=size)(s1:size<=65536)(hf:base<=f)(xu:f+es.length+4<=base+4096)
  (n1:1<=n) (n2:n+es.length+1<=100000) (hn:es=[]->(f=base/\n=1)\/∀y∈d.R,(d_ [dP n.toNat]).length<=y.safe) :
  ∃g d' iP,eN (d.ed keep) base size=(d',.ok g)/\gA g d' f n iP/\d'.arm=0/\d'.ops<=d.ops+1/\g.base=base/\g.size=size/\(iP=es\/(whole=true/\iP=es++[p])):=by
 obtain⟨A,l0,pre,k,hA,A2,IP,o9,pX,nN,fW,hw,hR⟩:=h;have su:=hA.sK;have hl:(cR A).length+l0.length=es.length:=by rw[<- IP,zza]
 let T:=d_ (dP (n+(cR A).length).toNat::(l0++[p]))
 have Tj:(T.take k).length=k:=by rw[zzg];exact xxu fW
 let y:=iY keep (A.map eD).length ⟨f+A.length,pre,T.take k⟩
 have ma:(d.ed keep).R=A.map eD++[y]:=by
  show eY d.R keep=_;rw[hR,HM _ _ _ (W3 A)];rfl
 have uK:pre<=(T.take k).length:=by rw[Tj];exact nN
 have uN:y.b.length=pre+jQ keep (A.map eD).length ⟨f+A.length,pre,T.take k⟩:=Cs (x:=⟨f+A.length,pre,T.take k⟩) uK;have hy2:y.safe=pre+jQ keep (A.map eD).length ⟨f+A.length,pre,T.take k⟩:=EG (x:=⟨f+A.length,pre,T.take k⟩) uK;have mg:pre+jQ keep (A.map eD).length ⟨f+A.length,pre,T.take k⟩<=k:=by
  have:=x8 (keep:=keep) (i:=(A.map eD).length) (x:=⟨f+A.length,pre,T.take k⟩) uK;simpa [Tj] using this
 have hyb:y.b=T.take (pre+jQ keep (A.map eD).length ⟨f+A.length,pre,T.take k⟩):=by
  show (T.take k).take _=_;rw[ttk,xxu mg]
 generalize hm:pre+jQ keep (A.map eD).length ⟨f+A.length,pre,T.take k⟩=m at *
 obtain⟨L,j,d',j1,j2,j3,ho,hc,he,hR',Db,sx,dV,_,_,_,bR8⟩:=cn1 (d:=d.ed keep) (A:=A) (l:=l0++[p]) (f:=f) (n:=n) (base:=base) (size:=size) (k:=m) (x:=y) hA A2 o9 ma rfl (by rw[uN,hy2]) hyb rfl rfl b0 b1 s0 s1 hf (by omega) n1 (by simp;omega);have tC:l0.length<=j:=by
  rcases pX with rfl|pX
  ·simp
  refine j2 l0.length (by simp) ?_;rw[ww0,<- pX];omega
 have C5:j<=l0.length+1:=by simpa using j1
 refine⟨⟨L,base,size,none⟩,d',cR L,ho,⟨hc,rfl,hR',λhL=>?_,hf,b0,b1,s0,s1,n1,?_,Db,rfl⟩,sx,dV,rfl,rfl,?_⟩
 ·have hL:L=[]:=hL;have h0:(cR L).length=0:=by rw[hL];rfl
  rw[he,zza,zzg,zza]at h0
  simp only[zzi,yym]at h0;rcases hn (zzl (by omega)) with hn|hn
  ·exact hn
  have E6:A=[]:=by
   cases A with
   | nil=>rfl
   | cons s r=>
    have h1:=A2 s (.head _);have h2:0<s.l.length:=xx9.2 h1;rw[pJ,zza]at h0
    omega
  have hs:=hn ⟨f+A.length,pre,(d_ (dP (n+(cR A).length).toNat::(l0++[p]))).take k⟩ (by rw[hR];simp);refine absurd hL (bR8 ?_);have hs:(d_ [dP n.toNat]).length<=pre:=hs;subst E6;show (d_ [dP (n+((cR []).length:Nat)).toNat]).length<=m;rw[show n+((cR ([]:List c_)).length:Int)=n by show n+((0:Nat):Int)=n;omega];omega
 ·show f+((cR L).length:Int)+2<=base+4096;rw[he,zza,zzg];simp;omega
 rw[he];rcases xx4 l0.length j with hj|hj
 ·right;have:j=l0.length+1:=by omega
  subst this;refine⟨?_,by rw[zz6 (by simp),<- zzk,IP]⟩;cases whole with
  | true=>rfl
  | false=>
   have h1:=hw rfl;rcases j3 (l0.length+1) (by simp) (by rw[zz6 (by simp)];exact Nat.lt_of_le_of_lt mg h1) with h2|h2<;>omega
 left;have:j=l0.length:=by omega
 subst this;rw[ww0,IP]
def cDn{d:DS}{f n:Int}{es:List Φ}{p:Φ}{whole:Bool}(h:oN d f n es p whole)(keep:Ω){base size:Int}(b0:0<=base)(b1:base<=12288)(s0:64<=size)(s1:size<=65536)(hf:base<=f)(xu:f+es.length+4<=base+4096)
  (n1:1<=n) (n2:n+es.length+1<=100000) (hn:f=base/\n=1) :
  ∃g d' iP,eN (d.ed keep) base size=(d',.ok g)/\gA g d' f n iP/\d'.arm=0/\d'.ops<=d.ops+1/\g.base=base/\g.size=size/\(iP=es\/(whole=true/\iP=es++[p])):=
 XD h keep b0 b1 s0 s1 hf xu n1 n2 λ_=>.inl hn
def wz.may{g:cU}{d:DS}{f n:Int}{es:List Φ}{p:Φ}{x:ig}{A:List c_}{l0:List Φ}{pre:Φ}(h:wz g f n es p x A l0 pre)(hi:gA g d f n es){d':DS}(ho:d'.off=false):may d' x.file=0/\0<=x.file/\x.file<16384:=by
 have h1:=h.chain.sK;have h2:(cR A).length+l0.length=es.length:=by rw[<- h.gy,zza]
 have:=hi.fi;have:=hi.base;have:=hi.b0;have:=hi.b1;have h3:=h.file;refine⟨?_,by omega,by omega⟩;unfold Go.Proofs.YtmkllimamejcgaaGreat.may;rw[zzb (by simp[ho]),zzb (by omega)]
def Hw{g:cU}{d a s:DS}{p:Φ}{x:ig}{e1 e2:Int}(hp:eQ g d.off p= .ok x)(hm:dc g d=((g,d),0))(ha:d.append x.file x.b=(a,e1))(hs:a.sync x.file=(s,e2)):
  eO g d p=if e1≠0 then ((g,a),(0,e1)) else if e2≠0 then ((g,s),(0,e2)) else (({g with bF:=jH g.bF x p},s),(cI (jH g.bF x p),0)):=by
 unfold eO;rw[hp];simp only[hm];rw[zzb (by decide),ha];simp only[hs]
def cC8{g:cU}{d a:DS}{p:Φ}{k:Int}{x:ig}(hk:0<=k)(hp:eQ g d.off p= .ok x)(hm:dc g d=((g,d),0))(ha:d.append x.file (x.b.take (k.toNat % x.b.length))=(a,0)):
  f_ g d p k=(({g with dx:=some ⟨x.file,if x.fresh=true then 0 else lO g.bF,x.fresh⟩},a),0):=by
 unfold f_;rw[zzb (by omega),hp];simp only[hm];rw[zzb (by decide),ha];simp only;rw[zzb (by decide)]
def append_eq{d:DS}{f:Int}{b:Φ}(hm:may d f=0):d.append f b=({d.cA with R:=kN d.R f b},d.cA.err):=by
 unfold DS.append;rw[zzb (by simp[hm])]
def aIm{g:cU}{d:DS}{f n:Int}{es:List Φ}(h:gA g d f n es){p:Φ}{x:ig}{A:List c_}{l0:List Φ}{pre:Φ}(hx:eQ g false p= .ok x)(hr:wz g f n es p x A l0 pre)(he:es=[])(hs:g.bF≠[]):(d_ [dP n.toNat]).length<=pre.length:=by
 have h1:=hr.gy;rw[he]at h1
 obtain⟨xg,rr⟩:=vvq.1 h1;have hA:A=[]:=by
  cases A with
  | nil=>rfl
  | cons s r=>rw[pJ]at xg;exact absurd (vvq.1 xg).1 (hr.full s (.head _))
 subst hA rr;have eF:=hr.all;have hb:x.b=da p:=by
  unfold eQ at hx;split at hx
  ·cases hx
  rw[zzb (by decide)]at hx
  split at hx
  ·cases hx
  cases hg:g.bF.getLast? with
  | none=>exact absurd (List.getLast?_eq_none_iff.1 hg) hs
  | some s=>
   rw[hg]at hx
   simp only at hx;have Jl:s.l=[]:=by
    have h2:=h.gy;rw[he]at h2
    have hm:=xx1 hg;unfold cR at h2;exact List.flatten_eq_nil_iff.1 h2 _ (vv7 hm)
   rw[zzd (.inl (by rw[Jl];rfl))]at hx
   cases hx;rfl
 rw[hb,zzr,nj,show d_ [p]=da p by simp[d_]]at eF
 have:=yyt List.length eF;rw[zza,zza]at this
 rw[show n+((cR ([]:List c_)).length:Int)=n by show n+((0:Nat):Int)=n;omega]at this
 rw[nj,zza,show d_ []=[] from rfl,yym];omega
def Hx{g:cU}{d:DS}{f n:Int}{es:List Φ}(h:gA g d f n es){p:Φ}(hp:p.length<=1048576)(hn:n+es.length<=100000)(tA:f+es.length+3<=g.base+4096)(ha:0<=d.arm):
  (∃g' d',eO g d p=((g',d'),(n+es.length,0))/\gA g' d' f n (es++[p])/\d'.ops=d.ops+2/\0<=d'.arm/\(d.arm=0->d'.arm=0)/\g'.base=g.base/\g'.size=g.size/\(∀s∈g'.bF,s.l≠[])/\d.arm≠1/\d.arm≠2) \/
  (∃d',eO g d p=((g,d'),(0,8))/\oN d' f n es p true/\d'.off=true/\d'.ops<=d.ops+2/\d.arm≠0/\(es=[]->g.bF≠[]->∀y∈d'.R,(d_ [dP n.toNat]).length<=y.safe)):=by
 obtain⟨x,A,l0,pre,dW,hr⟩:=Gf h hp hn;have nM:∀R:List PF,R=kN d.R x.file x.b->es=[]->g.bF≠[]->∀y∈R,(d_ [dP n.toNat]).length<=y.safe:=λR hR he hs y hy=>by
  have h1:=aIm h dW hr he hs;have h2:=hr.gy;rw[he]at h2
  have hA:A=[]:=by
   cases A with
   | nil=>rfl
   | cons s r=>rw[pJ,zzk]at h2;exact absurd (vvq.1 h2).1 (hr.full s (.head _))
  have tw:=hr.app x.b;rw[<- h.files,hA]at tw
  rw[hR,tw]at hy
  have:y=⟨x.file,pre.length,pre++x.b⟩:=by simpa using hy
  rw[this];exact h1
 have gT:=h.off;have hm:dc g d=((g,d),0):=by unfold dc;rw[h.dx]
 obtain⟨j6,f0,f1⟩:=hr.may h gT;have rm:=append_eq (b:=x.b) j6;by_cases h1:d.arm=1
 ·right;have e:d.cA.off=true:=by simp[DS.cA,h1]
  refine⟨{d.cA with R:=kN d.R x.file x.b},?_,hr.dx hp (m:=x.b.length) (zzj _) (λe=>by cases e) (by rw[zz4,h.files]),e,by simp[DS.cA],by omega,nM _ rfl⟩;have e2:d.cA.err=8:=by unfold DS.err;rw[e];rfl
  rw[Hw (by rw[gT];exact dW) hm rm rfl,e2];rfl
 have e:d.cA.off=false:=by simp[DS.cA,h1]
 have e2:d.cA.err=0:=by unfold DS.err;rw[e];rfl
 have tw:=hr.app x.b;rw[<- h.files]at tw
 let d1:DS:={d.cA with R:=kN d.R x.file x.b}
 have nL:pz f (A.map eD++[⟨x.file,pre.length,pre++x.b⟩]):=hr.chain.s_.snoc (by rw[zzn];exact hr.file);have jG:d1.R=A.map eD++[⟨x.file,pre.length,pre++x.b⟩]:=tw;have m_:d1.find x.file=0:=by
  unfold DS.find;rw[zzb (by rw[(hr.may h (d':=d1) e).1];simp)];have hs:=nL.sorted;rw[jG,zzd (Dx (x:=⟨x.file,pre.length,pre++x.b⟩) hs)]
 rw[e2]at rm
 by_cases h2:d.arm=2
 ·right;have e3:d1.cA.off=true:=by simp[DS.cA,d1,h2]
  have Jm:d1.sync x.file=(d1.cA,8):=by
   unfold DS.sync;rw[zzb (by simp[m_]),zzd e3]
  rw[Hw (by rw[gT];exact dW) hm rm Jm];refine⟨d1.cA,rfl,hr.dx hp (m:=x.b.length) (zzj _) (λe=>by cases e) (by rw[zz4,<- h.files];rfl),e3,by simp[DS.cA,d1],by omega,nM _ rfl⟩
 left;have To:d1.arm=if 0<d.arm then d.arm-1 else d.arm:=rfl
 have e3:d1.cA.off=false:=zz2 (by rw[To];split<;>omega);have vB:0<=d1.arm:=by rw[To];split<;>omega
 have Jm:d1.sync x.file=({d1.cA with R:=ki d1.R x.file λy=>{y with safe:=y.b.length}},0):=by
  unfold DS.sync;rw[zzb (by simp[m_]),zzb (by simp[e3])]
 rw[Hw (by rw[gT];exact dW) hm rm Jm];have jY:=hr.put;have hup:ki d1.R x.file (λy=>{y with safe:=y.b.length})=(jH g.bF x p).map eD:=by
  rw[jG,KX (x:=⟨x.file,pre.length,pre++x.b⟩) nL.sorted,hr.cwx]
 refine⟨{g with bF:=jH g.bF x p},{d1.cA with R:=ki d1.R x.file λy=>{y with safe:=y.b.length}},?_,⟨jY,hr.Wm,hup,λe=>absurd e hr.eS,h.base,h.b0,h.b1,h.s0,h.s1,h.n1,?_,e3,h.dx⟩,by simp[DS.cA,d1],?_,λh0=>by simp[DS.cA,d1,h0],rfl,rfl,hr.cwt,h1,h2⟩
 ·have:cI (jH g.bF x p)=n+es.length:=by
   rw[jY.head hr.eS,hr.Wm,zza];simp;omega
  rw[zzb (by decide),zzb (by decide),this]
 ·show f+((es++[p]).length:Int)+2<=g.base+4096;rw[zza];simp;omega
 show 0<=if 0<d1.arm then d1.arm-1 else d1.arm
 split<;>omega
def aIn{g:cU}{d:DS}{f n:Int}{es:List Φ}(h:gA g d f n es){p:Φ}(hp:p.length<=1048576)(hn:n+es.length<=100000)(tA:f+es.length+3<=g.base+4096)(ha:0<=d.arm):
  (∃g' d',eO g d p=((g',d'),(n+es.length,0))/\gA g' d' f n (es++[p])/\d'.ops=d.ops+2/\0<=d'.arm/\(d.arm=0->d'.arm=0)/\g'.base=g.base/\g'.size=g.size/\(∀s∈g'.bF,s.l≠[])/\d.arm≠1/\d.arm≠2) \/
  (∃d',eO g d p=((g,d'),(0,8))/\oN d' f n es p true/\d'.off=true/\d'.ops<=d.ops+2/\d.arm≠0):=by
 rcases Hx h hp hn tA ha with h1|⟨d',a,b,c,e,k,_⟩
 ·exact .inl h1
 exact .inr ⟨d',a,b,c,e,k⟩
def oN.sW{d d':DS}{f n:Int}{es:List Φ}{p:Φ}{whole:Bool}(h:oN d f n es p whole)(hR:d'.R=d.R):oN d' f n es p whole:=by
 obtain⟨A,l0,pre,k,h⟩:=h;exact⟨A,l0,pre,k,by rw[hR];exact h⟩
def aIp{g g1:cU}{d d1:DS}{p:Φ}(hm:dc g d=((g1,d1),0))(hs:g1.bF=g.bF)(hb:g1.base=g.base)(hz:g1.size=g.size)(ho:d.off=false)(vN:d1.off=false)(ht:g1.dx=none){x:ig}(hx:eQ g1 false p= .ok x):eO g d p=eO g1 d1 p:=by
 have hp:eQ g false p=eQ g1 false p:=by
  unfold eQ mE;rw[hs,hb,hz]
 have vL:dc g1 d1=((g1,d1),0):=by unfold dc;rw[ht]
 unfold eO;rw[ho,vN,hp,hx];simp only[hm,vL]
def Kj{g:cU}{off:Bool}{p:Φ}{x:ig}(h:eQ g off p= .ok x):x.b.length<=27+p.length:=by
 have hf:∀F,mE g F p= .ok x->x.b.length<=27+p.length:=λF h=>by
  unfold mE at h;split at h
  ·cases h
  cases h;simp only[zza,kI,AZ];omega
 unfold eQ at h;split at h
 ·cases h
 split at h
 ·cases h
 split at h
 ·cases h
 split at h
 ·exact hf _ h
 split at h
 ·cases h;simp only[kI];omega
 exact hf _ h
def Ga{g:cU}{d:DS}{N:Nat}(h:d.Ok N):(dc g d).1.2.Ok N:=by
 unfold dc;split
 ·exact h
 simp only;split
 ·exact h.remove _
 exact h.cut _ _
def Rj{g:cU}{d:DS}{N:Nat}(h:d.Ok N)(p:Φ):(eO g d p).1.2.Ok (N+(27+p.length)):=by
 unfold eO;split
 ·exact h.mono (by omega)
 rename_i x hx;have hl:=Kj hx;have hm:=Ga (g:=g) h;simp only;split
 ·exact hm.mono (by omega)
 have ha:=(hm.append x.file x.b).mono (M:=N+(27+p.length)) (by omega);split
 ·exact ha
 have hs:=ha.sync x.file;split
 ·exact hs
 exact hs
def cDc{g:cU}{d:DS}{N:Nat}(h:d.Ok N)(p:Φ)(k:Int):(f_ g d p k).1.2.Ok (N+(27+p.length)):=by
 unfold f_;split
 ·exact h.mono (by omega)
 split
 ·exact h.mono (by omega)
 rename_i x hx;have hl:=Kj hx;have hm:=Ga (g:=g) h;simp only;split
 ·exact hm.mono (by omega)
 have ha:=(hm.append x.file (x.b.take (k.toNat % x.b.length))).mono (M:=N+(27+p.length)) (by rw[zzg];omega);split
 ·exact ha
 exact ha
def XG{N:Nat}(k:Int):∀(L:List c_) (d:DS),d.Ok N->(gJ L d k).1.2.Ok N
 | [],d,h=>h
 | [s],d,h=>h
 | s::t::L,d,h=>by
  rw[gJ];split
  ·split
   ·exact h.remove _
   exact XG k (t::L) _ (h.remove _)
  exact h
def cDr{g:cU}{d:DS}{N:Nat}(h:d.Ok N)(k:Int):(gQ g d k).1.2.Ok N:=by
 unfold gQ;split
 ·exact h
 exact XG k g.bF d h
def HC{L:List c_}{d:DS}{ids:Ω}{wh:Bool}{N:Nat}(h:d.Ok N):(iG L d ids wh).1.Ok N:=by
 unfold iG;split
 ·exact h
 split
 ·exact h.remove _
 split
 ·exact h.cut _ _
 exact h
def Gc{d:DS}{base size:Int}{N:Nat}(h:d.Ok N):(eN d base size).1.Ok N:=by
 unfold eN;split
 ·exact h
 split
 ·exact h
 split
 ·exact h
 split
 ·exact HC h
 exact HC h
def kY.mono{s:c_}{N M:Nat}(h:kY s N)(hm:N<=M):kY s M:=⟨h.f0,h.f1,h.n0,h.n1,yy2 h.sz hm,yy2 h.ln hm,h.bl⟩
def cU.Ok.mono{g:cU}{N M:Nat}(h:g.Ok N)(hm:N<=M):g.Ok M:=⟨λs hs=>(h.bF s hs).mono hm,h.b0,h.b1,h.s0,h.s1,yy2 h.ln hm⟩
def cU.Ok.congr{g g':cU}{N:Nat}(h:g.Ok N)(h1:g'.bF=g.bF)(h2:g'.base=g.base)(h3:g'.size=g.size):g'.Ok N:=
 ⟨by rw[h1];exact h.bF,by rw[h2];exact h.b0,by rw[h2];exact h.b1,by rw[h3];exact h.s0,by rw[h3];exact h.s1,by rw[h1];exact h.ln⟩
def tO(g:cU)(d:DS):(dc g d).1.1.bF=g.bF/\(dc g d).1.1.base=g.base/\(dc g d).1.1.size=g.size:=by
 unfold dc;split<;>exact⟨rfl,rfl,rfl⟩
def JV{g:cU}{d:DS}{N:Nat}(h:g.Ok N):(dc g d).1.1.Ok N:=let ⟨a,b,c⟩:=tO g d;h.congr a b c
structure As(g:cU)(p:Φ)(x:ig):Prop where
 pl:p.length<=1048576
 hd:cI g.bF<1099511627776
 nU:x.fresh=false->∃s,g.bF.getLast?=some s/\x.file=s.file
 f0:x.fresh=true->0<=x.file/\x.file<=100000
 bl:x.b.length<=27+p.length
 pos:8<=x.b.length
def Ge{g:cU}{N:Nat}(h:g.Ok N){off:Bool}{p:Φ}{x:ig}(hx:eQ g off p= .ok x):As g p x:=by
 have hb:=Kj hx;have h0:=h.b0;have h1:=h.b1;have hp:p.length<=1048576:=by
  unfold eQ at hx;split at hx
  ·cases hx
  omega
 have uB:∀F,0<=F->cI g.bF<1099511627776->mE g F p= .ok x->As g p x:=λF hF hd hx=>by
  unfold mE at hx;split at hx
  ·cases hx
  cases hx;exact⟨hp,hd,λe=>(by cases e),λ_=>⟨hF,by show F<=100000;omega⟩,hb,by show 8<=(da _++da p).length;rw[zza,kI];omega⟩
 unfold eQ at hx;rw[zzb (by omega)]at hx
 split at hx
 ·cases hx
 split at hx
 ·cases hx
 rename_i hd;have hd:cI g.bF<1099511627776:=by omega
 split at hx
 ·exact uB _ h0 hd hx
 rename_i s hs;split at hx
 ·cases hx;exact⟨hp,hd,λ_=>⟨s,hs,rfl⟩,λe=>(by cases e),hb,by show 8<=(da p).length;rw[kI];omega⟩
 have:=(h.bF s (xx1 hs)).f0;exact uB _ (by omega) hd hx
def tP(L:List c_)(x:ig):List c_:=if x.fresh=true then L++[⟨x.file,cI L+1,0,[]⟩] else L
def vh(s:c_)(n:Nat)(p:Φ):c_:={s with size:=s.size+n,l:=s.l++[p]}
def Gg(L:List c_)(x:ig)(p:Φ){A:List c_}{s:c_}(h:tP L x=A++[s]):jH L x p=A++[vh s x.b.length p]:=by
 unfold jH;have:(if x.fresh=true then L++[⟨x.file,cI L+1,0,[]⟩] else L)=A++[s]:=h;rw[this];simp only[List.dropLast_concat,xxb];rfl
def JW{g:cU}{p:Φ}{x:ig}(h:As g p x):∃A s,tP g.bF x=A++[s]:=by
 unfold tP;cases hf:x.fresh with
 | true=>exact⟨_,_,rfl⟩
 | false=>
  obtain⟨s,hs,_⟩:=h.nU hf;obtain⟨A,hA⟩:=List.getLast?_eq_some_iff.1 hs;exact⟨A,s,by rw[zzb (by decide)];exact hA⟩
def VI{g:cU}{N:Nat}(hg:g.Ok N){p:Φ}{x:ig}(h:As g p x):∀s∈tP g.bF x,kY s N:=by
 intro s hs;unfold tP at hs;split at hs
 ·rename_i hf;rcases zz5.1 hs with hs|hs
  ·exact hg.bF s hs
  rw[zz7.1 hs];have:=sB hg.bF;have:=h.hd;exact⟨(h.f0 hf).1,(h.f0 hf).2,by show 1<=cI g.bF+1;omega,by show cI g.bF+1<=_;omega,zz9 _,zz9 _,λb hb=>by cases hb⟩
 exact hg.bF s hs
def b_f(L:List c_)(x:ig):(tP L x).length<=L.length+1:=by
 unfold tP;split<;>simp
def Wn{g:cU}{N:Nat}(hg:g.Ok N){p:Φ}{x:ig}(h:As g p x):(∀s∈jH g.bF x p,kY s (N+(28+p.length)))/\(jH g.bF x p).length<=N+1:=by
 obtain⟨A,s,hA⟩:=JW h;have cH:=VI hg h;have hl:=b_f g.bF x;have hn:=hg.ln;rw[Gg _ _ _ hA];rw[hA]at cH hl
 refine⟨λt ht=>?_,by simp at hl ⊢;omega⟩;rcases zz5.1 ht with ht|ht
 ·exact (cH t (yyo _ ht)).mono (by omega)
 rw[zz7.1 ht];have hs:=cH s (by simp);have:=hs.sz;have:=hs.ln;have:=h.bl;refine⟨hs.f0,hs.f1,hs.n0,hs.n1,by show s.size+x.b.length<=_;omega,by show (s.l++[p]).length<=_;simp;omega,λb hb=>?_⟩;rcases zz5.1 hb with hb|hb
 ·exact hs.bl b hb
 rw[zz7.1 hb];exact h.pl
def KW(n:Int):∀(L:List c_) (d:DS),(∀s∈(gJ L d n).1.1,s∈L)/\(gJ L d n).1.1.length<=L.length
 | [],d=>⟨λs hs=>hs,zzj _⟩
 | [t],d=>⟨λs hs=>hs,zzj _⟩
 | t::u::L,d=>by
  rw[gJ];split
  ·split
   ·exact⟨λs hs=>hs,zzj _⟩
   obtain⟨h1,h2⟩:=KW n (u::L) (d.remove t.file).1;exact⟨λs hs=>.tail _ (h1 s hs),by simp at h2 ⊢;omega⟩
  exact⟨λs hs=>hs,zzj _⟩
def cDq{g:cU}{d:DS}{N:Nat}(h:g.Ok N)(n:Int):(gQ g d n).1.1.Ok N:=by
 unfold gQ;split
 ·exact h
 obtain⟨h1,h2⟩:=KW n g.bF d;exact⟨λs hs=>h.bF s (h1 s hs),h.b0,h.b1,h.s0,h.s1,yy2 h2 h.ln⟩
def iT:List c_->Prop
 | []=>True
 | [_]=>True
 | s::t::r=>t.first=s.next/\iT (t::r)
def iT.tail{s:c_}{L:List c_}(h:iT (s::L)):iT L:=by
 cases L with
 | nil=>trivial
 | cons t r=>exact h.2
def iT.drop{L:List c_}(h:iT L):∀i,iT (L.drop i)
 | 0=>h
 | i+1=>by
  cases L with
  | nil=>exact trivial
  | cons s L=>exact iT.drop h.tail i
def iT.snoc:∀{L:List c_} {x:c_},iT L->(L≠[]->x.first=cI L+1)->iT (L++[x])
 | [],x,_,_=>trivial
 | [s],x,_,h=>⟨by have:=h (by simp);simp only[cI,List.getLast?_singleton]at this;omega,trivial⟩
 | s::t::r,x,h,hx=>by
  refine⟨h.1,?_⟩;refine iT.snoc (L:=t::r) h.2 λ_=>?_;have:=hx (by simp);simp only[cI,uui]at this ⊢;exact this
def iT.last:∀{A:List c_} {s t:c_},iT (A++[s])->t.first=s.first->iT (A++[t])
 | [],s,t,_,_=>trivial
 | [a],s,t,h,e=>⟨by rw[e];exact h.1,trivial⟩
 | a::b::r,s,t,h,e=>⟨h.1,iT.last (A:=b::r) h.2 e⟩
def TOk(g:cU):Prop:=∀x,g.dx=some x->0<=x.file/\x.file<=100000/\(x.fresh=false->∃s,g.bF.getLast?=some s/\s.file=x.file/\x.oz=s.size)/\(x.fresh=true->∀s,g.bF.getLast?=some s->s.file≠x.file)
structure iu(g:cU)(M:Nat):Prop where
 ok:g.Ok M
 seq:iT g.bF
 hd:cI g.bF<=1099511627776
 dx:TOk g
def iu.mono{g:cU}{N M:Nat}(h:iu g N)(hm:N<=M):iu g M:=⟨h.ok.mono hm,h.seq,h.hd,h.dx⟩
def VC(g:cU)(d:DS):(dc g d).1.1.dx=if (dc g d).2=0 then none else g.dx:=by
 unfold dc;split
 ·rename_i h;simp[h]
 rename_i x h;simp only;split<;>simp[h]
def VA{g:cU}{d:DS}{M:Nat}(h:iu g M):iu (dc g d).1.1 M:=by
 obtain⟨h1,h2,h3⟩:=tO g d;refine⟨JV h.ok,by rw[h1];exact h.seq,by rw[h1];exact h.hd,λx hx=>?_⟩;rw[VC]at hx
 split at hx
 ·cases hx
 rw[h1];exact h.dx x hx
def IN(A:List c_)(s:c_):cI (A++[s])=s.next-1:=by
 unfold cI;rw[xxb]
def cwy{g:cU}{M:Nat}(h:iu g M){p:Φ}{x:ig}(hw:As g p x)(ht:g.dx=none):iu {g with bF:=jH g.bF x p} (M+(28+p.length)):=by
 obtain⟨k1,k2⟩:=Wn h.ok hw;have hb:=h.ok;have nM:=hw.hd;obtain⟨A,s,hA⟩:=JW hw;have Jk:iT (A++[s])/\s.next-1<=cI g.bF:=by
  rw[<- hA];unfold tP at hA ⊢;split
  ·rename_i hf;rw[zzd hf]at hA
   have hs:=List.append_inj' hA rfl;have e:s=⟨x.file,cI g.bF+1,0,[]⟩:=by simpa using hs.2.symm
   refine⟨h.seq.snoc λ_=>rfl,?_⟩;rw[e];simp[c_.next]
  rename_i hf;rw[zzb hf]at hA
  refine⟨h.seq,?_⟩;rw[hA,IN];exact yyf _
 rw[Gg _ _ _ hA]at k1 k2 ⊢
 refine⟨⟨k1,hb.b0,hb.b1,hb.s0,hb.s1,by show (A++[vh s x.b.length p]).length<=_;omega⟩,Jk.1.last rfl,?_,λy hy=>?_⟩
 ·show cI (A++[vh s x.b.length p])<=_;rw[IN];have e:(vh s x.b.length p).next=s.next+1:=by simp[c_.next,vh];omega
  rw[e];omega
 have:g.dx=some y:=hy;rw[ht]at this;cases this
def Ri{g:cU}{d:DS}{M:Nat}(h:iu g M)(p:Φ):iu (eO g d p).1.1 (M+(28+p.length)):=by
 unfold eO;split
 ·exact h.mono (by omega)
 rename_i x hx;have hw:=Ge h.ok hx;have hm:=VA (d:=d) h;obtain⟨m1,_,_⟩:=tO g d;have mt:=VC g d;simp only;split
 ·exact hm.mono (by omega)
 rename_i h0;have h0:(dc g d).2=0:=by simpa using h0
 rw[zzd h0]at mt
 split
 ·exact hm.mono (by omega)
 split
 ·exact hm.mono (by omega)
 refine cwy hm ⟨hw.pl,by rw[m1];exact hw.hd,by rw[m1];exact hw.nU,hw.f0,hw.bl,hw.pos⟩ mt
def cwl{g:cU}{M:Nat}(h:g.Ok M){off:Bool}{p:Φ}{x:ig}(hx:eQ g off p= .ok x):0<=x.file/\x.file<=100000/\(x.fresh=false->∃s,g.bF.getLast?=some s/\s.file=x.file)/\(x.fresh=true->∀s,g.bF.getLast?=some s->s.file≠x.file):=by
 have hw:=Ge h hx;cases hf:x.fresh with
 | false=>
  obtain⟨s,h1,h2⟩:=hw.nU hf;have:=h.bF s (xx1 h1);exact⟨by rw[h2];exact this.f0,by rw[h2];exact this.f1,λ_=>⟨s,h1,h2.symm⟩,λe=>by cases e⟩
 | true=>
  obtain⟨f0,f1⟩:=hw.f0 hf;refine⟨f0,f1,(λe=>by cases e),λ_ s hs=>?_⟩;unfold eQ at hx;rw[hs]at hx
  split at hx
  ·cases hx
  split at hx
  ·cases hx
  split at hx
  ·cases hx
  simp only at hx;split at hx
  ·cases hx;cases hf
  unfold mE at hx;split at hx
  ·cases hx
  cases hx;show s.file≠s.file+1;omega
def cC6{g:cU}{d:DS}{M:Nat}(h:iu g M)(p:Φ)(k:Int):iu (f_ g d p k).1.1 M:=by
 unfold f_;split
 ·exact h
 split
 ·exact h
 rename_i x hx;have hm:=VA (d:=d) h;obtain⟨m1,m2,m3⟩:=tO g d;obtain⟨f0,f1,f2,f3⟩:=cwl h.ok hx;simp only;split
 ·exact hm
 split
 ·exact hm
 refine⟨hm.ok.congr rfl rfl rfl,hm.seq,hm.hd,λy hy=>?_⟩;have hy:some (⟨x.file,if x.fresh=true then 0 else lO (dc g d).1.1.bF,x.fresh⟩:wy)=some y:=hy;cases hy;refine⟨f0,f1,λhf=>?_,λhf s hs=>f3 hf s (by rw[<- m1];exact hs)⟩;have hf:x.fresh=false:=hf;obtain⟨s,h1,h2⟩:=f2 hf;refine⟨s,by rw[<- m1]at h1;exact h1,h2,?_⟩;show (if x.fresh=true then 0 else lO (dc g d).1.1.bF)=_;rw[zzb (by rw[hf];decide)];unfold lO;rw[m1,h1]
def XF(n:Int):∀(L:List c_) (d:DS),∃i,(gJ L d n).1.1=L.drop i/\(i=0\/i<L.length)
 | [],d=>⟨0,rfl,.inl rfl⟩
 | [t],d=>⟨0,rfl,.inl rfl⟩
 | t::u::L,d=>by
  rw[gJ];split
  ·split
   ·exact⟨0,rfl,.inl rfl⟩
   obtain⟨i,h1,h2⟩:=XF n (u::L) (d.remove t.file).1;exact⟨i+1,by rw[h1];rfl,.inr (by simp at h2 ⊢;omega)⟩
  exact⟨0,rfl,.inl rfl⟩
def bwu{α:Type}{L:List α}{i:Nat}(h:i=0\/i<L.length):(L.drop i).getLast?=L.getLast?:=by
 rcases h with rfl|h
 ·rfl
 rw[List.getLast?_drop,zzb (by omega)]
def cDp{g:cU}{d:DS}{M:Nat}(h:iu g M)(n:Int):iu (gQ g d n).1.1 M:=by
 have hk:=cDq (d:=d) h.ok n;unfold gQ at hk ⊢;split
 ·exact h
 rename_i ho;rw[zzb ho]at hk
 obtain⟨i,h1,h2⟩:=XF n g.bF d;have hl:(gJ g.bF d n).1.1.getLast?=g.bF.getLast?:=by rw[h1];exact bwu h2
 refine⟨hk,by show iT (gJ g.bF d n).1.1;rw[h1];exact h.seq.drop i,?_,λx hx=>?_⟩
 ·show cI (gJ g.bF d n).1.1<=_;unfold cI;rw[hl];exact h.hd
 show _/\_/\(_->∃s,(gJ g.bF d n).1.1.getLast?=some s/\_)/\(_->∀s,(gJ g.bF d n).1.1.getLast?=some s->_);rw[hl];exact h.dx x hx
def bY6{L:List c_}{R:List PF}{f:Int}{last:Bool}(h:iT L)(hh:cI L<=1099511627776):iT (jb L R f last).2/\cI (jb L R f last).2<=1099511627776:=by
 unfold jb;simp only;split
 ·exact⟨h,hh⟩
 split
 ·exact⟨h,hh⟩
 rename_i k l n hr hc;refine⟨h.snoc λhL=>?_,?_⟩
 ·show k=cI L+1;have:0<L.length:=xx9.2 hL;rcases Int.lt_trichotomy k (cI L+1) with h1|h1|h1
  ·exact absurd (.inr (.inl ⟨this,by omega⟩)) hc
  ·exact h1
  exact absurd (.inr (.inl ⟨this,by omega⟩)) hc
 show cI (L++[_])<=_;rw[IN];simp only[c_.next];rcases Int.lt_or_le 1099511627776 (k+l.length-1) with h1|h1
 ·exact absurd (.inr (.inr h1)) hc
 exact h1
def Vi{R:List PF}:∀(ids:Ω) (prev:Option Int) (L:List c_) (wh:Bool),iT L->cI L<=1099511627776->∀{L' Af},lP R ids prev L wh=some (L',Af)->iT L'/\cI L'<=1099511627776
 | [],prev,L,wh,h,hh,L',Af,e=>by cases e;exact⟨h,hh⟩
 | f::r,prev,L,wh,h,hh,L',Af,e=>by
  rw[Br]at e
  obtain⟨k1,k2⟩:=bY6 (R:=R) (f:=f) (last:=r.isEmpty) h hh;split at e
  ·cases e
  split at e
  ·cases e
  exact Vi r _ _ _ k1 k2 e
def rZ(C:List Cell):Prop:=C.Pairwise (λa b=>a.key<b.key)
def rl(C:List Cell)(k:Int):Option Cell:=C.find? (λc=>decide (c.key=k))
def mi:List Cell->Cell->List Cell
 | [],c=>[c]
 | x::C,c=>if x.key<c.key then x::mi C c else if x.key=c.key then c::C else c::x::C
def cellOf(o:gr):Cell:=⟨o.key,o.aw,o.gone,if o.gone then ⟨#[]⟩ else o.val⟩
def rN(C:List Cell)(o:gr):List Cell × Bool:=match rl C o.key with
 | some c=>if o.aw<c.aw then (C,false) else (mi C (cellOf o),true)
 | none=>(mi C (cellOf o),true)
def lS(ts:List (List Cell))(o:gr):List (List Cell) × Bool:=
 if o.table<0 then (ts,false) else match ts[o.table.toNat]? with
 | some C=>(ts.set o.table.toNat (rN C o).1,(rN C o).2)
 | none=>(ts,false)
def fA:List (List Cell)->List gr->List (List Cell) × Nat
 | ts,[]=>(ts,0)
 | ts,o::l=>((fA (lS ts o).1 l).1,(if (lS ts o).2 then 1 else 0)+(fA (lS ts o).1 l).2)
def rowsOf(C:List Cell):List Row:=(C.filter λc=>!c.gone).map λc=>⟨c.key,c.val⟩
def czr(C:List Cell)(k:Nat)(h:k<C.length):rowsOf (C.take (k+1))=if C[k].gone then rowsOf (C.take k) else rowsOf (C.take k)++[⟨C[k].key,C[k].val⟩]:=by
 unfold rowsOf;rw[zze h,yyv,zzt];cases hg:C[k].gone<;>simp[hg]
def czq(C:List Cell):(rowsOf C).length<=C.length:=by unfold rowsOf;rw[zzn];exact yyp _ _
def Vx{C:List Cell}{c x:Cell}(h:x∈mi C c):x=c\/x∈C:=by
 induction C with
 | nil=>simpa [mi] using h
 | cons y C ih=>
  unfold mi at h;split at h
  ·rcases zz0.1 h with rfl|h
   ·exact .inr (.head _)
   rcases ih h with h|h
   ·exact .inl h
   exact .inr (.tail _ h)
  split at h
  ·rcases zz0.1 h with rfl|h
   ·exact .inl rfl
   exact .inr (.tail _ h)
  rcases zz0.1 h with rfl|h
  ·exact .inl rfl
  exact .inr h
def cB3{C:List Cell}(h:rZ C)(c:Cell):rZ (mi C c):=by
 unfold rZ at *
 induction C with
 | nil=>simp[mi]
 | cons y C ih=>
  rw[yyg]at h
  unfold mi;split
  ·rename_i de;refine yyg.2 ⟨λz hz=>?_,ih h.2⟩;rcases Vx hz with rfl|hz
   ·exact de
   exact h.1 z hz
  split
  ·rename_i he;exact yyg.2 ⟨λz hz=>by have:=h.1 z hz;omega,h.2⟩
  rename_i h1 h2;refine yyg.2 ⟨λz hz=>?_,yyg.2 h⟩;rcases zz0.1 hz with rfl|hz
  ·omega
  have:=h.1 z hz;omega
def bI4(C:List Cell)(c:Cell)(k:Int):rl (mi C c) k=if c.key=k then some c else rl C k:=by
 unfold rl;induction C with
 | nil=>by_cases h:c.key=k<;>simp[mi,h]
 | cons y C ih=>
  unfold mi;split
  ·rw[xxv,xxv,ih];by_cases h1:y.key=k
   ·have:c.key≠k:=by omega
    simp[h1,this]
   simp[h1]
  split
  ·rename_i he;rw[xxv,xxv];by_cases h1:c.key=k
   ·simp[h1]
   have:y.key≠k:=by omega
   simp[h1,this]
  rw[xxv];by_cases h1:c.key=k<;>simp[h1]
def bYz(C:List Cell)(c:Cell):(mi C c).length<=C.length+1:=by
 induction C with
 | nil=>simp[mi]
 | cons y C ih=>
  unfold mi;split
  ·simp;omega
  split<;>simp
def bI1{C:List Cell}{k:Int}{c:Cell}(h:rl C k=some c):c.key=k/\c∈C:=by
 unfold rl at h;have h1:=List.find?_some (p:=λc:Cell=>decide (c.key=k)) h;exact⟨zzp h1,List.mem_of_find?_eq_some h⟩
def SY{C:List Cell}(h:rZ C){c:Cell}(hc:c∈C):rl C c.key=some c:=by
 unfold rl rZ at *
 induction C with
 | nil=>cases hc
 | cons y C ih=>
  rw[yyg]at h
  rcases zz0.1 hc with rfl|hc
  ·simp
  have:=h.1 c hc;rw[xxv];have hn:¬y.key=c.key:=by omega
  simp[hn,ih h.2 hc]
def Ws{ts:List (List Cell)}{t:Nat}{o:gr}(h:o.table=t)(ht:t<ts.length):lS ts o=(ts.set t (rN ts[t] o).1,(rN ts[t] o).2):=by
 have h0:¬o.table<0:=by omega
 have h1:o.table.toNat=t:=by omega
 unfold lS;simp[h0,h1,ht]
def Gj(ts:List (List Cell))(o:gr):(lS ts o).1.length=ts.length:=by
 unfold lS;split
 ·rfl
 split<;>simp
def Km(l:List gr):∀ts,(fA ts l).1.length=ts.length:=by
 induction l with
 | nil=>intro ts;rfl
 | cons o l ih=>intro ts;simp only[fA];rw[ih,Gj]
def cwv(l:List gr):∀ts,(fA ts l).2<=l.length:=by
 induction l with
 | nil=>intro ts;simp[fA]
 | cons o l ih=>intro ts;simp only[fA,zzi];have:=ih (lS ts o).1;split<;>omega
def cwu(l l':List gr):∀ts,fA ts (l++l')=((fA (fA ts l).1 l').1,(fA ts l).2+(fA (fA ts l).1 l').2):=by
 induction l with
 | nil=>intro ts;simp[fA]
 | cons o l ih=>intro ts;simp only[zzv,fA,ih];simp only[vvh]
def small(ts:List (List Cell))(k:Nat):Prop:=∀C∈ts,C.length+k<=1000000
def cw4(C:List Cell)(o:gr):(rN C o).1.length<=C.length+1:=by
 unfold rN;have:=bYz C (cellOf o);split
 ·split<;>simp_all
 exact this
def cBq{ts:List (List Cell)}{k:Nat}{o:gr}(h:small ts (k+1)):small (lS ts o).1 k:=by
 unfold lS;split
 ·intro C hC;have:=h C hC;omega
 split
 ·rename_i C0 h0;intro C hC;rcases vv5 hC with hC|rfl
  ·have:=h C hC;omega
  have:=h C0 (yy9 h0);have:=cw4 C0 o;omega
 intro C hC;have:=h C hC;omega
def W6{ts:List (List Cell)}{j k:Nat}(h:small ts k)(hj:j<=k):small ts j:=λC hC=>by have:=h C hC;omega
def cBo{l:List gr}:∀{ts:List (List Cell)} {k:Nat},small ts (k+l.length)->small (fA ts l).1 k:=by
 induction l with
 | nil=>intro ts k h;simpa [fA] using h
 | cons o l ih=>intro ts k h;exact ih (cBq (by rw[zzi]at h;rw[vvh];exact h))
def lr(n:Int):Prop:=-9223372036854775808<=n/\n<=9223372036854775807
def y'(C:List Cell):Prop:=rZ C/\∀c∈C,lr c.key
def sO(ts:List (List Cell)):Prop:=∀C∈ts,y' C
def cni{C:List Cell}{o:gr}(h:y' C)(ho:lr o.key):y' (rN C o).1:=by
 have hi:y' (mi C (cellOf o)):=⟨cB3 h.1 _,λc hc=>by rcases Vx hc with rfl|hc;exact ho;exact h.2 c hc⟩;unfold rN;split
 ·split
  ·exact h
  exact hi
 exact hi
def V2{ts:List (List Cell)}{o:gr}(h:sO ts)(ho:lr o.key):sO (lS ts o).1:=by
 unfold lS;split
 ·exact h
 split
 ·rename_i C0 h0;intro C hC;rcases vv5 hC with hC|rfl
  ·exact h C hC
  exact cni (h C0 (yy9 h0)) ho
 exact h
def cnm{l:List gr}:∀{ts:List (List Cell)},sO ts->(∀o∈l,lr o.key)->sO (fA ts l).1:=by
 induction l with
 | nil=>intro ts h _;exact h
 | cons o l ih=>intro ts h ho;exact ih (V2 h (ho o (.head _))) (λo' h'=>ho o' (.tail _ h'))
def rh(ts:List (List Cell))(t:Int):List Cell:=if 0<=t then (ts[t.toNat]?).getD [] else []
def aWc{ts:List (List Cell)}{t:Int}(hs:small ts 0):(rh ts t).length<=1000000:=by
 unfold rh;split
 ·cases h:ts[t.toNat]? with
  | none=>simp
  | some C=>simpa using hs C (yy9 h)
 simp
structure lY(m:List (Int × Cell))(C:List Cell):Prop where
 get:∀k,fO m k=rl C k
 nodup:(m.map (·.1)).Nodup
def bZ6{α:Type}(m:List (Int × α))(k:Int)(v:α)(k':Int):fO (gI m k v) k'=if k=k' then some v else fO m k':=by
 induction m with
 | nil=>by_cases h:k=k'<;>simp[gI,fO,h]
 | cons p m ih=>
  unfold gI;split
  ·rename_i hp;by_cases h:k=k'
   ·simp[fO,h]
   have:¬p.1=k':=by omega
   simp[fO,h,this]
  by_cases h:p.1=k'
  ·have:¬k=k':=by omega
   simp[fO,h,this]
  simp[fO,h,ih]
def bZ3{α:Type}{m:List (Int × α)}{k:Int}{v:α}{x:Int}(h:x∈(gI m k v).map (·.1)):x=k\/x∈m.map (·.1):=by
 induction m with
 | nil=>simpa [gI] using h
 | cons p m ih=>
  unfold gI at h;split at h
  ·simp only[zzo,zz0]at h ⊢;rcases h with h|h
   ·exact .inl h
   exact .inr (.inr h)
  simp only[zzo,zz0]at h ⊢;rcases h with h|h
  ·exact .inr (.inl h)
  rcases ih h with h|h
  ·exact .inl h
  exact .inr (.inr h)
def b_u{α:Type}{m:List (Int × α)}(h:(m.map (·.1)).Nodup)(k:Int)(v:α):((gI m k v).map (·.1)).Nodup:=by
 induction m with
 | nil=>simp[gI]
 | cons p m ih=>
  rw[zzo,ww5]at h
  unfold gI;split
  ·rename_i hp;rw[zzo,ww5];exact⟨by rw[<- hp];exact h.1,h.2⟩
  rename_i hp;rw[zzo,ww5];refine⟨λhm=>?_,ih h.2⟩;rcases bZ3 hm with e|e
  ·exact hp e
  exact h.1 e
def bZ8{α:Type}{m:List (Int × α)}{k:Int}:k∈m.map (·.1)↔∃v,fO m k=some v:=by
 induction m with
 | nil=>simp[fO]
 | cons p m ih=>
  by_cases h:p.1=k
  ·simp[fO,h]
  have:¬k=p.1:=λe=>h e.symm;simp only[zzo,zz0,this,false_or,ih,fO,h,wwb]
def lY.put{m:List (Int × Cell)}{C:List Cell}(h:lY m C)(c:Cell):lY (gI m c.key c) (mi C c):=
 ⟨λk=>by rw[bZ6,bI4,h.get],b_u h.nodup _ _⟩
def lY.nil:lY [] []:=⟨λk=>rfl,by simp⟩
def nodup_keys{C:List Cell}(h:rZ C):(C.map (·.key)).Nodup:=by
 unfold rZ at h;refine ww1.2 (h.imp λpS=>?_);omega
def lY.perm{m:List (Int × Cell)}{C:List Cell}(h:lY m C)(hs:rZ C):(m.map (·.1)).Perm (C.map (·.key)):=by
 refine (List.perm_ext_iff_of_nodup h.nodup (nodup_keys hs)).2 λk=>?_;rw[bZ8];simp only[h.get];constructor
 ·rintro ⟨c,hc⟩;obtain⟨h1,h2⟩:=bI1 hc;exact zzx.2 ⟨c,h2,h1⟩
 intro hk;obtain⟨c,hc,rfl⟩:=zzx.1 hk;exact⟨c,SY hs hc⟩
def lY.p7{m:List (Int × Cell)}{C:List Cell}(h:lY m C)(hs:rZ C):p7 m=C.map (·.key):=by
 have e:YtmkllimamejcgaaGreat.p7 m=(C.map (·.key)).mergeSort (λx y=>decide (x<=y)):=Go.mergeSort_of_perm_i (h.perm hs);rw[e];refine List.mergeSort_of_pairwise ?_;refine ww1.2 (uu9 (R:=λa b:Cell=>a.key<b.key) (λ{a b} pS=>?_) hs);simp only[zzw];omega
def lY.len{m:List (Int × Cell)}{C:List Cell}(h:lY m C)(hs:rZ C):m.length=C.length:=by simpa using (h.perm hs).length_eq
def lY.wf{m:List (Int × Cell)}{C:List Cell}(h:lY m C)(ok:y' C):∀p∈m,(Lit.int .i64 p.1).wf=true:=λp hp=>by
 have:p.1∈C.map (·.key):=(h.perm ok.1).subset (zzx.2 ⟨p,hp,rfl⟩);obtain⟨c,hc,hk⟩:=zzx.1 this;have:=ok.2 c hc;rw[hk]at this
 unfold lr at this;have h1:IntKind.i64.min = -9223372036854775808:=by decide
 have h2:IntKind.i64.max=9223372036854775807:=by decide
 simp only[Lit.wf,h1,h2,zzu,zzw];exact this
open Go.RowKit
structure fT where
 kind:Int
 keep:Int
def iO(f:fT):Ξ:=[Γ f.kind,Γ f.keep]
def HW(f:fT):(iO f).length=2:=rfl
def bFe(f:fT):∀v∈iO f,v.oneCell'=true:=by simp[iO,Value.oneCell']
def jc(f:fT):Bool:=decide (((f.kind=1\/f.kind=3)/\f.keep=0)\/(f.kind=2/\0<=f.keep))
def mM(p:List fT):List fT->List fT
 | []=>p
 | f::l=>mM (if jc f=true/\p.length<1024 then p++[f] else p) l
structure cM where
 g:cU
 d:DS
 ts:List (List Cell)
 plan:List fT
 aw:Int
 reqs:List Rq
def oG(L:List Rq)(n:ix):Option (List Rq):=
 if n.kind=2 then l6 L n.id n.dA n.done
 else match pD L n.table n.weight n.at_ with
  | some L'=>if n.id=L'.length then some L' else none
  | none=>none
def fY:List Rq->List ix->Option (List Rq)
 | L,[]=>some L
 | L,n::r=>match oG L n with
  | some L'=>fY L' r
  | none=>none
def sS(k:Nat)(x:cD):Bool:=x.ops.all λo=>decide (o.table<k)
def gb(k:Nat)(L:List Rq)(x:cD):Option (List Rq):=if eC x=true/\sS k x=true then fY L x.notes else none
def cM.AF(k:cM)(x:cD)(L:List Rq):cM:={k with ts:=(fA k.ts x.ops).1,reqs:=L,aw:=x.aw}
def gl(x:cD):Φ:=match uj x with
 | .ok b=>b
 | .error _=>[]
def cM.ga(k:cM)(x:cD)(L:List Rq):cM × Int:=
 let r:=eO k.g k.d (gl x)
 if r.2.2=0 then (cM.AF {k with g:=r.1.1,d:=r.1.2} x L,0) else ({k with g:=r.1.1,d:=r.1.2},r.2.2)
def cM.jw(k:cM)(x:cD)(n:Int):cM × Int:=
 let r:=f_ k.g k.d (gl x) n
 ({k with g:=r.1.1,d:=r.1.2},r.2)
def cM.fx(k:cM)(x:cD):cM × Int:=
 if eC x=false\/(k.aw<x.aw/\gb k.ts.length k.reqs x=none) then (k,1)
 else if k.d.off=true then (k,8)
 else
  let L:=(gb k.ts.length k.reqs x).getD []
  match k.plan with
  | []=>if k.aw<x.aw then k.ga x L else (k,0)
  | f::r=>
   let k':cM:={k with plan:=r}
   if f.kind=3 then (if k.aw<x.aw then ((k'.ga x L).1,if (k'.ga x L).2=0 then 9 else (k'.ga x L).2) else (k',9))
   else if f.kind=2/\k.aw<x.aw then ((k'.jw x f.keep).1,if (k'.jw x f.keep).2=0 then 9 else (k'.jw x f.keep).2)
   else (k',9)
abbrev Tr:=List (List Cell) × List Rq × Int
def stepT(cO:Nat)(t:Tr)(x:cD):Option Tr:=match gb cO t.2.1 x with
 | some L=>if t.2.2<x.aw then some ((fA t.1 x.ops).1,L,x.aw) else none
 | none=>none
def tS(cO:Nat):List (Φ)->Tr->Option Tr
 | [],t=>some t
 | b::r,t=>match nH b with
  | .ok x=>match stepT cO t x with
   | some t'=>tS cO r t'
   | none=>none
  | .error _=>none
def rQ(cO:Nat):Tr:=(List.replicate cO [],[],0)
def cM.tr(k:cM):Tr:=(k.ts,k.reqs,k.aw)
def kG(d:DS)(cO size:Int):DS × Except Int cM:=
 if cO<1\/8<cO then (d,.error 1)
 else match eN d 8192 size with
  | (d',.error e)=>(d',.error e)
  | (d',.ok g)=>
   if fj g.bF≠1/\fj g.bF<=cI g.bF then (d',.error 3)
   else match tS cO.toNat (cR g.bF) (rQ cO.toNat) with
    | none=>(d',.error 3)
    | some t=>(d',.ok ⟨g,d',t.1,[],t.2.2,t.2.1⟩)
set_option maxRecDepth 100000
def Wl:∀(p a b:List fT),mM p (a++b)=mM (mM p a) b
 | p,[],b=>rfl
 | p,f::a,b=>Wl _ a b
def DN(p:List fT)(f:fT):mM p [f]=if jc f=true/\p.length<1024 then p++[f] else p:=rfl
def cws{p l:List fT}{i:Nat}(h:i<l.length):mM p (l.take (i+1))=if jc l[i]=true/\(mM p (l.take i)).length<1024 then mM p (l.take i)++[l[i]] else mM p (l.take i):=by
 rw[zze h,Wl,DN]
def Kl:∀(l p:List fT),p.length<=1024->p.length<=(mM p l).length/\(mM p l).length<=1024
 | [],p,h=>⟨zzj _,h⟩
 | f::l,p,h=>by
  unfold mM;split
  ·rename_i hc;have:=Kl l (p++[f]) (by rw[zza,yya];omega);rw[zza,yya]at this
   omega
  exact Kl l p h
def gD(p:Nat)(L:List fT):zB:=jK λv:Ε=>zG True [.pt p [v] 225,.ob (dt v 33 2 L.length (L.map iO).flatten)]
def gD.iff{W w:Ζ}{p:Nat}{L:List fT}{l:Β}:SL W (.ob (gD p L)::l) w↔∃v,SL W (.pt p [v] 225::.ob (dt v 33 2 L.length (L.map iO).flatten)::l) w:=by
 unfold gD;simp only[SL.ex,SL.fact,zzv,zzr,uut]
def bIq:SP 142 [] [] (λv post=>∃p:Nat,v= Δ p/\post=[.ob (gD p [])]):=by
 refine Enzz λW F w hS=>?_;apply cE8;delta L5 bI;refine Gp ?_;refine zw hS λb w hS=>?_;have hS:=(gD.iff (L:=[])).2 ⟨_,SL.b_ (dt.rJ (a:=none) (t:=33) (sz:=2) hS) (t:=.pt b [Θ] 225::.ob (dt Θ 33 2 0 [])::F) Xi⟩;exact⟨_,⟨b,rfl,rfl⟩,hS⟩
def Yw(f:fT):SP 178 [agg (iO f)] [] (cE (.bool (jc f)) []):=by
 refine Enzz λW F w hS=>?_;apply cGa;delta MI aI a_ bY ai;refine zw hS λb w hS=>?_;unfold iO at hS;refine bZ (λh=>?_) (λh=>?_)
 ·refine Gp ?_;have e:jc f=decide (f.keep=0):=by unfold jc;rw[yyi];omega
  rw[e];(exact cC hS)
 refine bZ (λh2=>?_) (λh2=>?_)
 ·refine Gp ?_;have e:jc f=decide (f.keep=0):=by unfold jc;rw[yyi];omega
  rw[e];(exact cC hS)
 refine bZ (λh3=>?_) (λh3=>?_)
 ·refine Gp ?_;have e:jc f=decide (0<=f.keep):=by unfold jc;rw[yyi];omega
  rw[e];(exact cC hS)
 have e:jc f=false:=by unfold jc;rw[xxc];omega
 rw[e];(exact cC hS)
def bIo(p:Nat)(L:List fT):SP 73 [Δ p] [.ob (gD p L)] (cE (Γ L.length) [.ob (gD p L)]):=by
 refine Enzz λW F w hS=>?_;apply cLn;delta PO bU;obtain⟨v,hS⟩:=gD.iff.1 hS;refine Gp ?_;refine zJ hS Xh ?_;exact⟨_,⟨rfl,rfl⟩,gD.iff.2 ⟨v,hS⟩⟩
def ZX(H:bw)(p:Nat)(L l:List fT)(v:Ε)(hv:dq H 2 v l.length (l.map iO).flatten)(hl:l.length<=1000000)(hL:L.length<=1024):
  SP 179 [Δ p,v] [.ob (gD p L),.mem H] (cE (Γ (((mM L l).length-L.length:Nat):Int)) [.ob (gD p (mM L l)),.mem H]):=by
 refine Enzz λW F w hS=>?_;apply cGb;delta MJ aI bU cV aR bV ai;refine zo hv ?_;refine⟨λvs w=>∃i:Nat,vs=[Γ (((mM L (l.take i)).length-L.length:Nat):Int),Γ i]/\i<=l.length/\SL W (.ob (gD p (mM L (l.take i)))::.mem H::F) w,
  λvs _=>match vs with|[_,.int _ i]=>(l.length-i).toNat|_=>0,⟨0,by simp[mM],by omega,hS⟩,?_⟩
 clear hS;rintro v5 v10 w ⟨i,eU,hi,hS⟩;cases eU;refine bZ (λh=>?_) (λh=>?_)
 ·have cz:i<l.length:=by omega
  have ht:=cws (p:=L) cz;have hle:=Kl (l.take i) L hL;refine zD hS Xh HW hv (x:=l[i]) (by simp[cz]) cz ?_;refine Gm λb w hS=>?_;generalize hM:mM L (l.take i)=M at *
  generalize hf:l[i]=f at *
  refine Cg (Yw f) λw hS=>?_;refine yT (λhm=>?_) (λhm=>?_)
  ·obtain⟨pv,hS⟩:=gD.iff.1 (SL.b_ hS (t:=.ob (gD p M)::.pt b (iO f) 33::.mem H::F) Xi);refine Gp ?_;refine zJ hS (v:=pv) Xh ?_;refine bZ (λh2=>?_) (λh2=>?_)
   ·rw[zzd ⟨hm,by omega⟩]at ht
    refine Gm λb w hS=>?_;refine qN (t:=33) (n:=M.length) (xs:=M) (y:=f) (enc:=iO) hS Xr Xh HW bFe rfl rfl (by omega) (by omega) ?_;clear hS;intro nv w hS;have h1:=dt.one hS .hd;refine Gn λw hS=>?_;refine⟨⟨i+1,by rw[ht,zza,yya,show M.length+1-L.length=M.length-L.length+1 by omega],by omega,?_⟩,by dsimp only;omega⟩;rw[ht];refine gD.iff.2 ⟨nv,?_⟩;rw[show (M++[f]).length=M.length+1 by simp];exact aW hS
   rw[zzb (λh=>h2 (by omega))]at ht
   refine Gp ?_;refine⟨⟨i+1,by rw[ht],by omega,?_⟩,by dsimp only;omega⟩;rw[ht];exact gD.iff.2 ⟨pv,aW hS⟩
  rw[zzb (λh=>by rw[hm]at h;exact Bool.false_ne_true h.1)]at ht
  refine Gp ?_;refine⟨⟨i+1,by rw[ht],by omega,?_⟩,by dsimp only;omega⟩;rw[ht];exact aW hS
 have:i=l.length:=by omega
 subst this;rw[zz4]at *
 (exact cC hS)
def bIs(p:Nat):SP 343 [Δ p] [.ob (gD p [])] (cE (.tuple #[agg (iO ⟨0,0⟩),.bool false]) [.ob (gD p [])]):=by
 refine Enzz λW F w hS=>?_;apply XV;delta G_ aI bU cV ai;obtain⟨v,hS⟩:=gD.iff.1 hS;refine Gm λb w hS=>?_;refine zJ hS (v:=v) Xh ?_;refine Gp ?_;refine za (λh=>?_) (λh=>absurd rfl h);refine Gn λw hS=>?_;exact⟨_,⟨rfl,rfl⟩,gD.iff.2 ⟨v,aW hS⟩⟩
def bIr(p:Nat)(f:fT)(r:List fT)(hr:r.length<=1024):SP 343 [Δ p] [.ob (gD p (f::r))] (cE (.tuple #[agg (iO f),.bool true]) [.ob (gD p r)]):=by
 refine Enzz λW F w hS=>?_;apply XV;delta G_ aI bU cV ai;obtain⟨v,hS⟩:=gD.iff.1 hS;refine Gm λb w hS=>?_;refine zJ hS (v:=v) Xh ?_;refine Gp ?_;refine za (λh=>by rw[zzi]at h;omega) (λh=>?_);refine Gp ?_;refine qQ (j:=0) (k:=.i64) hS (t:=33) (v:=v) (enc:=iO) (xs:=f::r) Xh HW rfl (by simp) ?_;refine Gm λb w hS=>?_;refine Yd (k:=1) (v:=v) (Has.front hS Xr) (by simp) λu hS=>?_;have hS:SL W (.ob (dt u 33 2 r.length (r.map iO).flatten)::_) _:=hS;have h1:=dt.one hS .hd;refine Gn λw hS=>?_;exact⟨_,⟨rfl,rfl⟩,gD.iff.2 ⟨u,SL.b_ (t:=.pt p [u] 225::.ob (dt u 33 2 r.length (r.map iO).flatten)::F) hS Xi⟩⟩
def CJ(f:fT):fT:=if md f.kind 3=1 then ⟨2,md f.keep 300⟩ else ⟨1+md f.kind 3,0⟩
def qE(f:fT):SP 45 [agg (iO f)] [] (cE (agg (iO (CJ f))) []):=by
 refine Enzz λW F w hS=>?_;apply cKy;delta Po aI a_ ai;refine zw hS λb w hS=>?_;unfold iO at hS;refine Gm λb w hS=>?_;have hm:=h_ f.kind 3 (by decide);refine Cg (ya f.kind 3 (by decide) (by decide)) λw hS=>?_;refine za (λh=>?_) (λh=>?_)
 ·refine Gp ?_;refine Cg (ya f.keep 300 (by decide) (by decide)) λw hS=>?_;have e:CJ f=⟨2,md f.keep 300⟩:=zzd (by omega);rw[e];have e2:(1:Int)+md f.kind 3=2:=h;rw[e2]at hS ⊢
  (exact cC hS)
 refine Gn λw hS=>?_;have e:CJ f=⟨1+md f.kind 3,0⟩:=zzb (by omega);rw[e];(exact cC hS)
