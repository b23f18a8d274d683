/- Part. -/
import Derived.Test.YthohmpdacdmclaaGreatDoorJ2
import Derived.Test.YthohmpdacdmclaaGreatDoorQVcA
import Derived.Test.YthohmpdacdmclaaGreatDoorQLay
namespace Go.Proofs.YthohmpdacdmclaaGreatDoor
set_option linter.all false
open Go.RowKit Go.Maps Go.Sort Go.Shelf Go.Proofs.Tryz
def yyp:=@congrArg
def uu4:=@callsIn_wide
def yy7:=@List.length_filter_le
def xxv:=@List.pairwise_iff_getElem
def xxc:=@List.mem_iff_getElem
def xxf:=@List.set_eq_take_append_cons_drop
def zzg:=@List.append_assoc
def vva:=@List.getElem_take
def zz4:=@List.mem_append
def vvq:=@List.pairwise_map
def vvi:=@List.getElem_cons_zero
def vv7:=@List.filter_cons_of_neg
def zzv:=@List.length_map
def vve:=@List.mem_of_mem_eraseIdx
def uul:=@List.nodup_cons
def vvn:=@List.perm_append_comm
def vvj:=@List.map_set
def vv9:=@List.ext_getElem?
def yy1:=@Nat.le_trans
def yyj:=@Int.le_refl
def uur:=@UInt8.toNat_ofNat'
def ww8:=@Int.emod_nonneg
def vv1:=@Int.emod_lt_of_pos
def vvr:=@Int.fdiv_eq_ediv_of_nonneg
def zzn:=@List.cons_append
def zzo:=@List.nil_append
def vv2:=@List.getElem?_take
def wwv:=@List.drop_left
def wwg:=@List.take_left
def zz3:=@List.append_nil
def wwe:=@List.foldl_append
def uu7:=@List.foldl_nil
def uu8:=@List.take_zero
def wwq:=@Nat.not_lt
def ww1:=@IntKind.wrap_u64
def xxb:=@List.drop_eq_nil_of_le
def yyc:=@underlying3
def uua:=@List.getElem?_map
def uus:=@true_and
def wwr:=@underlying137
def vvm:=@Option.map_none
def ww2:=@Option.getD_none
def yyo:=@Option.map_some
def xxq:=@Option.getD_some
def www:=@List.set_append_left
def vvo:=@List.set_append_right
def yyb:=@List.length_singleton
def yy5:=@List.not_mem_nil
def vvb:=@or_false
def zzr:=@List.map_append
def yyg:=@List.mem_of_mem_take
def vvs:=@Nat.mul_one
def zzw:=@Int.toNat_natCast
def xx2:=@List.ext_getElem
def xx8:=@List.getElem_set
def xx9:=@List.getElem_map
def zzk:=@List.getElem_mem
def vM{α:Type}(m:List (Int × α)):Ω:=(m.map (·.1)).mergeSort (λx y=>decide (x<=y))
section
variable {W w:Ζ} {l:Β} {P:Program} {ρ σ:Ren} {b:Nat} {α:Type} {val:α->Ε} {m:List (Int × α)}
def SL.kept{w':Ζ}(h:SL W l w)(hb:Below w.heap.size w w'):SL W l w':=by
 obtain⟨a1,a2,a3,k,s,x⟩:=h;refine⟨hb.os.trans a1,hb.tape.trans a2,hb.output.trans a3,k,s,λb o e=>?_⟩;have e1:=x b o e;rw[hb.block b (xxe.1 e1).1];exact e1
def SL.bm3{w':Ζ}{g:Nat}{cs:Ξ}{t:Ι}(h:SL W l w)(hb:Below w.heap.size w w')(hg:w.heap.size<=g)(he:w'.heap[g]?=some (.cells cs.toArray t (0,0))):SL W (.pt g cs t::l) w':=by
 obtain⟨a1,a2,a3,k,s,x⟩:=h;have hk:k g=none:=by
  cases hx:k g with
  | none=>rfl
  | some y=>have:=(xxe.1 (x g y hx)).1;omega
 refine⟨hb.os.trans a1,hb.tape.trans a2,hb.output.trans a3,λy=>if y=g then some (.cells cs.toArray t (0,0)) else k y,⟨a_.one g (.cells cs.toArray t (0,0)),k,λy=>?_,⟨(0,0),.inl rfl,rfl⟩,s⟩,λy o e=>?_⟩
 ·by_cases hy:y=g
  ·subst hy;exact .inr ⟨hk,by simp[a_.one]⟩
  exact .inl ⟨by simp[a_.one,hy],by simp[hy]⟩
 by_cases hy:y=g
 ·subst hy;simp at e;rw[he,e]
 simp[hy]at e
 have e1:=x y o e;rw[hb.block y (xxe.1 e1).1];exact e1
def SL.bm4{w':Ζ}{v:Ε}{n:Nat}{t:Ι}{xs:Ξ}(h:SL W l w)(hb:Below w.heap.size w w')(hr:w'.ownsRow w.heap.size t 1 v n xs):SL W (.ob (bd v t 1 n xs)::l) w':=by
 obtain⟨hx,h2⟩:=hr;rcases h2 with ⟨rfl,rfl⟩|⟨g,cap,cur,rfl,hg,he,h3,h4,h5,h6⟩
 ·obtain rfl:xs=[]:=zzl (by simpa using hx);exact bd.nil (h.kept hb)
 refine bd.mk (rest:=cur.toList.drop (n*1)) h3 hx ?_ (h.bm3 hb hg ?_)
 ·rw[zzq,Array.length_toList,h5,wwo]
 rw[<- h6,yyf];exact he
def br3{H:Type}{kt:Ι}(IE:P.underlying kt=some (.int .i64))(hS:SL W l w)(hm:Has (.ob (dx (Value.int .i64) val b m)) l)(hlen:m.length<=maxLen)(C3:∀p∈m,(Lit.int .i64 p.1).wf=true):
  ∃D:DataW H,w.ownsMap P kt (λ_=>some (.nil,[])) b m.length D/\(intKeys D).Perm (m.map (·.1))/\Maps.size D=m.length:=by
 obtain⟨es,c,e1,e2,hb⟩:=hS.xm hm;have hl:es.length=m.length:=by simpa using yyp List.length e1
 have wO:∀x∈es,∃p∈m,x.key= .int .i64 p.1:=λx hx=>by
  have:kv x∈es.map kv:=zz5.2 ⟨x,hx,rfl⟩;rw[e1]at this
  obtain⟨p,hp,hq⟩:=zz5.1 this;exact⟨p,hp,(Prod.mk.inj hq).1.symm⟩
 have cJ:∀x∈es,∀a,x.key= .int .i64 a->WideElems.rd P kt (λ_=>some ((.nil:DataW H),[])) x=some (.int .i64 a,.nil):=λx hx a ha=>by
  obtain⟨p,hp,hq⟩:=wO x hx;rw[ha]at hq;cases hq
  have hw:=C3 p hp;simp[WideElems.rd,keyOf,IE,mapKey,ha,hw]
 refine⟨_,⟨es.toArray,c,hb,⟨by simpa [hl] using hlen,e2,λx hx=>?_⟩,by simp[hl],rfl⟩,?_,?_⟩
 ·obtain⟨p,hp,hq⟩:=wO x (by simpa using hx);exact⟨_,cJ x (by simpa using hx) _ hq⟩
 ·show (List.map (λp:Lit × DataW H=>Go.intOf p.1) _).Perm _;refine ((WideShapes.sorted_perm _).map _).trans ?_;rw[xxh];have:es.map ((λp:Lit × DataW H=>Go.intOf p.1)∘WideElems.rg P kt (λ_=>some ((.nil:DataW H),[])))=m.map (·.1):=by
   have h1:es.map ((λp:Lit × DataW H=>Go.intOf p.1)∘WideElems.rg P kt (λ_=>some ((.nil:DataW H),[])))=(es.map kv).map λq=>match q.1 with | .int _ a=>a|_=>0:=by
    rw[xxh];refine List.map_congr_left λx hx=>?_;obtain⟨p,hp,hq⟩:=wO x hx;simp[WideElems.rg_of (cJ x hx _ hq),kv,hq,Go.intOf]
   rw[h1,e1,xxh];rfl
  simpa using this▸List.Perm.refl _
 rw[Maps.size_eq,(WideShapes.sorted_perm _).length_eq];simp[hl]
def bm7(L7:SlLaysZI.n7 P ρ)(L6:SlLaysZI.n6 P σ)(bkd:∀m,AnyZI.SortsIn P σ Fence.wide m)(e9:∀args w,(callFunc (σ.f 9) args).run P w= .ok (.enter (σ.f 9) args) w)(e10:∀args w,(callFunc (ρ.f 10) args).run P w= .ok (.enter (ρ.f 10) args) w)
  (IE:P.underlying (ρ.t 26)=some (.int .i64)) (hS:SL W l w) (hm:Has (.ob (dx (Value.int .i64) val b m)) l) (hlen:m.length*8<=140737488355328) (C3:∀p∈m,(Lit.int .i64 p.1).wf=true) {K:Ε->Ζ->Prop}
  (h:∀v w',SL W (.ob (bd v (σ.t 26) 1 m.length ((vM m).map (Value.int .i64)))::l) w'->K v w') :
  zJ P (ρ.f 7) [.map (some b)] w λv1 w1=>zJ P (σ.f 6) [v1] w1 K:=by
 obtain⟨D,T_,CM,fw⟩:=br3 (H:=Unit) IE hS hm (by unfold maxLen;omega) C3;refine (uu4 (n:=5)).1 ((AnyZI.keys_in L7 Fence.wide 5 trivial rfl (some b) w).mono ?_);rintro e w1 ⟨rfl,rfl⟩;refine⟨_,rfl,?_⟩;have o7:=T_.lt;have I3:SeqGives Fence.wide 2 P (ρ.f 10) #[.pointer (some ⟨w.heap.size,0,none⟩)] encZ (λss=>ss.Perm (intKeys D)) (Maps.size D) (w.alloc (.cells #[.map (some b)] (ρ.t 23))):=
  AnyZI.keys_gives (ρ:=ρ) {L7 with} Fence.wide _ trivial rfl (by omega) w.heap.size b m.length D _ (by simp) (by simp) (by
   obtain⟨es,clock,hb,Ft,hs,hD⟩:=T_;exact⟨es,clock,(Below.heap_alloc _ _ b o7).trans hb,Ft,hs,hD⟩)
 have cS:=AnyZI.sorted_in L6 Fence.wide 5 trivial trivial trivial trivial rfl (by omega) (bkd _) e9 (ρ.f 10) #[.pointer (some ⟨w.heap.size,0,none⟩)] trivial e10 _ _ (by rw[fw];unfold maxLen;omega) (by rw[fw];exact hlen) _ I3;refine (uu4 (n:=5)).1 (cS.mono ?_);rintro e w' ⟨v,ss,rfl,AH,pV,IN,hb⟩;refine⟨v,rfl,h v w' ?_⟩;have hp:=AH.trans CM;have bjk:ss.length=m.length:=by simpa using hp.length_eq
 have mu:ss.mergeSort (λx y=>decide (x<=y))=vM m:=mergeSort_of_perm_i hp;rw[bjk,mu]at pV
 have mj:Below w.heap.size w w':=((Below.refl _ w).alloc (zzj _) _).trans (hb.mono (by simp));exact hS.bm4 mj (ownsRow_base_a pV (by simp))
end
section
variable {α:Type} (key:α->Int)
def eJ(L:List α):Prop:=L.Pairwise λa b=>key a<key b
def eE(L:List α)(k:Int):Nat:=(L.filter λx=>decide (key x<k)).length
variable {key}
def D8(L:List α)(k:Int):eE key L k<=L.length:=yy7 _ _
def Hp{L:List α}(hs:eJ key L)(k:Int):∀j (h:j<L.length),key L[j]<k↔j<eE key L k:=by
 unfold eJ at hs;unfold eE;induction L with
 | nil=>intro j h;simp at h
 | cons x L ih=>
  rw[yyi]at hs
  grind
def aW3{L:List α}(hs:eJ key L)(k:Int){i:Nat}(hi:i<=L.length)(h1:∀j (h:j<L.length),j<i->key L[j]<k)(h2:∀h:i<L.length,¬key L[i]<k):eE key L k=i:=by
 have hle:=D8 (key:=key) L k;rcases Nat.lt_trichotomy (eE key L k) i with h|h|h
 ·have:=(Hp hs k _ (by omega)).1 (h1 (eE key L k) (by omega) h);omega
 ·exact h
 have:=h2 (by omega);have h3:=(Hp hs k i (by omega)).2 h
 grind
theorem BV{L:List α}(hs:eJ key L){k:Int}{j:Nat}(hj:j<L.length)(h:key L[j]=k):eE key L k=j:=by
 refine aW3 hs k (by omega) (λi hi wM=>?_) (λ_=>by omega);have:=xxv.1 hs i j hi hj wM;omega
def ic(key:α->Int)(L:List α)(k:Int):Bool:=match L[eE key L k]? with
 | some x=>decide (key x=k)
 | none=>false
theorem xf{L:List α}(hs:eJ key L){k:Int}:ic key L k=true↔∃x∈L,key x=k:=by
 unfold ic;constructor
 ·grind
 rintro ⟨x,hx,rfl⟩;obtain⟨j,hj,rfl⟩:=xxc.1 hx
 grind [BV]
theorem s6{L:List α}{k:Int}(h:ic key L k=true):∃hl:eE key L k<L.length,key L[eE key L k]=k:=by
 grind [ic]
def Jl{L:List α}(hs:eJ key L){k:Int}(h:ic key L k=false):∀x∈L,key x≠k:=λx hx e=>by
 grind [xf]
def cP(key:α->Int)(L:List α)(k:Int):Option α:=if ic key L k then L[eE key L k]? else none
def fm(key:α->Int)(L:List α)(x:α):List α:=L.take (eE key L (key x))++[x]++L.drop (if ic key L (key x) then eE key L (key x)+1 else eE key L (key x))
def jb(key:α->Int)(L:List α)(k:Int):List α:=if ic key L k then L.eraseIdx (eE key L k) else L
theorem FW{L:List α}{x:α}(h:ic key L (key x)=true):fm key L x=L.set (eE key L (key x)) x:=by
 obtain⟨hl,_⟩:=s6 h;unfold fm;rw[zzc h,xxf,zzc hl];simp
theorem tM{L:List α}{k:Int}{x:α}(h:cP key L k=some x):x∈L/\key x=k:=by
 grind [cP,s6]
theorem sO{L:List α}(hs:eJ key L){x:α}(h:x∈L):cP key L (key x)=some x:=by
 unfold cP;rw[zzc ((xf hs).2 ⟨x,h,rfl⟩)];obtain⟨j,hj,rfl⟩:=xxc.1 h
 grind [BV]
def HY{L:List α}(hs:eJ key L){k:Int}:cP key L k=none↔∀x∈L,key x≠k:=by
 grind [sO,cP,tM]
theorem Xe{L:List α}(hs:eJ key L){i:Nat}(hi:i<L.length){x:α}(hx:key x=key L[i]):eJ key (L.set i x):=by
 unfold eJ at *
 rw[xxv]at *
 grind
def J9{L:List α}(hs:eJ key L){x:α}(h:ic key L (key x)=false):(fm key L x).Perm (x::L):=by
 unfold fm;rw[zzb (by rw[h];decide)];have:L=L.take (eE key L (key x))++L.drop (eE key L (key x)):=by simp
 conv=>rhs;rw[this]
 rw[zzg];exact vvv
theorem FX{L:List α}(hs:eJ key L)(x:α):eJ key (fm key L x):=by
 cases h:ic key L (key x) with
 | true=>
  grind [FW,s6,Xe]
 | false=>
  have hn:=Jl hs h;unfold fm;rw[zzb (by rw[h];decide)];have b9:=Hp hs (key x);have hle:=D8 (key:=key) L (key x);unfold eJ at *
  rw[zzg,List.pairwise_append];refine⟨hs.sublist (List.take_sublist _ _),?_,λa ha b hb=>?_⟩
  ·rw[List.singleton_append,yyi];refine⟨λb hb=>?_,hs.sublist (List.drop_sublist _ _)⟩;obtain⟨j,hj,rfl⟩:=xxc.1 hb
   grind
  obtain⟨j,hj,rfl⟩:=xxc.1 ha;rw[vva];have pQ:j<eE key L (key x)/\j<L.length:=by simp at hj;omega
  have h1:=(b9 j pQ.2).2 pQ.1;rcases zz4.1 hb with hb|hb
  ·grind
  obtain⟨i,hi,rfl⟩:=xxc.1 hb
  grind
def RX{L:List α}(hs:eJ key L)(k:Int):eJ key (jb key L k):=by
 unfold jb;split
 ·exact hs.sublist (List.eraseIdx_sublist _ _)
 exact hs
def bqq{L:List α}(hs:eJ key L):(L.map key).Nodup:=by
 refine vvq.2 (List.Pairwise.imp (R:=λa b=>key a<key b) (λ{a b} tR=>?_) hs);omega
def bcd{L:List α}(hs:eJ key L)(k:Int):jb key L k=L.filter λx=>decide (key x≠k):=by
 unfold jb;split
 ·rename_i h;obtain⟨hl,e⟩:=s6 h;generalize eE key L k=i at *
  have mr:=hs;unfold eJ at mr;clear h hs;induction L generalizing i with
  | nil=>simp at hl
  | cons y L ih=>
   rw[yyi]at mr
   cases i with
   | zero=>
    simp only[vvi]at e;rw[List.eraseIdx_cons_zero,vv7 (by simp[e])];symm;rw[yyy]
    grind
   | succ i=>
    grind
 rename_i h;have hn:=Jl hs (by simpa using h);symm;rw[yyy]
 grind
theorem BW{β:Type}{kb:β->Int}{f:β->α}(hf:∀b,key (f b)=kb b)(L:List β)(k:Int):eE key (L.map f) k=eE kb L k:=by
 unfold eE;rw[List.filter_map,zzv];congr 2
 grind
theorem Jm{β:Type}{kb:β->Int}{f:β->α}(hf:∀b,key (f b)=kb b)(L:List β)(k:Int):ic key (L.map f) k=ic kb L k:=by
 grind [ic,BW]
def bts{β:Type}{kb:β->Int}{f:β->α}(hf:∀b,key (f b)=kb b)(L:List β)(b:β):(fm kb L b).map f=fm key (L.map f) (f b):=by
 unfold fm;rw[Jm hf,BW hf,hf];simp
theorem Vm{α β:Type}(f:β->α):∀(L:List β) (i:Nat),(L.eraseIdx i).map f=(L.map f).eraseIdx i
 | [],_=>rfl
 | x::L,0=>rfl
 | x::L,i+1=>by simp only[List.eraseIdx_cons_succ,zzp,Vm f L i]
def bcf{β:Type}{kb:β->Int}{f:β->α}(hf:∀b,key (f b)=kb b)(L:List β)(k:Int):(jb kb L k).map f=jb key (L.map f) k:=by
 grind [jb,Jm,BW,Vm]
theorem AV{L:List α}{x y:α}(h:y∈fm key L x):y=x\/y∈L:=by
 grind [fm]
def FH{L:List α}{k:Int}{y:α}(h:y∈jb key L k):y∈L:=by
 unfold jb at h;split at h
 ·exact vve h
 exact h
end
section
variable {α β:Type} {key:α->Int} {val:α->β} {m:List (Int × β)} {L:List α}
def jA(key:α->Int)(val:α->β)(m:List (Int × β))(L:List α):Prop:=m.Perm (L.map λx=>(key x,val x))/\eJ key L
def jA.nodup(h:jA key val m L):(m.map (·.1)).Nodup:=by
 have:=h.1.map (·.1);rw[xxh]at this
 exact this.nodup_iff.2 (bqq h.2)
def VF(hn:(m.map (·.1)).Nodup)(k:Int)(v:β):fD m k=some v↔(k,v)∈m:=by
 induction m with
 | nil=>simp[fD]
 | cons p m ih=>
  grind [fD]
def jA.get(h:jA key val m L)(k:Int):fD m k=(cP key L k).map val:=by
 cases hg:cP key L k with
 | some x=>
  obtain⟨hx,rfl⟩:=tM hg;exact (VF h.nodup _ _).2 (h.1.symm.subset (zz5.2 ⟨x,hx,rfl⟩))
 | none=>
  cases hm:fD m k with
  | none=>rfl
  | some v=>
   obtain⟨x,hx,e⟩:=zz5.1 (h.1.subset ((VF h.nodup _ _).1 hm));cases e;exact absurd rfl ((HY h.2).1 hg x hx)
def boy(hn:(m.map (·.1)).Nodup)(k:Int):p4 m k=m.filter λp=>decide (p.1≠k):=by
 induction m with
 | nil=>rfl
 | cons p m ih=>
  rw[zzp,uul]at hn
  unfold p4;split
  ·rename_i e;rw[vv7 (by simp[e])];symm;rw[yyy]
   grind
  grind
def jA.del(h:jA key val m L)(k:Int):jA key val (p4 m k) (jb key L k):=by
 refine⟨?_,RX h.2 k⟩;rw[boy h.nodup,bcd h.2];have:=h.1.filter λp=>decide (p.1≠k)
 rwa [List.filter_map]at this
def bqf{k:Int}(hn:fD m k=none)(v:β):fN m k v=m++[(k,v)]:=by
 induction m with
 | nil=>rfl
 | cons p m ih=>
  grind [fD,fN]
def jA.add(h:jA key val m L){x:α}(hn:ic key L (key x)=false):jA key val (fN m (key x) (val x)) (fm key L x):=by
 refine⟨?_,FX h.2 x⟩;have hg:cP key L (key x)=none:=(HY h.2).2 (Jl h.2 hn);rw[bqf (by rw[h.get,hg];rfl)];have h1:=(J9 h.2 hn).map λx=>(key x,val x);refine (vvn.trans ?_).trans h1.symm;rw[zzp];exact h.1.cons _
def jA.ri(h:jA key val m L){i:Nat}(hi:i<L.length){x:α}(h1:key x=key L[i])(h2:val x=val L[i]):jA key val m (L.set i x):=by
 refine⟨?_,Xe h.2 hi h1⟩;have e:(L.set i x).map (λx=>(key x,val x))=L.map λx=>(key x,val x):=by
  rw[vvj,h1,h2];refine vv9 λj=>?_
  grind
 rw[e];exact h.1
def jA.vM(h:jA key val m L):vM m=L.map key:=by
 have hp:(m.map (·.1)).Perm (L.map key):=by
  have:=h.1.map (·.1)
  rwa [xxh]at this
 have e:YthohmpdacdmclaaGreatDoor.vM m=(L.map key).mergeSort (λx y=>decide (x<=y)):=Go.mergeSort_of_perm_i hp;rw[e];refine List.mergeSort_of_pairwise ?_;refine vvq.2 (List.Pairwise.imp (R:=λa b:α=>key a<key b) (λ{a b} tR=>?_) h.2)
 grind
def jA.len(h:jA key val m L):m.length=L.length:=by simpa using h.1.length_eq
def jA.nil:jA key val [] []:=⟨.refl _,.nil⟩
end
structure PF where
 id:Int
 safe:Nat
 b:Φ
def bU(x:Κ):Ε:=.int .u8 (x.toNat:Int)
structure DS where
 R:List PF
 off:Bool
 arm:Int
 ops:Nat
def xt(f:Int):PF:=⟨f,0,[]⟩
def jM(R:List PF)(f:Int)(b:Φ):List PF:=fm PF.id R ⟨f,((cP PF.id R f).getD (xt f)).safe,((cP PF.id R f).getD (xt f)).b++b⟩
def jz(R:List PF)(f:Int)(g:PF->PF):List PF:=match cP PF.id R f with
 | some x=>fm PF.id R {g x with id:=f}
 | none=>R
def may(s:DS)(f:Int):Int:=if s.off=true then 8 else if f<0\/16384<=f then 1 else 0
def DS.bG(s:DS):DS:={s with off:=decide (s.arm=1),arm:=if 0<s.arm then s.arm-1 else s.arm,ops:=s.ops+1}
def DS.err(s:DS):Int:=if s.off=true then 8 else 0
def DS.find(s:DS)(f:Int):Int:=if may s f≠0 then may s f else if ic PF.id s.R f=true then 0 else 5
def DS.append(s:DS)(f:Int)(b:Φ):DS × Int:=if may s f≠0 then (s,may s f) else ({s.bG with R:=jM s.R f b},s.bG.err)
def DS.sync(s:DS)(f:Int):DS × Int:=if s.find f≠0 then (s,s.find f) else if s.bG.off=true then (s.bG,8) else ({s.bG with R:=jz s.R f λx=>{x with safe:=x.b.length}},0)
def gi(R:List PF)(f:Int):Int:=match cP PF.id R f with
 | some x=>x.b.length
 | none=>-1
def iB(n:Nat)(x:PF):PF:={x with b:=x.b.take n,safe:=min x.safe n}
def DS.cut(s:DS)(f n:Int):DS × Int:=if s.find f≠0 then (s,s.find f) else if n<0\/gi s.R f<n then (s,1) else if s.bG.off=true then (s.bG,8) else ({s.bG with R:=jz s.R f (iB n.toNat)},0)
def DS.remove(s:DS)(f:Int):DS × Int:=if s.find f≠0 then (s,s.find f) else if s.bG.off=true then (s.bG,8) else ({s.bG with R:=jb PF.id s.R f},0)
def DS.pC(s:DS)(n:Int):DS:={s with arm:=max n 0}
def jd(keep:Ω)(i:Nat)(x:PF):Nat:=match keep[i]? with
 | some k=>if 0<k then k.toNat % (x.b.length-x.safe+1) else 0
 | none=>0
def iA(keep:Ω)(i:Nat)(x:PF):PF:=⟨x.id,min (x.safe+jd keep i x) x.b.length,x.b.take (x.safe+jd keep i x)⟩
def dU(R:List PF)(keep:Ω):List PF:=R.mapIdx (iA keep)
def DS.dB(s:DS)(keep:Ω):DS:={s with R:=dU s.R keep,off:=false,arm:=0}
structure DS.Ok(s:DS)(N:Nat):Prop where
 sorted:eJ PF.id s.R
 ids:∀x∈s.R,0<=x.id/\x.id<16384
 safe:∀x∈s.R,x.safe<=x.b.length
 len:∀x∈s.R,x.b.length<=N
 oP:0<=s.arm
 pB:s.arm<=9223372036854775807
theorem xq{keep:Ω}{i:Nat}{x:PF}(h:x.safe<=x.b.length):x.safe+jd keep i x<=x.b.length:=by
 unfold jd;split
 ·split
  ·have:=vvc (Int.toNat ‹Int›) (show 0<x.b.length-x.safe+1 by omega);omega
  omega
 omega
def BX{keep:Ω}{i:Nat}{x:PF}(h:x.safe<=x.b.length):(iA keep i x).b.length=x.safe+jd keep i x:=by
 grind [xq,iA]
def D'{keep:Ω}{i:Nat}{x:PF}(h:x.safe<=x.b.length):(iA keep i x).safe=x.safe+jd keep i x:=by
 grind [xq,iA]
def FI{R:List PF}{f:Int}{g:PF->PF}{y:PF}(h:y∈jz R f g):y∈R\/∃x∈R,x.id=f/\y={g x with id:=f}:=by
 grind [jz,tM,AV]
def SR{R:List PF}{f:Int}{N:Nat}(h:∀x∈R,x.b.length<=N):((cP PF.id R f).getD (xt f)).b.length<=N:=by
 cases e:cP PF.id R f with
 | none=>exact zz6 _
 | some x=>exact h x (tM e).1
def bf8{R:List PF}{f:Int}(h:∀x∈R,x.safe<=x.b.length):((cP PF.id R f).getD (xt f)).safe<=((cP PF.id R f).getD (xt f)).b.length:=by
 cases e:cP PF.id R f with
 | none=>exact zz6 _
 | some x=>exact h x (tM e).1
def DS.Ok.mono{s:DS}{N M:Nat}(h:s.Ok N)(hm:N<=M):s.Ok M:=⟨h.sorted,h.ids,h.safe,λx hx=>yy1 (h.len x hx) hm,h.oP,h.pB⟩
def DS.Ok.bG{s:DS}{N:Nat}(h:s.Ok N):s.bG.Ok N:=by
 have h0:=h.oP;have h1:=h.pB;refine⟨h.sorted,h.ids,h.safe,h.len,?_,?_⟩<;>simp only[DS.bG]<;>split<;>omega
def DS.Ok.KP{s:DS}{N:Nat}(h:s.Ok N){R:List PF}(h1:eJ PF.id R)(h2:∀x∈R,0<=x.id/\x.id<16384)(h3:∀x∈R,x.safe<=x.b.length)(h4:∀x∈R,x.b.length<=N):({s with R:=R}:DS).Ok N:=
 ⟨h1,h2,h3,h4,h.oP,h.pB⟩
def Db{s:DS}{f:Int}(h:may s f=0):s.off=false/\0<=f/\f<16384:=by
 grind [may]
def DS.Ok.append{s:DS}{N:Nat}(h:s.Ok N)(f:Int)(b:Φ):(s.append f b).1.Ok (N+b.length):=by
 unfold DS.append;split
 ·exact h.mono (by omega)
 rename_i hm;have hm:may s f=0:=by simpa using hm
 obtain⟨_,f0,f1⟩:=Db hm;have hl:=SR (f:=f) h.len;have hs:=bf8 (f:=f) h.safe;refine (h.bG.mono (Nat.le_add_right N b.length)).KP (FX h.sorted _) ?_ ?_ ?_
 ·intro x hx;rcases AV hx with rfl|hx
  ·exact⟨f0,f1⟩
  exact h.ids x hx
 ·intro x hx;rcases AV hx with rfl|hx
  ·grind
  exact h.safe x hx
 intro x hx;rcases AV hx with rfl|hx
 ·grind
 have:=h.len x hx;omega
def bBw{R:List PF}(h:eJ PF.id R)(f:Int)(g:PF->PF):eJ PF.id (jz R f g):=by
 grind [jz,FX]
def DS.Ok.ri{s:DS}{N:Nat}(h:s.Ok N)(f:Int)(g:PF->PF)(h1:∀x,x.safe<=x.b.length->(g x).safe<=(g x).b.length)(h2:∀x,(g x).b.length<=x.b.length):({s.bG with R:=jz s.R f g}:DS).Ok N:=by
 refine h.bG.KP (bBw h.sorted f g) ?_ ?_ ?_
 ·intro x hx;rcases FI hx with hx|⟨y,hy,rfl,rfl⟩
  ·exact h.ids x hx
  exact h.ids y hy
 ·intro x hx;rcases FI hx with hx|⟨y,hy,rfl,rfl⟩
  ·exact h.safe x hx
  exact h1 y (h.safe y hy)
 intro x hx;rcases FI hx with hx|⟨y,hy,rfl,rfl⟩
 ·exact h.len x hx
 exact yy1 (h2 y) (h.len y hy)
def DS.Ok.sync{s:DS}{N:Nat}(h:s.Ok N)(f:Int):(s.sync f).1.Ok N:=by
 unfold DS.sync;split
 ·exact h
 split
 ·exact h.bG
 exact h.ri f _ (λx _=>zzj _) (λx=>zzj _)
def DS.Ok.cut{s:DS}{N:Nat}(h:s.Ok N)(f n:Int):(s.cut f n).1.Ok N:=by
 unfold DS.cut;split
 ·exact h
 split
 ·exact h
 split
 ·exact h.bG
 exact h.ri f _ (λx hx=>by simp only[iB,zzf];omega) (λx=>by simp only[iB,zzf];omega)
def DS.Ok.remove{s:DS}{N:Nat}(h:s.Ok N)(f:Int):(s.remove f).1.Ok N:=by
 unfold DS.remove;split
 ·exact h
 split
 ·exact h.bG
 exact h.bG.KP (RX h.sorted _) (λx hx=>h.ids x (FH hx)) (λx hx=>h.safe x (FH hx)) (λx hx=>h.len x (FH hx))
def DS.Ok.dB{s:DS}{N:Nat}(h:s.Ok N)(keep:Ω):(s.dB keep).Ok N:=by
 have hm:∀y∈dU s.R keep,∃x∈s.R,∃i,y=iA keep i x:=λy hy=>by
  grind [dU]
 refine⟨?_,?_,?_,?_,yyj _,by simp[DS.dB]⟩
 ·show eJ PF.id (dU s.R keep);have:=h.sorted;unfold eJ at *
  rw[xxv]at *
  grind [dU,iA]
 ·intro y hy;obtain⟨x,hx,i,rfl⟩:=hm y hy;exact h.ids x hx
 ·intro y hy;obtain⟨x,hx,i,rfl⟩:=hm y hy;rw[BX (h.safe x hx),D' (h.safe x hx)]
  grind
 intro y hy;obtain⟨x,hx,i,rfl⟩:=hm y hy;rw[BX (h.safe x hx)];exact yy1 (xq (h.safe x hx)) (h.len x hx)
def fU:DS:=⟨[],false,0,0⟩
def Ds(N:Nat):fU.Ok N:=⟨.nil,by simp[fU],by simp[fU],by simp[fU],by simp[fU],by simp[fU]⟩
open Go.RowKit
def Bk(a b:Int):Int:=IntKind.u32.wrap ((BitVec.ofInt IntKind.u32.bits a ^^^ BitVec.ofInt IntKind.u32.bits b).toNat)
def P0(a b:Int):Int:=IntKind.u32.wrap ((BitVec.ofInt IntKind.u32.bits a &&& BitVec.ofInt IntKind.u32.bits b).toNat)
def D9(a:Int):Int:=IntKind.u32.wrap ((BitVec.ofInt IntKind.u32.bits IntKind.u32.max ^^^ BitVec.ofInt IntKind.u32.bits a).toNat)
def D4(c:Int):Int:=if P0 c 1=1 then Bk (c.fdiv (2 ^ 1)) 3988292384 else c.fdiv (2 ^ 1)
def BO:Nat->Int->Int
 | 0,c=>c
 | n+1,c=>D4 (BO n c)
def Kp(c:Int)(b:Κ):Int:=BO 8 (Bk c (b.toNat:Int))
def vB(s:Int)(b:Φ):Int:=D9 (b.foldl Kp (D9 s))
def fx(n:Int):Κ:=UInt8.ofNat (n % 256).toNat
def bn5(n:Int):bU (fx n)= .int .u8 (IntKind.u8.wrap n):=by
 unfold bU fx;congr 1;rw[uur];simp only[IntKind.wrap,IntKind.bits,IntKind.signed];have h1:=ww8 n (show (256:Int)≠0 by omega);have h2:=vv1 n (show (0:Int)<256 by omega);simp;omega
def four(x:Int):Φ:=[fx (x.fdiv (2 ^ 24)),fx (x.fdiv (2 ^ 16)),fx (x.fdiv (2 ^ 8)),fx x]
def Aj(x:Int):(four x).length=4:=rfl
def sumOf(p:Φ):Int:=vB (vB 0 (four p.length)) p
def bY(p:Φ):Φ:=four p.length++four (sumOf p)++p
theorem jX(p:Φ):(bY p).length=8+p.length:=by simp[bY,Aj];omega
def iy(b:Φ):Nat:=((b.getD 0 0).toNat*16777216+(b.getD 1 0).toNat*65536)+(b.getD 2 0).toNat*256+(b.getD 3 0).toNat
def f_(b:Φ):Except Int (Φ × Nat):=
 if b.length<8 then .error 2
 else if 1048576<iy b then .error 3
 else if b.length<8+iy b then .error 2
 else if four (sumOf ((b.drop 8).take (iy b)))≠(b.drop 4).take 4 then .error 4
 else .ok ((b.drop 8).take (iy b),8+iy b)
def p':Nat->Φ->List Φ × Nat
 | 0,_=>([],0)
 | f+1,b=>match f_ b with
  | .ok (p,n)=>(p::(p' f (b.drop n)).1,n+(p' f (b.drop n)).2)
  | .error _=>([],0)
def bq1(b:Φ):iy b<4294967296:=by
 unfold iy;have h:∀i,(b.getD i 0).toNat<256:=λi=>UInt8.toNat_lt _;have:=h 0;have:=h 1;have:=h 2;have:=h 3;omega
def Jx(n:Nat):(fx (n:Int)).toNat=n % 256:=by
 unfold fx;rw[uur];omega
def B8(n k:Nat)(hk:0<k):(n:Int).fdiv (k:Int)=((n / k:Nat):Int):=by
 rw[vvr _ (by omega)];exact (Int.natCast_ediv n k).symm
def bq0(n:Nat)(r:Φ)(h:n<4294967296):iy (four n++r)=n:=by
 unfold iy four;have e1:((n:Int).fdiv (2 ^ 24))=((n / 16777216:Nat):Int):=B8 n 16777216 (by decide);have e2:((n:Int).fdiv (2 ^ 16))=((n / 65536:Nat):Int):=B8 n 65536 (by decide);have e3:((n:Int).fdiv (2 ^ 8))=((n / 256:Nat):Int):=B8 n 256 (by decide);rw[e1,e2,e3];simp only[zzn,zzo,List.getD_cons_zero,List.getD_cons_succ,Jx];omega
def bq2{b:Φ}{k:Nat}(h:4<=k):iy (b.take k)=iy b:=by
 unfold iy;have e:∀i,i<4->(b.take k).getD i 0=b.getD i 0:=λi hi=>by
  rw[ww4,ww4,vv2,zzc (by omega)]
 rw[e 0 (by omega),e 1 (by omega),e 2 (by omega),e 3 (by omega)]
def Wx{p r:Φ}(h:p.length<=1048576):iy (bY p++r)=p.length:=by
 unfold bY;rw[zzg,zzg];exact bq0 p.length _ (by omega)
def Kx{p r:Φ}(h:p.length<=1048576):f_ (bY p++r)= .ok (p,8+p.length):=by
 have hn:=Wx (r:=r) h;have hl:(bY p++r).length=8+p.length+r.length:=by rw[zza,jX]
 have hd8:((bY p++r).drop 8).take p.length=p:=by
  unfold bY;rw[show (8:Nat)=(four p.length++four (sumOf p)).length by simp[Aj],zzg (four (p.length:Int)++four (sumOf p)) p r,wwv];exact wwg
 have hd4:((bY p++r).drop 4).take 4=four (sumOf p):=by
  unfold bY;rw[zzg,zzg,show (4:Nat)=(four (p.length:Int)).length by simp[Aj],wwv,show (four (p.length:Int)).length=(four (sumOf p)).length from rfl];exact wwg
 unfold f_;rw[hn,zzb (by omega),zzb (by omega),zzb (by omega),hd8,hd4,zzb (by simp)]
theorem Xx{p:Φ}(h:p.length<=1048576){k:Nat}(hk:k<8+p.length):∃e,f_ ((bY p).take k)= .error e/\e≠0:=by
 have hl:((bY p).take k).length=k:=by rw[zzf,jX];omega
 unfold f_;rw[hl];by_cases h8:k<8
 ·rw[zzc h8];exact⟨2,rfl,by decide⟩
 rw[zzb h8,bq2 (by omega)];have hn:=Wx (r:=[]) h;rw[zz3]at hn
 rw[hn,zzb (by omega),zzc hk];exact⟨2,rfl,by decide⟩
def Xz:f_ []= .error 2:=rfl
def F'{f:Nat}{b p:Φ}{n:Nat}(h:f_ b= .ok (p,n)):p' (f+1) b=(p::(p' f (b.drop n)).1,n+(p' f (b.drop n)).2):=by simp only[p',h]
def F9{f:Nat}{b:Φ}{e:Int}(h:f_ b= .error e):p' (f+1) b=([],0):=by simp only[p',h]
def df(ps:List Φ):Φ:=(ps.map bY).flatten
theorem p9(p:Φ)(ps:List Φ):df (p::ps)=bY p++df ps:=by simp[df]
def Wz(ps:List Φ)(p:Φ):df (ps++[p])=df ps++bY p:=by simp[df]
def bwc(ps qs:List Φ):df (ps++qs)=df ps++df qs:=by simp[df]
def W2:∀(ps:List Φ) (r:Φ) (f:Nat),(∀p∈ps,p.length<=1048576)->(∃e,f_ r= .error e)->ps.length<f->p' f (df ps++r)=(ps,(df ps).length)
 | [],r,f+1,_,⟨e,he⟩,_=>by
  rw[show df []++r=r from rfl,F9 he];rfl
 | p::ps,r,f+1,hp,he,hf=>by
  have vr:=hp p (.head _);have ih:=W2 ps r f (λq hq=>hp q (.tail _ hq)) he (Nat.lt_of_succ_lt_succ hf);rw[p9,zzg,F' (Kx vr),<- jX,wwv,ih,zza]
def Dy{b p:Φ}{n:Nat}(h:f_ b= .ok (p,n)):8<=n/\n<=b.length/\p.length<=1048576/\n=8+p.length/\p=(b.drop 8).take p.length:=by
 unfold f_ at h;split at h
 ·cases h
 split at h
 ·cases h
 split at h
 ·cases h
 split at h
 ·cases h
 rename_i h1 h2 h3 h4;have h:=Except.ok.inj h;generalize iy b=k at *
 cases h;have:((b.drop 8).take k).length=k:=by rw[zzf,zzq];omega
 exact⟨by omega,by omega,by omega,by omega,by rw[this]⟩
def Xy{b:Φ}{e:Int}(h:f_ b= .error e):e=2\/e=3\/e=4:=by
 unfold f_ at h;split at h
 ·cases h;simp
 split at h
 ·cases h;simp
 split at h
 ·cases h;simp
 split at h
 ·cases h;simp
 cases h
def W1:∀(f g:Nat) (b:Φ),b.length<f->b.length<g->p' f b=p' g b
 | f+1,g+1,b,hf,hg=>by
  cases h:f_ b with
  | error e=>rw[F9 h,F9 h]
  | ok x=>
   obtain⟨p,n⟩:=x;have:=Dy h;rw[F' h,F' h,W1 f g (b.drop n) (by rw[zzq];omega) (by rw[zzq];omega)]
def iE(b:Φ):List Φ × Nat:=p' (b.length+1) b
def F8{b p:Φ}{n:Nat}(h:f_ b= .ok (p,n)):iE b=(p::(iE (b.drop n)).1,n+(iE (b.drop n)).2):=by
 have:=Dy h;unfold iE;rw[F' h,W1 b.length ((b.drop n).length+1) (b.drop n) (by rw[zzq];omega) (by omega)]
def Du{b:Φ}{e:Int}(h:f_ b= .error e):iE b=([],0):=F9 h
def bx5(f:Nat):∀b:Φ,b.length<f->(iE b).2<=b.length:=by
 induction f with
 | zero=>intro b h;omega
 | succ f ih=>
  intro b hb;cases h:f_ b with
  | error e=>rw[Du h];exact zz6 _
  | ok x=>
   obtain⟨p,n⟩:=x;have h2:=Dy h;have:=ih (b.drop n) (by rw[zzq];omega);rw[F8 h];rw[zzq]at this
   show n+_<=_;omega
def Wy:∀ps:List Φ,ps.length*8<=(df ps).length
 | []=>by simp
 | p::ps=>by
  have:=Wy ps;rw[p9,zza,jX,zzi];omega
def bx7(ps:List Φ)(r:Φ)(hp:∀p∈ps,p.length<=1048576)(he:∃e,f_ r= .error e):iE (df ps++r)=(ps,(df ps).length):=by
 refine W2 ps r _ hp he ?_;have:=Wy ps;rw[zza];omega
structure cA where
 kind:Int
 n:Int
 s:Η
def fo(x:cA):Ξ:=[Γ x.kind,Γ x.n,.string x.s]
def uY:cA:=⟨0,0,⟨#[]⟩⟩
def cR(x:Int):Nat->Φ
 | 0=>[]
 | n+1=>fx (x.fdiv (2 ^ (8*n)))::cR x n
theorem ie(x:Int):∀n,(cR x n).length=n
 | 0=>rfl
 | n+1=>by simp[cR,ie x n]
def nQ(x:cA):Bool:=if x.kind=1 then decide (x.s=⟨#[]⟩) else if x.kind=2 then decide (x.n=0) && decide (x.s.size<=4096) else false
def vQ(n:Int):Int:=n % 18446744073709551616
def cQ(x:cA):Φ:=if x.kind=1 then fx x.kind::cR (vQ x.n) 8 else fx x.kind::(cR x.s.size 2++x.s.data.toList)
def lJ(l:List cA):Except Int Φ:=if 32767<l.length then .error 1 else if l.all nQ then .ok (cR l.length 2++(l.map cQ).flatten) else .error 1
structure iH where
 b:Φ
 e:Int
def fT(n:Nat)(r:iH):Φ × iH:=if r.e≠0 then ([],r) else if r.b.length<n then ([],{r with e:=2}) else (r.b.take n,{r with b:=r.b.drop n})
def h_(b:Φ):Nat:=b.foldl (λx c=>(x*256+c.toNat) % 18446744073709551616) 0
def eU(n:Nat)(r:iH):Nat × iH:=(h_ (fT n r).1,(fT n r).2)
def fS(m:Nat)(r:iH):Nat × iH:=if m<(eU 2 r).1 then (0,{(eU 2 r).2 with e:=3}) else eU 2 r
def sig(n:Nat):Int:=if n<9223372036854775808 then n else (n:Int)-18446744073709551616
def gv(r:iH):cA × iH:=
 if (eU 1 r).1=1 then (⟨1,sig (eU 8 (eU 1 r).2).1,⟨#[]⟩⟩,(eU 8 (eU 1 r).2).2)
 else if (eU 1 r).1=2 then (⟨2,0,⟨(fT (fS 4096 (eU 1 r).2).1 (fS 4096 (eU 1 r).2).2).1.toArray⟩⟩,(fT (fS 4096 (eU 1 r).2).1 (fS 4096 (eU 1 r).2).2).2)
 else (uY,if (eU 1 r).2.e=0 then {(eU 1 r).2 with e:=3} else (eU 1 r).2)
def gw:Nat->iH->List cA × iH
 | 0,r=>([],r)
 | i+1,r=>if r.e=0 then ((gv r).1::(gw i (gv r).2).1,(gw i (gv r).2).2) else ([],r)
def gJ(b:Φ):Except Int (List cA):=
 let m:=fS 32767 ⟨b,0⟩
 let x:=gw m.1 m.2
 let e:=if x.2.e=0 then if 0<x.2.b.length then 3 else 0 else x.2.e
 if e=0 then .ok x.1 else .error e
def cW(n:Nat):Φ:=[0,1,1]++cR n 8
theorem Ap(n:Nat):(cW n).length=11:=by simp[cW,ie]
def aRo(x:Nat)(b:Φ)(c:Κ)(h:h_ b=x):h_ (b++[c])=(x*256+c.toNat) % 18446744073709551616:=by
 unfold h_ at *
 rw[wwe,h];rfl
def FK{n:Nat}(h:n<1152921504606846976):h_ (cR n 8)=n:=by
 have f:∀k,((n:Int).fdiv (2 ^ (8*k)))=((n / 2 ^ (8*k):Nat):Int):=λk=>by
  have:=B8 n (2 ^ (8*k)) (Nat.two_pow_pos _);rw[<- this];push_cast;rfl
 unfold cR cR cR cR cR cR cR cR cR;simp only[f,h_,xxo,uu7,Jx,show (2:Nat) ^ (8*7)=72057594037927936 from rfl,show (2:Nat) ^ (8*6)=281474976710656 from rfl,show (2:Nat) ^ (8*5)=1099511627776 from rfl,
  show (2:Nat) ^ (8*4)=4294967296 from rfl,show (2:Nat) ^ (8*3)=16777216 from rfl,show (2:Nat) ^ (8*2)=65536 from rfl,show (2:Nat) ^ (8*1)=256 from rfl,show (2:Nat) ^ (8*0)=1 from rfl]
 omega
def bqn{x y:Φ}{n:Nat}(h:x.length=n):fT n ⟨x++y,0⟩=(x,⟨y,0⟩):=by
 subst h;unfold fT;rw[zzb (by simp),zzb (by simp)];simp
def JN{x y:Φ}{n:Nat}(h:x.length=n):eU n ⟨x++y,0⟩=(h_ x,⟨y,0⟩):=by
 unfold eU;rw[bqn h]
def a_x{n:Nat}(h:n<1152921504606846976):gJ (cW n)= .ok [⟨1,n,⟨#[]⟩⟩]:=by
 have h8:=FK h;have hl:=ie (n:Int) 8;unfold cW;generalize cR (n:Int) 8=y at *
 have e1:fS 32767 ⟨[0,1,1]++y,0⟩=(1,⟨[1]++y,0⟩):=by
  have:eU 2 ⟨[0,1]++([1]++y),0⟩=(1,⟨[1]++y,0⟩):=JN rfl;unfold fS;rw[show ([0,1,1]++y:Φ)=[0,1]++([1]++y) from rfl,this,zzb (by show ¬32767<1;omega)]
 have e3:eU 1 ⟨[1]++y,0⟩=(1,⟨y,0⟩):=JN rfl;have e4:eU 8 ⟨y,0⟩=(n,⟨[],0⟩):=by
  have:=JN (x:=y) (y:=[]) hl;rw[zz3,h8]at this;exact this
 have e2:gv ⟨[1]++y,0⟩=(⟨1,n,⟨#[]⟩⟩,⟨[],0⟩):=by
  unfold gv;rw[e3,zzc rfl,e4,sig,zzc (by omega)]
 have e5:gw 1 ⟨[1]++y,0⟩=([⟨1,n,⟨#[]⟩⟩],⟨[],0⟩):=by
  show (if (0:Int)=0 then _ else _)=_;rw[zzc rfl,e2];rfl
 unfold gJ;simp only[e1,e5];rfl
def EM(l:List cA):Option Int:=match l with
 | [f]=>if f.kind=1/\1<=f.n/\f.n<=1099511627776 then some f.n else none
 | _=>none
def ou(b:Φ):Option Int:=match gJ b with
 | .ok l=>EM l
 | .error _=>none
theorem Tx{n:Nat}(h1:1<=n)(h:n<=1099511627776):ou (cW n)=some (n:Int):=by
 unfold ou;rw[a_x (by omega)];show (if (1:Int)=1/\1<=(n:Int)/\(n:Int)<=1099511627776 then some (n:Int) else none)=_;rw[zzc ⟨rfl,by omega,by omega⟩]
def gA(q:Φ):Option (Int × List Φ × Nat):=match (iE q).1 with
 | []=>none
 | h::l=>(ou h).map λn=>(n,l,(iE q).2)
def lH(l:List cA)(i:Nat)(r:iH):Except Int (List cA):=
 if (gw i r).2.e=0 then (if 0<(gw i r).2.b.length then .error 3 else .ok (l++(gw i r).1)) else .error (gw i r).2.e
def bfi:∀(i:Nat) (r:iH),r.e≠0->gw i r=([],r)
 | 0,r,_=>rfl
 | i+1,r,h=>by rw[gw,zzb h]
def B0{l:List cA}{i:Nat}{r:iH}(h:r.e≠0):lH l i r= .error r.e:=by
 unfold lH;rw[bfi i r h,zzb h]
def RQ(l:List cA)(b:Φ):lH l 0 ⟨b,0⟩=if 0<b.length then .error 3 else .ok l:=by
 unfold lH gw;rw[zzc rfl,zz3]
def Hv(l:List cA)(i:Nat)(b:Φ):lH l (i+1) ⟨b,0⟩=lH (l++[(gv ⟨b,0⟩).1]) i (gv ⟨b,0⟩).2:=by
 unfold lH;have e:gw (i+1) ⟨b,0⟩=((gv ⟨b,0⟩).1::(gw i (gv ⟨b,0⟩).2).1,(gw i (gv ⟨b,0⟩).2).2):=by rw[gw,zzc rfl]
 rw[e];simp only[zzg,zzn,zzo]
def VQ{b:Φ}{n:Nat}(h:n<=b.length):fT n ⟨b,0⟩=(b.take n,⟨b.drop n,0⟩):=by
 unfold fT;rw[zzb (by simp),zzb (by show ¬b.length<n;omega)]
def VR{b:Φ}{n:Nat}(h:b.length<n):fT n ⟨b,0⟩=([],⟨b,2⟩):=by
 unfold fT;rw[zzb (by simp),zzc (by show b.length<n;omega)]
def Dh{b:Φ}{n:Nat}(h:n<=b.length):eU n ⟨b,0⟩=(h_ (b.take n),⟨b.drop n,0⟩):=by unfold eU;rw[VQ h]
def JP{b:Φ}{n:Nat}(h:b.length<n):eU n ⟨b,0⟩=(0,⟨b,2⟩):=by unfold eU;rw[VR h];rfl
def Hu{b:Φ}(h:2<=b.length)(hn:h_ (b.take 2)<=32767):gJ b=lH [] (h_ (b.take 2)) ⟨b.drop 2,0⟩:=by
 have e:fS 32767 ⟨b,0⟩=(h_ (b.take 2),⟨b.drop 2,0⟩):=by unfold fS;rw[Dh h,zzb (by show ¬32767<h_ (b.take 2);omega)]
 unfold gJ lH;simp only[e,zzo];by_cases h1:(gw (h_ (b.take 2)) ⟨b.drop 2,0⟩).2.e=0
 ·rw[zzc h1,zzc h1];by_cases h2:0<(gw (h_ (b.take 2)) ⟨b.drop 2,0⟩).2.b.length
  ·rw[zzc h2,zzc h2,zzb (by decide)]
  rw[zzb h2,zzb h2,zzc rfl]
 rw[zzb h1,zzb h1,zzb h1]
def a_y(l:List cA)(i:Nat):lH l (i+1) ⟨[],0⟩= .error 2:=by
 have e:gv ⟨[],0⟩=(uY,⟨[],2⟩):=by
  unfold gv;rw[JP (n:=1) (b:=[]) (by decide)];rfl
 rw[Hv,e,B0 (by decide)]
def VW(k:Κ)(b:Φ):eU 1 ⟨k::b,0⟩=(k.toNat,⟨b,0⟩):=by
 rw[Dh (by simp)];have:=k.toNat_lt;simp only[vvg,uu8,uuo,List.drop_zero,h_,xxo,uu7];rw[show (0*256+k.toNat) % 18446744073709551616=k.toNat by omega]
def Ea{l:List cA}{i:Nat}{k:Κ}{b:Φ}(hk:k.toNat=1):lH l (i+1) ⟨k::b,0⟩=if b.length<8 then .error 2 else lH (l++[⟨1,sig (h_ (b.take 8)),⟨#[]⟩⟩]) i ⟨b.drop 8,0⟩:=by
 rw[Hv];unfold gv;rw[VW,zzc hk];by_cases h:b.length<8
 ·simp only[JP h];rw[zzc h,B0 (by simp)]
 simp only[Dh (wwq.1 h)];rw[zzb h]
def Eb{l:List cA}{i:Nat}{k:Κ}{b:Φ}(hk:k.toNat=2):lH l (i+1) ⟨k::b,0⟩=if b.length<2 then .error 2 else if 4096<h_ (b.take 2) then .error 3 else if b.length-2<h_ (b.take 2) then .error 2 else
  lH (l++[⟨2,0,⟨((b.drop 2).take (h_ (b.take 2))).toArray⟩⟩]) i ⟨(b.drop 2).drop (h_ (b.take 2)),0⟩:=by
 rw[Hv];unfold gv;rw[VW,zzb (by omega),zzc hk];by_cases h:b.length<2
 ·have e:fS 4096 ⟨b,0⟩=(0,⟨b,2⟩):=by unfold fS;rw[JP h,zzb (by simp)]
  have e2:fT 0 ⟨b,2⟩=([],⟨b,2⟩):=by unfold fT;rw[zzc (by simp)]
  simp only[e,e2];rw[zzc h,B0 (by simp)]
 rw[zzb h];by_cases h2:4096<h_ (b.take 2)
 ·have e:fS 4096 ⟨b,0⟩=(0,⟨b.drop 2,3⟩):=by unfold fS;rw[Dh (wwq.1 h),zzc h2]
  have e2:fT 0 ⟨b.drop 2,3⟩=([],⟨b.drop 2,3⟩):=by unfold fT;rw[zzc (by simp)]
  simp only[e,e2];rw[zzc h2,B0 (by simp)]
 have e:fS 4096 ⟨b,0⟩=(h_ (b.take 2),⟨b.drop 2,0⟩):=by unfold fS;rw[Dh (wwq.1 h),zzb h2]
 simp only[e];rw[zzb h2];by_cases h3:b.length-2<h_ (b.take 2)
 ·rw[VR (by rw[zzq];exact h3),zzc h3,B0 (by simp)]
 rw[VQ (by rw[zzq];omega),zzb h3]
set_option maxRecDepth 100000
abbrev SP := Spec prog
def md(v:Int)(n:Nat):Nat:=((IntKind.u64.wrap v) % (n:Int)).toNat
def fy(v:Int)(n:Nat)(hn:0<n):md v n<n:=by
 unfold md;have h1:=ww8 (IntKind.u64.wrap v) (show (n:Int)≠0 by omega);have h2:=vv1 (IntKind.u64.wrap v) (show (0:Int)<n by omega);omega
def yc(v:Int)(n:Nat)(h1:0<n)(h2:n<=9223372036854775807):SP 6 [Γ v,Γ (n:Int)] [] (bA (Γ (md v n:Int)) []):=by
 intro W F w hS;apply vc6;(try simp only[app]at hS);have hn:IntKind.u64.wrap (n:Int)=n:=by rw[ww1];omega
 have hv:0<=IntKind.u64.wrap v:=by rw[ww1];omega
 refine zT (zT ?_);rw[hn];refine ZO (by omega) ?_;have e:(IntKind.u64.wrap v).tmod (n:Int)=(md v n:Int):=by
  rw[xx4 hv];unfold md;have:=ww8 (IntKind.u64.wrap v) (show (n:Int)≠0 by omega);omega
 rw[e];have:=fy v n h1;refine yz (by omega) ?_;(exact bw hS)
def zP(v:Int)(n:Nat)(h1:0<n)(h2:n<=9223372036854775807):SP 10 [Γ v,Γ (n:Int)] [] (bA (Γ (md v n:Int)) []):=by
 refine Enzz λW F w hS=>?_;apply bB8;have hn:IntKind.u64.wrap (n:Int)=n:=by rw[ww1];omega
 have hv:0<=IntKind.u64.wrap v:=by rw[ww1];omega
 refine zT (zT ?_);rw[hn];refine ZO (by omega) ?_;have e:(IntKind.u64.wrap v).tmod (n:Int)=(md v n:Int):=by
  rw[xx4 hv];unfold md;have:=ww8 (IntKind.u64.wrap v) (show (n:Int)≠0 by omega);omega
 rw[e];have:=fy v n h1;refine yz (by omega) ?_;(exact bw hS)
structure Rq where
 id:Int
 table:Int
 weight:Int
 at_:Int
 cG:Int
 chunks:Int
 done:Bool
deriving DecidableEq
def gS(r:Rq):Ξ:=[Γ r.id,Γ r.table,Γ r.weight,Γ r.at_,Γ r.cG,Γ r.chunks,.bool r.done]
def nC(r:Rq):(gS r).length=7:=rfl
def Eg(r:Rq):∀v∈gS r,v.oneCell'=true:=by simp[gS,Value.oneCell']
abbrev iz(H:a_)(v:Ε)(L:List Rq):Prop:=cn H 7 v L.length (L.map gS).flatten
def Rc(late t:Int):Int:=IntKind.i64.wrap ((BitVec.ofInt IntKind.i64.bits (late.fdiv (2 ^ (min t.toNat IntKind.i64.bits))) &&& BitVec.ofInt IntKind.i64.bits 1).toNat)
def bwv{k:IntKind}{a b:Int}{K:Ε->Prop}(hb:0<=b)(h:K (Γ (Rc a b))):zc .shr (Γ a) (.int k b) λv=>zc .and v (Γ 1) K:=by
 refine⟨Γ (a.fdiv (2 ^ (min b.toNat IntKind.i64.bits))),?_,⟨_,?_,h⟩⟩
 ·simp only[iJ];rw[zzb (by omega)]
 simp only[iJ,ww0];rfl
structure gF where
 kind:Int
 id:Int
 table:Int
 weight:Int
 at_:Int
 cG:Int
 done:Bool
deriving DecidableEq
structure bB where
 aw:Int
 ops:List fB
 notes:List gF
def jP(n:gF):Ξ:=[Γ n.kind,Γ n.id,Γ n.table,Γ n.weight,Γ n.at_,Γ n.cG,.bool n.done]
def wu(n:gF):(jP n).length=7:=rfl
def emp:Η:=⟨#[]⟩
def jT(o:fB)(aw:Int):Bool:=decide (1<=o.aw/\o.aw<=aw/\0<=o.table/\o.table<8/\1<=o.key/\o.key<=1099511627776/\o.val.size<=32/\(o.gone=true->o.val=emp))
def iD(n:gF)(aw:Int):Bool:=decide (1<=n.id/\n.id<=64 /\
 ((n.kind=1/\0<=n.table/\n.table<8/\1<=n.weight/\n.weight<=8/\1<=n.at_/\n.at_<=aw/\n.cG=0/\n.done=false)\/(n.kind=2/\n.table=0/\n.weight=0/\n.at_=0/\0<=n.cG/\n.cG<=1099511627776)))
def du(x:bB):Bool:=decide (1<=x.aw/\x.aw<=1099511627776/\x.ops.length<=4096/\x.notes.length<=256) && x.ops.all (λo=>jT o x.aw) && x.notes.all (λn=>iD n x.aw)
def iF(n:Int):cA:=⟨1,n,emp⟩
def tF(s:Η):cA:=⟨2,0,s⟩
def fV(b:Bool):Int:=if b=true then 1 else 0
def oW(o:fB):List cA:=[iF o.aw,iF o.table,iF o.key,iF (fV o.gone),tF o.val]
def oV(n:gF):List cA:=[iF n.kind,iF n.id,iF n.table,iF n.weight,iF n.at_,iF n.cG,iF (fV n.done)]
def j9(x:bB):List cA:=[iF x.aw,iF x.ops.length]++(x.ops.map oW).flatten++([iF x.notes.length]++(x.notes.map oV).flatten)
def tG(x:bB):Except Int Φ:=if du x=true then lJ (j9 x) else .error 1
structure bP where
 l:List cA
 bad:Bool
def pk(k:Int)(r:bP):cA × bP:=match r.bad,r.l with
 | false,f::l=>if f.kind=k then (f,⟨l,false⟩) else (uY,⟨f::l,true⟩)
 | _,l=>(uY,⟨l,true⟩)
def dM(r:bP):Int × bP:=((pk 1 r).1.n,(pk 1 r).2)
def j6(r:bP):Η × bP:=((pk 2 r).1.s,(pk 2 r).2)
def bN(m:Int)(r:bP):Int × bP:=if (dM r).1<0\/m<(dM r).1 then (0,{(dM r).2 with bad:=true}) else dM r
def rA(r:bP):Bool × bP:=(decide ((bN 1 r).1=1),(bN 1 r).2)
def m_(r:bP):fB × bP:=
 let a:=dM r;let b:=bN 8 a.2;let c:=dM b.2;let d:=rA c.2;let e:=j6 d.2
 (⟨a.1,b.1,c.1,d.1,e.1⟩,e.2)
def oD(r:bP):gF × bP:=
 let a:=bN 2 r;let b:=bN 64 a.2;let c:=bN 8 b.2;let d:=bN 8 c.2;let e:=dM d.2;let f:=dM e.2;let g:=rA f.2
 (⟨a.1,b.1,c.1,d.1,e.1,f.1,g.1⟩,g.2)
def gj{α:Type}(one:bP->α × bP):Nat->bP->List α × bP
 | 0,r=>([],r)
 | i+1,r=>if r.bad=true then ([],r) else ((one r).1::(gj one i (one r).2).1,(gj one i (one r).2).2)
def mY(r:bP):bB × bP:=
 let a:=dM r;let n:=bN 4096 a.2;let os:=gj m_ n.1.toNat n.2;let m:=bN 256 os.2;let ns:=gj oD m.1.toNat m.2
 (⟨a.1,os.1,ns.1⟩,ns.2)
def x8(l:List cA):Option bB:=
 let x:=mY ⟨l,false⟩
 if x.2.bad=false/\x.2.l=[]/\du x.1=true then some x.1 else none
def mO(b:Φ):Except Int bB:=match gJ b with
 | .error e=>.error e
 | .ok l=>match x8 l with
  | some x=>.ok x
  | none=>.error 3
def cz(v:Ε)(t:Ι)(sz n:Nat)(cells:Ξ):zC:=iX λx:Option (Nat × Ξ × Nat × Ξ)=>match x with
 | none=>zF ((∃a,v= .slice a 0 0)/\n=0/\cells=[]) []
 | some (b,pre,cap,rest)=>zF (v= .slice (some ⟨b,pre.length,none⟩) n cap/\n<=cap/\cells.length=n*sz/\rest.length=(cap-n)*sz) [.pt b (pre++(cells++rest)) t]
section
variable {W w:Ζ} {l:Β} {v:Ε} {t:Ι} {sz n:Nat} {cells:Ξ}
def cz.open(h:SL W (.ob (cz v t sz n cells)::l) w):
  ((∃a,v= .slice a 0 0)/\n=0/\cells=[]/\SL W l w)\/∃b pre cap rest,v= .slice (some ⟨b,pre.length,none⟩) n cap/\n<=cap/\cells.length=n*sz/\rest.length=(cap-n)*sz/\SL W (.pt b (pre++(cells++rest)) t::l) w:=by
 unfold cz at h;obtain⟨x,h⟩:=SL.ex.1 h
 match x,h with
 | none,h=>
  obtain⟨⟨h1,h2,h3⟩,h⟩:=SL.fact.1 h
  grind
 | some (b,pre,cap,rest),h=>
  obtain⟨⟨h1,h2,h3,h4⟩,h⟩:=SL.fact.1 h
  grind
def cz.p5{a:Option Addr}(h:SL W l w):SL W (.ob (cz (.slice a 0 0) t sz 0 [])::l) w:=by
 unfold cz;exact SL.ex.2 ⟨none,SL.fact.2 ⟨⟨⟨_,rfl⟩,rfl,rfl⟩,h⟩⟩
def cz.mk{b cap o:Nat}{pre rest:Ξ}(h1:n<=cap)(h2:cells.length=n*sz)(h3:rest.length=(cap-n)*sz)(ho:pre.length=o)(h:SL W (.pt b (pre++(cells++rest)) t::l) w):
  SL W (.ob (cz (.slice (some ⟨b,o,none⟩) n cap) t sz n cells)::l) w:=by
 subst ho;unfold cz;exact SL.ex.2 ⟨some (b,pre,cap,rest),SL.fact.2 ⟨⟨rfl,h1,h2,h3⟩,h⟩⟩
def cz.of(h:SL W (.ob (bd v t sz n cells)::l) w):SL W (.ob (cz v t sz n cells)::l) w:=by
 rcases bd.open h with ⟨⟨a,rfl⟩,rfl,rfl,hS⟩|⟨b,cap,rest,rfl,hc,hl,hr,hS⟩
 ·exact cz.p5 hS
 exact cz.mk (pre:=[]) hc hl hr rfl (by simpa using hS)
theorem cz.at(h:SL W l w)(m:Has (.ob (cz v t sz n cells)) l):∃a cap,v= .slice a n cap/\n<=cap/\cells.length=n*sz:=by
 obtain⟨l2,r⟩:=m.rem;rcases cz.open (h.perm r.perm) with ⟨⟨a,rfl⟩,rfl,rfl,_⟩|⟨b,pre,cap,rest,rfl,hc,hl,_⟩
 ·grind
 grind
def cz.one(h:SL W l w)(m:Has (.ob (cz v t sz n cells)) l):v.oneCell'=true:=by
 obtain⟨a,cap,rfl,_⟩:=cz.at h m;rfl
def zO{K:Ε->Prop}(h:SL W l w)(m:Has (.ob (cz v t sz n cells)) l)(k:K (Γ n)):zd v K:=by
 grind [cz.at,yg]
def y3{j:Nat}{k:IntKind}{K:Ε->Prop}(h:SL W l w)(m:Has (.ob (cz v t sz n cells)) l)(hj:j<n)
  (hK:∀b o,(∀i u,i<sz->cells[j*sz+i]?=some u->w.cell? ⟨b,o+i,none⟩=some u)->K (.pointer (some ⟨b,o,none⟩))):zl sz v (.int k (j:Int)) K:=by
 obtain⟨l2,r⟩:=m.rem;rcases cz.open (h.perm r.perm) with ⟨⟨a,rfl⟩,rfl,rfl,_⟩|⟨b,pre,cap,rest,rfl,hc,hl,hr,hS⟩
 ·omega
 refine zI hj (hK b (pre.length+j*sz) λi u hi hu=>hS.cell .hd ?_)
 grind
def bMy(h:SL W l w)(m:Has (.ob (cz v t sz n cells)) l):jw w sz v n cells:=by
 obtain⟨l2,r⟩:=m.rem;rcases cz.open (h.perm r.perm) with ⟨⟨a,rfl⟩,rfl,rfl,_⟩|⟨b,pre,cap,rest,rfl,hc,hl,hr,hS⟩
 ·cases a with
  | none=>exact⟨rfl,rfl⟩
  | some p=>exact⟨rfl,by simp,λj v e=>by simp at e⟩
 refine⟨rfl,hl,λj u e=>?_⟩;rw[zz9];refine hS.cell .hd ?_
 grind
def Yd{k:Nat}{kk:IntKind}{K:Ε->Prop}(hS:SL W (.ob (cz v t sz n cells)::l) w)(hk:k<=n)(hK:∀u,SL W (.ob (cz u t sz (n-k) (cells.drop (k*sz)))::l) w->K u):dQ sz v (some (.int kk (k:Int))) none none K:=by
 rcases cz.open hS with ⟨⟨a,rfl⟩,rfl,rfl,fR⟩|⟨b,pre,cap,rest,rfl,hc,hl,hr,fR⟩
 ·obtain rfl:k=0:=by omega
  refine⟨a,0,0,0,0,0,rfl,rfl,rfl,⟨kk,rfl⟩,zzj _,zzj _,zzj _,?_⟩
  grind
 refine⟨_,n,cap,k,n,cap,rfl,rfl,rfl,⟨kk,rfl⟩,hk,hc,zzj _,hK _ ?_⟩;by_cases e:cap=k
 ·obtain rfl:n=k:=by omega
  rw[zzc e,Nat.sub_self,show cap-n=0 by omega,xxb (by omega)];exact cz.p5 fR.drop
 rw[zzb e];have b9:k*sz<=cells.length:=by rw[hl];exact yy3 _ hk
 have e1:(some (⟨b,pre.length,none⟩:Addr)).map (·.add (k*sz))=some ⟨b,pre.length+k*sz,none⟩:=by simp[zz9]
 rw[e1];refine cz.mk (pre:=pre++cells.take (k*sz)) (rest:=rest) (by omega) (by rw[zzq,hl,wwo]) (by rw[hr];congr 1;omega) (by rw[zza,zzf];omega) ?_;rw[zzg,<- zzg (cells.take (k*sz)),yyf];exact fR
def ZT{x y:Ε}{gb m:Nat}{z cs:Ξ}{F:Β}{K:Ε->Ζ->Prop}(hS:SL W l w)(hr:eW (.ob (cz x t sz n cells)) l F)(gK:jw w sz y m cs)
  (hl:cs.length=m*sz) (hz:z.length=sz) (h1:∀v∈cs,v.oneCell'=true) (hb:(n+m)*gb<=140737488355328) (hn:n+m<=140737488355328)
  (h:∀v' w',SL W (.ob (cz v' t sz (n+m) (cells++cs))::F) w'->K v' w'):zt sz gb z t x y w K:=by
 rcases cz.open (hS.perm hr.perm) with ⟨⟨a,rfl⟩,rfl,rfl,fR⟩|⟨b,pre,cap,rest,rfl,hc,hlen,iT,fR⟩
 ·refine⟨a,0,0,m,cs,rfl,gK,hb,hn,λh0=>?_,λh0=>⟨[],(by cases a with|none=>exact⟨rfl,rfl⟩|some p=>exact⟨rfl,by simp,λj v e=>by simp at e⟩),λc gf ll=>?_⟩⟩
  ·have hm:m=0:=by omega
   subst hm;have:cs=[]:=zzl (by simpa using hl);subst this;cases a with
   | none=>exact h _ _ (cz.p5 fR)
   | some p=>exact h _ _ (cz.p5 fR)
  refine h _ _ ?_;have:=cz.mk (sz:=sz) (n:=0+m) (cells:=cs) (pre:=[]) (rest:=bE z (c-(0+m))) (cap:=c) gf (by simpa using hl) (by rw[kV,hz]) rfl (SL.new (cs:=[]++(cs++bE z (c-(0+m)))) (t:=t) (fR.drew));simpa using this
 refine⟨some ⟨b,pre.length,none⟩,n,cap,m,cs,rfl,gK,hb,hn,λh0=>?_,λh0=>?_⟩
 ·have pO:cs.length<=rest.length:=by
   rw[hl,iT];exact yy3 _ (by omega)
  show tg (Addr.add ⟨b,pre.length,none⟩ (n*sz)) 0 cs w _;rw[zz9];refine Bb (t:=t) cs (pre.length+n*sz) 0 (pre++(cells++rest)) w (.pt b (pre++(cells++rest)) t::F) _ fR .hd (by simp[hlen];omega) h1 (λw' oY=>h _ _ ?_);have e:over (pre++(cells++rest)) (pre.length+n*sz+0) cs=pre++((cells++cs)++rest.drop cs.length):=by
   rw[show pre.length+n*sz+0=(pre++cells).length by rw[zza];omega,<- zzg,We pO];simp
  rw[e]at oY
  exact cz.mk (n:=n+m) (cells:=cells++cs) (rest:=rest.drop cs.length) h0 (by simp[hlen,hl,yyv]) (by
   rw[zzq,iT,hl,<- wwo];congr 1;omega) rfl oY
 refine⟨cells,⟨rfl,hlen,λj v e=>?_⟩,λc gf ll=>h _ _ ?_⟩
 ·rw[zz9];refine fR.cell .hd ?_
  grind
 have:=cz.mk (sz:=sz) (n:=n+m) (cells:=cells++cs) (pre:=[]) (rest:=bE z (c-(n+m))) (cap:=c) gf (by simp[hlen,hl,yyv]) (by rw[kV,hz]) rfl (SL.new (cs:=[]++((cells++cs)++bE z (c-(n+m)))) (t:=t) (fR.drop.drew));simpa using this
def cz.block(hS:SL W (.ob (cz v t sz n cells)::l) w)(hn:0<n):∃b pre cap rest,v= .slice (some ⟨b,pre.length,none⟩) n cap/\n<=cap/\cells.length=n*sz/\rest.length=(cap-n)*sz/\SL W (.pt b (pre++(cells++rest)) t::l) w:=by
 rcases cz.open hS with ⟨_,h0,_⟩|h
 ·omega
 exact h
end
set_option maxRecDepth 100000
open Go.RowKit Go.Maps Go.Sort Go.Shelf
def bzv(m:Nat):AnyZI.SortsIn prog Xc Fence.wide m:=
 ⟨λpD off cap ss W hH hblk fw=>uu4.2 (AnyM.slices_Sort_int W_ pD off cap ss W hH hblk fw),
  λp cap W=>uu4.2 (AnyM.slices_Sort_int_none W_ p cap W)⟩
section
variable {W w:Ζ} {l:Β} {b:Nat} {α:Type} {val:α->Ε} {m:List (Int × α)}
def bxf(hS:SL W l w)(hm:Has (.ob (dx (Value.int .i64) val b m)) l)(hlen:m.length*8<=140737488355328)(C3:∀p∈m,(Lit.int .i64 p.1).wf=true){K:Ε->Ζ->Prop}
  (h:∀v w',SL W (.ob (bd v 3 1 m.length ((vM m).map (Value.int .i64)))::l) w'->K v w') :
  aF 218 [.map (some b)] w λv1 w1=>aF 217 [v1] w1 K:=
 bm7 bm5 bzs bzv (enters_of func267 (by kernel_rfl) rfl) (enters_of func268 (by kernel_rfl) rfl) yyc hS hm hlen C3 h
end
set_option maxRecDepth 100000
open Go.RowKit
section
variable {W w:Ζ} {l:Β}
def zg.perm{α:Type}{A:α->zC}{xs ys:List α}(h:SL W (.ob (zg A xs)::l) w)(p:xs.Perm ys):SL W (.ob (zg A ys)::l) w:=
 zg.iff.2 ((zg.iff.1 h).perm ((p.map _).append_right l))
def SL.p6{v:Ε}{t:Ι}{sz n:Nat}{cells:Ξ}(h:SL W l w)(m:Has (.ob (bd v t sz n cells)) l):v.oneCell'=true:=by
 obtain⟨a,cap,rfl,_⟩:=bd.at h m;rfl
def WQ{t:Ι}{a:Option Addr}{n c:Nat}{K:Ε->Prop}(h:K (.bool a.isNone)):HEq (.slice t) false (.slice a n c) Θ K:=⟨a.isNone,by cases a<;>rfl,h⟩
end
def bf7{α β:Type}{key:α->Int}{kb:β->Int}{f:β->α}(hf:∀b,key (f b)=kb b)(L:List β)(k:Int):cP key (L.map f) k=(cP kb L k).map f:=by
 unfold cP;rw[Jm hf,BW hf];split
 ·rw[uua]
 rfl
def u9{α:Type}{key:α->Int}{L:List α}{k:Int}{x:α}(h:cP key L k=some x):L[eE key L k]?=some x/\eE key L k<L.length/\key x=k:=by
 unfold cP at h;split at h
 ·rename_i hi;obtain⟨hl,e⟩:=s6 hi;refine⟨h,hl,?_⟩;rw[zzd hl]at h
  cases h;exact e
 cases h
def Cb{α:Type}{key:α->Int}{L:List α}{k:Int}:(cP key L k).isSome=ic key L k:=by
 cases h:ic key L k with
 | true=>
  obtain⟨hl,_⟩:=s6 h;unfold cP;rw[zzc h,zzd hl];rfl
 | false=>unfold cP;rw[zzb (by rw[h];decide)];rfl
def fz(b:Nat):Ε:=Δ b
abbrev EF:=PF × Nat
def eQ(x:EF):Int:=x.1.id
def Fm(x:EF):PF.id (Prod.fst x)=eQ x:=rfl
abbrev KW(x:EF)(v:Ε):Β:=[.pt x.2 [v,Γ x.1.safe] 255,.ob (bd v 5 1 x.1.b.length (x.1.b.map bU))]
def dz(x:EF):zC:=iX λv:Ε=>zF True (KW x v)
def dz.iff{W w:Ζ}{x:EF}{l:Β}:SL W (.ob (dz x)::l) w↔∃v,SL W (.pt x.2 [v,Γ x.1.safe] 255::.ob (bd v 5 1 x.1.b.length (x.1.b.map bU))::l) w:=by
 unfold dz KW;simp only[SL.ex,SL.fact,zzn,zzo,uus]
abbrev gR(mb:Nat)(s:DS):Ξ:=[.map (some mb),.bool s.off,Γ s.arm,Γ s.ops]
abbrev KU(dp:Nat)(s:DS)(mb:Nat)(m:List (Int × Nat)):Β:=[.pt dp (gR mb s) 139,.ob (dx (Value.int .i64) fz mb m)]
structure kX(m:List (Int × Nat))(L:List EF)(R:List PF):Prop where
 rel:jA eQ Prod.snd m L
 eq:L.map Prod.fst=R
def bm(dp:Nat)(s:DS):zC:=iX λx:Nat × List (Int × Nat) × List EF=>zF (kX x.2.1 x.2.2 s.R) [.pt dp (gR x.1 s) 139,.ob (dx (Value.int .i64) fz x.1 x.2.1),.ob (zg dz x.2.2)]
def bm.iff{W w:Ζ}{dp:Nat}{s:DS}{l:Β}:SL W (.ob (bm dp s)::l) w↔∃mb m L,kX m L s.R/\SL W (.pt dp (gR mb s) 139::.ob (dx (Value.int .i64) fz mb m)::.ob (zg dz L)::l) w:=by
 unfold bm;simp only[SL.ex,SL.fact,zzn,zzo];exact⟨λ⟨x,h1,h2⟩=>⟨x.1,x.2.1,x.2.2,h1,h2⟩,λ⟨mb,m,L,h1,h2⟩=>⟨(mb,m,L),h1,h2⟩⟩
def kX.get{m:List (Int × Nat)}{L:List EF}{R:List PF}(h:kX m L R)(f:Int):fD m f=(cP eQ L f).map Prod.snd:=h.rel.get f
def kX.dL{m:List (Int × Nat)}{L:List EF}{R:List PF}(h:kX m L R)(f:Int):cP PF.id R f=(cP eQ L f).map Prod.fst:=by
 rw[<- h.eq];exact bf7 Fm L f
def kX.len{m:List (Int × Nat)}{L:List EF}{R:List PF}(h:kX m L R):L.length=R.length:=by rw[<- h.eq,zzv]
def kX.set{m:List (Int × Nat)}{L:List EF}{R:List PF}(h:kX m L R){f:Int}{x:EF}(hx:cP eQ L f=some x){y:PF}(hy:y.id=f):kX m (L.set (eE eQ L f) (y,x.2)) (fm PF.id R y):=by
 obtain⟨h1,h2,h3⟩:=u9 hx;obtain⟨h4,h5⟩:=zzh.1 h1;refine⟨h.rel.ri h2 (by rw[h5,h3];exact hy) (by rw[h5]),?_⟩;have hi:ic PF.id R y.id=true:=by
  rw[<- Cb,hy,h.dL,hx];rfl
 rw[FW hi,hy,<- h.eq,BW Fm,vvj]
def kX.new{m:List (Int × Nat)}{L:List EF}{R:List PF}(h:kX m L R){f:Int}(hx:cP eQ L f=none){y:PF}(hy:y.id=f)(p:Nat):kX (fN m f p) (fm eQ L (y,p)) (fm PF.id R y):=by
 have hi:ic eQ L (eQ (y,p))=false:=by
  rw[<- Cb,show eQ (y,p)=f from hy,hx];rfl
 have:=h.rel.add (x:=(y,p)) hi;refine⟨by rw[<- hy];exact this,?_⟩;rw[<- h.eq];exact bts Fm L (y,p)
def kX.del{m:List (Int × Nat)}{L:List EF}{R:List PF}(h:kX m L R)(f:Int):kX (p4 m f) (jb eQ L f) (jb PF.id R f):=by
 refine⟨h.rel.del f,?_⟩;rw[<- h.eq];exact bcf Fm L f
def bqk:SP 36 [] [] (λv post=>∃dp:Nat,v= Δ dp/\post=[.ob (bm dp fU)]):=by
 refine Enzz λW F w hS=>?_;apply bIe;delta ai;refine yW rfl ?_;refine⟨_,rfl,zD (cs:=[.map (some w.heap.size),.bool false,Γ 0,Γ 0]) (SL.Jy (key:=Value.int .i64) (val:=fz) hS) ?_⟩;intro dp w' fR;refine⟨_,⟨dp,rfl,rfl⟩,bm.iff.2 ⟨w.heap.size,[],[],⟨jA.nil,rfl⟩,?_⟩⟩;have oY:SL W (.pt dp (gR w.heap.size fU) 139::.ob (dx (Value.int .i64) fz w.heap.size [])::F) w':=fR;have h2:=zg.nil (A:=dz) oY;exact SL.bo h2 Xi
def YE(dp mb:Nat)(s:DS)(f:Int):SP 239 [Δ dp,Γ f] [.pt dp (gR mb s) 139] (bA (Γ (may s f)) [.pt dp (gR mb s) 139]):=by
 refine Enzz λW F w hS=>?_;apply bFz;delta aI bh ai;refine Gp ?_;unfold may;refine yJ (λh=>?_) (λh=>?_)
 ·rw[zzc h];(exact bw hS)
 rw[zzb (by rw[h];decide)];refine bj (λh2=>?_) (λh2=>?_)
 ·rw[zzc (.inl h2)];(exact bw hS)
 refine bj (λh3=>?_) (λh3=>?_)
 ·rw[zzc (.inr h3)];(exact bw hS)
 rw[zzb (by omega)];(exact bw hS)
def B9(s:DS)(m:List (Int × Nat))(f:Int):Ε:=if may s f≠0 then .tuple #[.pointer none,Γ (may s f)] else match fD m f with
 | none=>.tuple #[.pointer none,Γ 5]
 | some p=>.tuple #[fz p,Γ 0]
def Za(dp mb:Nat)(s:DS)(m:List (Int × Nat))(f:Int):SP 241 [Δ dp,Γ f] (KU dp s mb m) (bA (B9 s m f) (KU dp s mb m)):=by
 refine Enzz λW F w hS=>?_;apply bF2;delta aI bh ai bT;refine Cg (YE dp mb s f) λw hS=>?_;unfold B9;refine za (λh=>?_) (λh=>?_)
 ·rw[zzc h];(exact bw hS)
 rw[zzb h];refine Gp ?_;refine yY hS Xh (ph .i64) wwr yyc (λ_=>rfl) ?_;cases hm:fD m f with
 | none=>
  simp only[vvm,ww2];refine Yc (zu ?_);(exact bw hS)
 | some p=>
  simp only[yyo,xxq];unfold fz;refine Yc (zq ?_);(exact bw hS)
def yp(dp mb:Nat)(s:DS)(h0:s.off=false)(h1:0<=s.arm)(h2:s.arm<=9223372036854775807)(h3:s.ops<=100000):SP 240 [Δ dp] [.pt dp (gR mb s) 139]
  (bA (Γ s.bG.err) [.pt dp (gR mb s.bG) 139]):=by
 refine Enzz λW F w hS=>?_;apply bF1;delta aI bh bS ai;refine Gn λw hS=>?_;refine za (λh=>?_) (λh=>?_)
 ·refine Gn λw hS=>?_;have e:decide (s.arm-1=0)=decide (s.arm=1):=by congr 1;exact propext ⟨λ_=>by omega,λ_=>by omega⟩
  rw[e];rw[e]at hS
  have hS:SL W (.pt dp (gR mb s.bG) 139::F) w:=by
   simp only[gR,DS.bG,zzc h];exact hS
  unfold DS.err;refine za (λh4=>?_) (λh4=>?_)
  ·rw[zzc (by simp[DS.bG,h4])];(exact bw hS)
  rw[zzb (by simp[DS.bG,h4])];(exact bw hS)
 refine Gp ?_;have ha:¬s.arm=1:=by omega
 have hS:SL W (.pt dp (gR mb s.bG) 139::F) w:=by
  simp only[gR,DS.bG,zzb h,ha,decide_false];rw[h0]at hS
  exact hS
 rw[h0];refine zq ?_;have:s.bG.err=0:=by simp[DS.err,DS.bG,ha]
 rw[this];(exact bw hS)
def HU{α:Type}{enc:α->Ξ}{n:Nat}(hn:∀x,(enc x).length=n):∀(xs:List α) (j k:Nat) (hj:j<xs.length) (x:α) (v:Ε),k<n->(enc xs[j]).set k v=enc x->((xs.map enc).flatten).set (j*n+k) v=((xs.set j x).map enc).flatten
 | y::xs,0,k,_,x,v,hk,h=>by
  simp only[zzp,zz2,List.set_cons_zero,vv8,yyd];rw[www _ _ (by rw[hn];exact hk)];rw[show (enc y).set k v=enc x from h]
 | y::xs,j+1,k,hj,x,v,hk,h=>by
  simp only[zzp,zz2,List.set_cons_succ];rw[vvo _ _ (by rw[hn,yyv];omega),hn,show (j+1)*n+k-n=j*n+k by rw[yyv];omega,HU hn xs j k (by simpa using hj) x v hk (by simpa using h)]
def BH(sz gb:Nat)(z:Ξ)(t ts:Ι)(v0:Ε)(w:Ζ)(R:Ε->Ζ->Prop):Prop:=
 HEq (.slice ts) false v0 (.slice Option.none 0 0) λv4=>
 cB v4
 (R (.slice Option.none 0 0) w)
 (zm (bE z 0) [] t 0 w λv5 uF=>
 zt sz gb z t v5 v0 uF λv7 xB=>
 R v7 xB)
def Hn{W w:Ζ}{F:Β}{sz gb n:Nat}{z cs:Ξ}{t ts:Ι}{v:Ε}{K:Ε->Ζ->Prop}(hv:∃a c,v= .slice a n c)(gK:∀w' c,SL W (c::F) w'->jw w' sz v n cs)(hl:cs.length=n*sz)(hz:z.length=sz)(h0:0<sz)(h1:∀v∈cs,v.oneCell'=true)(hb:n*gb<=140737488355328)(hn:n<=140737488355328)
  (hS:SL W F w) (h:∀u w',SL W (.ob (bd u t sz n cs)::F) w'->K u w'):BH sz gb z t ts v w K:=by
 obtain⟨a,c,rfl⟩:=hv;unfold BH;refine WQ ?_;cases a with
 | none=>
  refine zu ?_;have hs:=gK _ _ (bd.nil (t:=t) (sz:=sz) hS);obtain rfl:cs=[]:=hs.2;obtain rfl:n=0:=by
   rw[yyw]at hl
   rcases Nat.mul_eq_zero.1 hl.symm with h|h
   ·exact h
   omega
  exact h _ _ (bd.nil hS)
 | some p=>
  refine zq ?_;refine zR hS rfl ?_;intro b w' fR;have oY:SL W (.ob (bd (.slice (some ⟨b,0,none⟩) 0 0) t sz 0 [])::F) w':=bd.full (by simp) (by simpa [bE] using fR);refine zL oY .hd (gK _ _ oY) hl hz h1 (by rw[yyd];exact hb) (by omega) ?_;intro u w2 An;rw[yyd,zzo]at An
  exact h u w2 An
section
variable {P:Program} {f:FuncId} {sz gb n:Nat} {z cs:Ξ} {t ts:Ι}
def Rz(vc:∀v0 w R,BH sz gb z t ts v0 w R->zJ P f [v0] w R)(hz:z.length=sz)(h0:0<sz){H:a_}{v:Ε}(hv:cn H sz v n cs)(h1:∀v∈cs,v.oneCell'=true)(hb:n*gb<=140737488355328)(hn:n<=140737488355328):
  Spec P f [v] [.mem H] (λu post=>post=[.ob (bd u t sz n cs),.mem H]):=by
 intro W F w hS;have hS:SL W (.mem H::F) w:=hS;exact vc _ _ _ (Hn (let ⟨_,a,c,e,_⟩:=hv;⟨a,c,e⟩) (λw' c h=>Kl h (.tl .hd) hv) hv.1 hz h0 h1 hb hn hS λu w' hS=>⟨_,rfl,hS⟩)
def aWv(vc:∀v0 w R,BH sz gb z t ts v0 w R->zJ P f [v0] w R)(hz:z.length=sz)(h0:0<sz){v:Ε}(h1:∀v∈cs,v.oneCell'=true)(hl:cs.length=n*sz)(hb:n*gb<=140737488355328)(hn:n<=140737488355328):
  Spec P f [v] [.ob (bd v t sz n cs)] (λu post=>post=[.ob (bd u t sz n cs),.ob (bd v t sz n cs)]):=by
 intro W F w hS;have hS:SL W (.ob (bd v t sz n cs)::F) w:=hS;exact vc _ _ _ (Hn (let ⟨a,c,e,_⟩:=bd.at hS .hd;⟨a,c,e⟩) (λw' c h=>jh h (.tl .hd)) hl hz h0 h1 hb hn hS λu w' hS=>⟨_,rfl,hS⟩)
end
section
variable {W w:Ζ} {l F:Β} {α:Type} {enc:α->Ξ} {t:Ι} {sz:Nat}
def zx{cs:Ξ}{K:Ε->Ζ->Prop}(hS:SL W l w)(h:∀b w,SL W (.pt b cs t::l) w->K (Δ b) w):∃nX:Ξ,Value.agg cs.toArray= .agg nX.toArray/\zh nX t w K:=⟨cs,rfl,zD hS h⟩
def qP{v:Ε}{n j:Nat}{k:IntKind}{xs:List α}{x:α}{K:Ε->Prop}(h:SL W l w)(m:Has (.ob (cz v t sz n (xs.map enc).flatten)) l)(hn:∀x,(enc x).length=sz)(hx:xs[j]?=some x)(hj:j<n)(hK:K (agg (enc x))):
  zl sz v (.int k (j:Int)) λp=>zf sz p w K:=by
 refine y3 h m hj λb o hb=>⟨⟨b,o,none⟩,enc x,rfl,hn x,λi u hu=>?_,hK⟩;rw[zz9];have hi:i<sz:=by rw[<- hn x];exact (zzh.1 hu).1
 exact hb i u hi (pM hn xs j i x u hx hu)
def qM{x:Ε}{gb n b:Nat}{z:Ξ}{xs:List α}{y:α}{K:Ε->Ζ->Prop}(hS:SL W l w)(hr:eW (.ob (cz x t sz n (xs.map enc).flatten)) l F)(hm:Has (.pt b (enc y) t) l)(hn:∀x,(enc x).length=sz)(h1:∀x,∀v∈enc x,v.oneCell'=true)(hz:z.length=sz)(hl:xs.length=n)(hb:(n+1)*gb<=140737488355328)(IJ:n+1<=140737488355328)
  (h:∀v' w',SL W (.ob (cz v' t sz (n+1) ((xs++[y]).map enc).flatten)::F) w'->K v' w'):zt sz gb z t x (.slice (some ⟨b,0,none⟩) 1 1) w K:=
 ZT hS hr (jx hS hm (by rw[hn,wwu])) (by rw[hn,wwu]) hz (h1 y) hb IJ λv' w' hS=>h v' w' (by rw[u0];exact hS)
def yf{x:Ε}{gb n b:Nat}{z:Ξ}{xs:List α}{y:α}{K:Ε->Ζ->Prop}(hS:SL W l w)(hr:eW (.ob (bd x t sz n (xs.map enc).flatten)) l F)(hm:Has (.pt b (enc y) t) l)(hn:∀x,(enc x).length=sz)(h1:∀x,∀v∈enc x,v.oneCell'=true)(hz:z.length=sz)(hb:(n+1)*gb<=140737488355328)(IJ:n+1<=140737488355328)
  (h:∀v' w',SL W (.ob (bd v' t sz (n+1) ((xs++[y]).map enc).flatten)::F) w'->K v' w'):zt sz gb z t x (.slice (some ⟨b,0,none⟩) 1 1) w K:=
 zL hS hr (jx hS hm (by rw[hn,wwu])) (by rw[hn,wwu]) hz (h1 y) hb IJ λv' w' hS=>h v' w' (by rw[u0];exact hS)
def SL.nf{v:Ε}{cs:Ξ}{xs:List α}{x:α}(hS:SL W (.ob (bd v t sz (xs.length+1) cs)::l) w):SL W (.ob (bd v t sz (xs++[x]).length cs)::l) w:=by
 rw[zza,yyb];exact hS
def SL.Wu{H:a_}{b n:Nat}{cs:Ξ}(hS:SL W l w)(hp:fK [.mem H,.pt b cs t] l F)(hl:cs.length=n*sz):∃H',H.le H'/\cn H' sz (.slice (some ⟨b,0,none⟩) n n) n cs/\SL W (.mem H'::F) w:=by
 have hS:=hS.pick hp;exact bd.freeze ((bd.full hl (hS.perm (.swap _ _ _))).perm (.swap _ _ _))
end
structure gO where
 aw:Int
 ov:Ε
 nv:Ε
def dD(x:gO):Ξ:=[Γ x.aw,x.ov,x.nv]
abbrev awq(H:a_)(v:Ε)(l:List fB):Prop:=cn H 5 v l.length (l.map iR).flatten
abbrev awp(H:a_)(v:Ε)(l:List gF):Prop:=cn H 7 v l.length (l.map jP).flatten
structure gn(H:a_)(x:gO)(t:bB):Prop where
 aw:x.aw=t.aw
 ops:awq H x.ov t.ops
 g_:awp H x.nv t.notes
def gn.mono{H H':a_}(hh:H.le H'){x:gO}{t:bB}(h:gn H x t):gn H' x t:=⟨h.aw,h.ops.mono hh,h.g_.mono hh⟩
def bde(x:gO):(dD x).length=3:=rfl
def HG(n:gF):∀v∈jP n,v.oneCell'=true:=by simp[jP,Value.oneCell']
def wx(o:fB):(iR o).length=5:=rfl
def lK{H:a_}{x:gO}{t:bB}(h:gn H x t):∀v∈dD x,v.oneCell'=true:=by
 intro v hv;simp only[dD,yya,yy5,vvb]at hv;rcases hv with rfl|rfl|rfl
 ·rfl
 ·exact h.ops.one
 exact h.g_.one
def uE(b:Φ):∀v∈b.map bU,v.oneCell'=true:=λv hv=>by
 obtain⟨x,_,rfl⟩:=zz5.1 hv;rfl
section
variable {W w:Ζ} {l:Β}
def Zm{F:Β}{a:Option Addr}{k cap:Nat}{cs:Ξ}{K:Ε->Ζ->Prop}(hS:SL W F w)(gK:∀w' c,SL W (c::F) w'->jw w' 1 (.slice a k cap) k cs)(hl:cs.length=k)(h1:∀v∈cs,v.oneCell'=true)(hb:k<=140737488355328)
  (h:∀u w',SL W (.ob (bd u 5 1 k cs)::F) w'->(a.isSome=true->u≠Θ\/k=0)->K u w'):aF 178 [.slice a k cap] w K:=by
 apply bEf;delta bc;refine WQ ?_;cases a with
 | none=>
  refine zu ?_;have hs:=gK _ _ (bd.nil (t:=5) (sz:=1) hS);obtain rfl:cs=[]:=hs.2;obtain rfl:k=0:=by simpa using hl.symm
  exact h _ _ (bd.nil hS) (λh=>by cases h)
 | some p=>
  refine zq ?_;refine zR hS rfl ?_;intro b w' fR;have oY:SL W (.ob (bd (.slice (some ⟨b,0,none⟩) 0 0) 5 1 0 [])::F) w':=bd.full rfl fR;refine zL oY .hd (gK _ _ oY) (by rw[hl];omega) rfl h1 (by omega) (by omega) ?_;intro u w2 An;rw[yyd,zzo]at An
  refine h u w2 An λ_=>?_;rcases yy8 k with hk|hk
  ·exact .inr hk
  refine .inl λe=>?_;subst e;rcases bd.open An with ⟨_,h2,_⟩|⟨b,cap,rest,h2,_⟩
  ·omega
  cases h2
def bxz{v:Ε}{t:Ι}{sz n k:Nat}{kk:IntKind}{cells:Ξ}{K:Ε->Prop}(h:SL W l w)(m:Has (.ob (bd v t sz n cells)) l)(hk:k<=n)
  (hK:∀a cap,(∀w' l',SL W l' w'->Has (.ob (bd v t sz n cells)) l'->jw w' sz (.slice a k cap) k (cells.take (k*sz)))->K (.slice a k cap)):dQ sz v none (some (.int kk (k:Int))) none K:=by
 obtain⟨a,cap,rfl,hl,hx⟩:=bd.at h m;have om:n<=cap:=by
  obtain⟨l2,r⟩:=m.rem;rcases bd.open (h.perm r.perm) with ⟨⟨a',e⟩,rfl,rfl,_⟩|⟨b,BR,rest,e,hc,_⟩
  ·cases e;omega
  cases e;exact hc
 refine⟨a,n,cap,0,k,cap,rfl,rfl,⟨kk,rfl⟩,rfl,zz6 _,by omega,zzj _,?_⟩;rw[wwh,wwh];have e:(if cap=0 then a else a.map (·.add (0*sz)))=a:=by
  split
  ·rfl
  cases a<;>simp[Addr.add]
 rw[e];refine hK a cap λw' l' h' m'=>?_;have hs:=jh h' m';cases a with
 | none=>
  obtain⟨e1,e2⟩:=hs;subst e2;have e1:n=n:=e1;have hn:n*sz=0:=by simpa using hl.symm
  refine⟨rfl,by simp⟩
 | some p=>
  obtain⟨_,e2,e3⟩:=hs;refine⟨rfl,by rw[zzf,e2];exact xxd (yy3 _ hk),λj v e=>?_⟩;rw[vv2]at e
  split at e
  ·exact e3 j v e
  cases e
end
def aIk(X:Μ)(dp:Nat)(s:DS)(N:Nat)(bC:s.Ok N)(cZ:s.ops<=100000)(f:Int)(bv:Ε)(b:Φ)(hX:∀{W:Ζ} {l:Β} {w:Ζ},SL W l w->Has X l->jw w 1 bv b.length (b.map bU))(hN:((cP PF.id s.R f).getD (xt f)).b.length+b.length<=140737488355328):
  SP 176 [Δ dp,Γ f,bv] [.ob (bm dp s),X] (bA (Γ (s.append f b).2) [.ob (bm dp (s.append f b).1),X]):=by
 refine Enzz λW F w hS=>?_;apply bEd;delta aI bh bS ai bT bc;obtain⟨mb,m,L,hr,hS⟩:=bm.iff.1 hS;refine Cg (YE dp mb s f) λw hS=>?_;unfold DS.append;refine za (λh=>?_) (λh=>?_)
 ·rw[zzc h];exact⟨_,⟨rfl,rfl⟩,bm.iff.2 ⟨mb,m,L,hr,aR hS⟩⟩
 rw[zzb h];have hm:may s f=0:=by omega
 obtain⟨h0,tS,Aq⟩:=Db hm;refine Gp ?_;refine yY hS Xh (ph .i64) wwr yyc (λ_=>rfl) ?_;rw[hr.get f];have bLv:=bC.len;cases hg:cP eQ L f with
 | none=>
  simp only[vvm,ww2];refine Yc (zu ?_);refine yW rfl ?_;refine⟨_,rfl,zD hS ?_⟩;clear hS;intro p w hS;refine Gp ?_;refine qQ (key:=Value.int .i64) (val:=fz) (k:=f) (v:=p) hS Xu (ph .i64) wwr yyc ?_;clear hS;intro _ w hS;refine Gp ?_;have hS:=bd.nil (t:=5) (sz:=1) hS;refine zL (n:=0) (m:=b.length) hS .hd (hX hS Xh) (by simp) rfl (uE b) (by omega) (by omega) ?_;clear hS;intro v w hS;rw[yyd,zzo]at hS
  have s3:=hS.p6 .hd;refine Gn λw hS=>?_;refine Cg (yp dp mb s h0 bC.oP bC.pB cZ) λw hS=>?_;have hS:=(dz.iff (x:=((⟨f,0,b⟩:PF),p))).2 ⟨v,SL.bo hS (t:=.pt p [v,Γ 0] 255::.ob (bd v 5 1 b.length (b.map bU))::.ob (zg dz L)::.pt dp (gR mb s.bG) 139::.ob (dx (Value.int .i64) fz mb (fN m f p))::X::F) Xi⟩;have hS:=zg.snoc (SL.bo hS (t:=.ob (zg dz L)::.ob (dz ((⟨f,0,b⟩:PF),p))::.pt dp (gR mb s.bG) 139::.ob (dx (Value.int .i64) fz mb (fN m f p))::X::F) Xi);have sZ:=hr.new hg (y:=⟨f,0,b⟩) rfl p;have hS:=zg.perm hS (ys:=fm eQ L (⟨f,0,b⟩,p)) (by
   have hi:ic eQ L (eQ ((⟨f,0,b⟩:PF),p))=false:=by rw[<- Cb,show eQ ((⟨f,0,b⟩:PF),p)=f from rfl,hg];rfl
   exact vvn.trans (J9 hr.rel.2 hi).symm)
  have e:jM s.R f b=fm PF.id s.R ⟨f,0,b⟩:=by
   unfold jM;rw[hr.dL f,hg];rfl
  rw[e];exact⟨_,⟨rfl,rfl⟩,bm.iff.2 ⟨mb,_,_,sZ,aR hS⟩⟩
 | some x=>
  obtain⟨g1,g2,g3⟩:=u9 hg;have hS:=zg.take (SL.bo hS (t:=.ob (zg dz L)::.pt dp (gR mb s) 139::.ob (dx (Value.int .i64) fz mb m)::X::F) Xi) g1;obtain⟨v0,hS⟩:=dz.iff.1 hS;simp only[yyo,xxq];unfold fz;refine Yc (zq ?_);refine Gp ?_;have Ux:x.1.b.length+b.length<=140737488355328:=by rw[hr.dL f,hg]at hN;exact hN
  refine zL (n:=x.1.b.length) (m:=b.length) hS Xr (hX hS Xh) (by simp) rfl (uE b) (by omega) (by omega) ?_;clear hS;intro v w hS;have s3:=hS.p6 .hd;refine Gn λw hS=>?_;refine Cg (yp dp mb s h0 bC.oP bC.pB cZ) λw hS=>?_;have e1:x.1.b.map bU++b.map bU=(x.1.b++b).map bU:=by rw[zzr]
  have e2:x.1.b.length+b.length=(x.1.b++b).length:=by rw[zza]
  rw[e1,e2]at hS
  have hS:=(dz.iff (x:=((⟨f,x.1.safe,x.1.b++b⟩:PF),x.2))).2 ⟨v,SL.bo hS (t:=.pt x.2 [v,Γ x.1.safe] 255::.ob (bd v 5 1 (x.1.b++b).length ((x.1.b++b).map bU))::.ob (zg dz (L.eraseIdx (eE eQ L f)))::.pt dp (gR mb s.bG) 139::.ob (dx (Value.int .i64) fz mb m)::X::F) Xi⟩;have hS:=zg.put hS g2;have e:jM s.R f b=fm PF.id s.R ⟨f,x.1.safe,x.1.b++b⟩:=by
   unfold jM;rw[hr.dL f,hg];rfl
  rw[e];exact⟨_,⟨rfl,rfl⟩,bm.iff.2 ⟨mb,_,_,hr.set hg (y:=⟨f,x.1.safe,x.1.b++b⟩) rfl,aR hS⟩⟩
def Ha(X:Μ)(dp:Nat)(s:DS)(N:Nat)(bC:s.Ok N)(cZ:s.ops<=100000)(f:Int)(bv:Ε)(b:Φ)(hX:∀{W:Ζ} {l:Β} {w:Ζ},SL W l w->Has X l->jw w 1 bv b.length (b.map bU))(hN:N+b.length<=140737488355328):
  SP 176 [Δ dp,Γ f,bv] [.ob (bm dp s),X] (bA (Γ (s.append f b).2) [.ob (bm dp (s.append f b).1),X]):=
 aIk X dp s N bC cZ f bv b hX (by have:=SR (f:=f) bC.len;omega)
def HP{s:DS}{m:List (Int × Nat)}{L:List EF}(hr:kX m L s.R)(f:Int):
  (s.find f≠0/\B9 s m f= .tuple #[.pointer none,Γ (s.find f)])\/(s.find f=0/\may s f=0/\∃x,cP eQ L f=some x/\B9 s m f= .tuple #[fz x.2,Γ 0]):=by
 unfold DS.find B9;by_cases h:may s f=0
 ·have h':¬may s f≠0:=λe=>e h;rw[zzb h',zzb h',hr.get f];have hi:ic PF.id s.R f=(cP eQ L f).isSome:=by rw[<- Cb,hr.dL f,Option.isSome_map]
  rw[hi];cases hg:cP eQ L f with
  | none=>exact .inl ⟨by simp,by simp⟩
  | some x=>exact .inr ⟨by simp,h,x,rfl,rfl⟩
 rw[zzc h,zzc h];exact .inl ⟨h,rfl⟩
def wy{W w:Ζ}{L:List EF}{f:Int}{x:EF}{l:Β}(hg:cP eQ L f=some x)(hS:SL W (.ob (zg dz L)::l) w):SL W (.ob (dz x)::.ob (zg dz (L.eraseIdx (eE eQ L f)))::l) w:=zg.take hS (u9 hg).1
def HM{W w:Ζ}{L:List EF}{f:Int}{x y:EF}{l:Β}(hg:cP eQ L f=some x)(hS:SL W (.ob (dz y)::.ob (zg dz (L.eraseIdx (eE eQ L f)))::l) w):SL W (.ob (zg dz (L.set (eE eQ L f) y))::l) w:=zg.put hS (u9 hg).2.1
def HN{W w:Ζ}{L:List EF}{f:Int}{x:EF}{l:Β}(hg:cP eQ L f=some x)(hS:SL W (.ob (dz x)::.ob (zg dz (L.eraseIdx (eE eQ L f)))::l) w):SL W (.ob (zg dz L)::l) w:=by
 have h:=HM hg hS;have e:L.set (eE eQ L f) x=L:=by
  obtain⟨h1,h2⟩:=zzh.1 (u9 hg).1;rw[<- h2];simp
 rwa [e]at h
def XL{R:List PF}{f:Int}{x:PF}(h:cP PF.id R f=some x)(g:PF->PF):jz R f g=fm PF.id R {g x with id:=f}:=by
 unfold jz;rw[h]
def Yj(dp:Nat)(s:DS)(N:Nat)(bC:s.Ok N)(cZ:s.ops<=100000)(f:Int):
  SP 177 [Δ dp,Γ f] [.ob (bm dp s)] (bA (Γ (s.sync f).2) [.ob (bm dp (s.sync f).1)]):=by
 refine Enzz λW F w hS=>?_;apply bEe;delta aI bh bS ai;obtain⟨mb,m,L,hr,hS⟩:=bm.iff.1 hS;refine Cc (Za dp mb s m f) ?_;clear hS;rintro v post ⟨rfl,rfl⟩ w hS;try simp only[app]at hS
 unfold DS.sync;rcases HP hr f with ⟨h1,e⟩|⟨h1,h2,x,hg,e⟩
 ·rw[e,zzc h1];refine Gp ?_;refine za (λh=>absurd h h1) (λ_=>?_);refine Gp ?_;refine za (λh=>absurd h h1) (λ_=>?_);exact⟨_,⟨rfl,rfl⟩,bm.iff.2 ⟨mb,m,L,hr,aR hS⟩⟩
 obtain⟨h0,tS,Aq⟩:=Db h2;rw[e,zzb (λh=>h h1)];unfold fz;refine Gp ?_;refine Υ ?_;refine Cg (yp dp mb s h0 bC.oP bC.pB cZ) λw hS=>?_;by_cases hc:s.bG.off=true
 ·have he:s.bG.err=8:=by unfold DS.err;rw[zzc hc]
  rw[he,zzc hc];refine Χ ?_;exact⟨_,⟨rfl,rfl⟩,bm.iff.2 ⟨mb,m,L,hr,aR hS⟩⟩
 have he:s.bG.err=0:=by unfold DS.err;rw[zzb hc]
 rw[he,zzb hc];refine Υ ?_;have hS:=wy hg (SL.bo hS (t:=.ob (zg dz L)::.pt dp (gR mb s.bG) 139::.ob (dx (Value.int .i64) fz mb m)::F) Xi);obtain⟨v0,hS⟩:=dz.iff.1 hS;refine Gp ?_;refine zy hS (t:=5) (sz:=1) (n:=x.1.b.length) (cells:=x.1.b.map bU) Xh ?_;refine Gn λw hS=>?_;have hS:=HM hg ((dz.iff (x:=((⟨f,x.1.b.length,x.1.b⟩:PF),x.2))).2 ⟨v0,SL.bo hS (t:=.pt x.2 [v0,Γ (x.1.b.length:Int)] 255::.ob (bd v0 5 1 x.1.b.length (x.1.b.map bU))::.ob (zg dz (L.eraseIdx (eE eQ L f)))::.pt dp (gR mb s.bG) 139::.ob (dx (Value.int .i64) fz mb m)::F) Xi⟩);have eR:=XL (f:=f) (x:=x.1) (by rw[hr.dL f,hg];rfl) λx=>{x with safe:=x.b.length};rw[eR];exact⟨_,⟨rfl,rfl⟩,bm.iff.2 ⟨mb,_,_,hr.set hg (y:=⟨f,x.1.b.length,x.1.b⟩) rfl,aR hS⟩⟩
def Yy(x:EF)(n:Nat)(hn:n<=x.1.b.length)(hb:n<=140737488355328):SP 149 [fz x.2,Γ (n:Int)] [.ob (dz x)] (bA (.tuple #[]) [.ob (dz (iB n x.1,x.2))]):=by
 refine Enzz λW F w hS=>?_;apply bDn;delta bh bS;obtain⟨v0,hS⟩:=dz.iff.1 hS;unfold fz;refine Gp ?_;refine bxz hS (t:=5) (sz:=1) (n:=x.1.b.length) (cells:=x.1.b.map bU) Xh hn ?_;intro a cap gK;refine Zm (cs:=(x.1.b.map bU).take (n*1)) hS (λw' c fR=>gK w' _ fR (.tl Xh)) (by simp;omega) (λv hv=>uE _ v (yyg hv)) (by omega) ?_;clear hS;intro u w hS _;have s3:=hS.p6 .hd;refine Gn λw hS=>?_;have e1:(x.1.b.map bU).take (n*1)=(iB n x.1).b.map bU:=by rw[vvs,<- List.map_take];rfl
 have e2:(iB n x.1).b.length=n:=by simp only[iB,zzf];omega
 have e3:min (x.1.safe:Int) (n:Int)=(((iB n x.1).safe:Nat):Int):=by simp only[iB];omega
 rw[e1,e3]at hS
 refine⟨_,⟨rfl,rfl⟩,dz.iff.2 ⟨u,?_⟩⟩;rw[e2];exact aR hS
def bnh{s:DS}{m:List (Int × Nat)}{L:List EF}(hr:kX m L s.R){f:Int}{x:EF}(hg:cP eQ L f=some x):gi s.R f=x.1.b.length:=by
 unfold gi;rw[hr.dL f,hg];rfl
def Zs(dp:Nat)(s:DS)(N:Nat)(bC:s.Ok N)(hN:N<=140737488355328)(cZ:s.ops<=100000)(f n:Int):
  SP 215 [Δ dp,Γ f,Γ n] [.ob (bm dp s)] (bA (Γ (s.cut f n).2) [.ob (bm dp (s.cut f n).1)]):=by
 refine Enzz λW F w hS=>?_;apply bFg;delta aI bh ai;obtain⟨mb,m,L,hr,hS⟩:=bm.iff.1 hS;refine Cc (Za dp mb s m f) ?_;clear hS;rintro v post ⟨rfl,rfl⟩ w hS;try simp only[app]at hS
 unfold DS.cut;rcases HP hr f with ⟨h1,e⟩|⟨h1,h2,x,hg,e⟩
 ·rw[e,zzc h1];refine Gp ?_;refine⟨λus w=>us=[Γ (s.find f)]/\SL W (.pt dp (gR mb s) 139::.ob (dx (Value.int .i64) fz mb m)::.ob (zg dz L)::F) w,?_,?_⟩
  ·refine Gp ?_;refine za (λh=>absurd h h1) (λ_=>?_);exact⟨rfl,aR hS⟩
  clear hS;rintro v8 w ⟨bM,hS⟩;cases bM;refine Gp ?_;refine za (λh=>absurd h h1) (λ_=>?_);refine Gp ?_;refine za (λh=>absurd h h1) (λ_=>?_);exact⟨_,⟨rfl,rfl⟩,bm.iff.2 ⟨mb,m,L,hr,aR hS⟩⟩
 obtain⟨h0,tS,Aq⟩:=Db h2;rw[e,zzb (λh=>h h1)];unfold fz;refine Gp ?_;rw[bnh hr hg];have Ux:x.1.b.length<=N:=bC.len _ (by rw[<- hr.eq];exact zz5.2 ⟨x,xxu (u9 hg).1,rfl⟩);refine⟨λus w=>us=[Γ (if n<0\/(x.1.b.length:Int)<n then 1 else 0)]/\SL W (.pt dp (gR mb s) 139::.ob (dx (Value.int .i64) fz mb m)::.ob (zg dz L)::F) w,?_,?_⟩
 ·refine Gp ?_;refine Υ ?_;refine bj (λh=>?_) (λh=>?_)
  ·rw[zzc (.inl h)];exact⟨rfl,aR hS⟩
  have hS:=wy hg (SL.bo hS (t:=.ob (zg dz L)::.pt dp (gR mb s) 139::.ob (dx (Value.int .i64) fz mb m)::F) Xi);obtain⟨v0,hS⟩:=dz.iff.1 hS;refine Gp ?_;refine zy hS (t:=5) (sz:=1) (n:=x.1.b.length) (cells:=x.1.b.map bU) Xh ?_;refine Gp ?_;have hS:=HN hg (dz.iff.2 ⟨v0,hS⟩);refine za (λh3=>?_) (λh3=>?_)
  ·rw[zzc (.inr h3)];exact⟨rfl,aR hS⟩
  rw[zzb (by omega)];exact⟨rfl,aR hS⟩
 clear hS;rintro v8 w ⟨bM,hS⟩;cases bM;refine Gp ?_;by_cases hn:n<0\/(x.1.b.length:Int)<n
 ·rw[zzc hn,zzc hn];refine Χ ?_;refine Gp ?_;refine Χ ?_;exact⟨_,⟨rfl,rfl⟩,bm.iff.2 ⟨mb,m,L,hr,aR hS⟩⟩
 rw[zzb hn,zzb hn];refine Υ ?_;refine Cg (yp dp mb s h0 bC.oP bC.pB cZ) λw hS=>?_;by_cases hc:s.bG.off=true
 ·have he:s.bG.err=8:=by unfold DS.err;rw[zzc hc]
  rw[he,zzc hc];refine Χ ?_;exact⟨_,⟨rfl,rfl⟩,bm.iff.2 ⟨mb,m,L,hr,aR hS⟩⟩
 have he:s.bG.err=0:=by unfold DS.err;rw[zzb hc]
 rw[he,zzb hc];refine Υ ?_;have hS:=wy hg (SL.bo hS (t:=.ob (zg dz L)::.pt dp (gR mb s.bG) 139::.ob (dx (Value.int .i64) fz mb m)::F) Xi);obtain⟨k,rfl⟩:∃k:Nat,n=(k:Int):=⟨n.toNat,by omega⟩;have hC:=Yy x k (by omega) (by omega);unfold fz at hC;refine Cg (hC) λw hS=>?_;have hS:=HM hg (y:=({iB k x.1 with id:=f},x.2)) (SL.bo hS (t:=.ob (dz ({iB k x.1 with id:=f},x.2))::.ob (zg dz (L.eraseIdx (eE eQ L f)))::.pt dp (gR mb s.bG) 139::.ob (dx (Value.int .i64) fz mb m)::F) (by
  have:(iB k x.1,x.2)=(({iB k x.1 with id:=f}:PF),x.2):=by
   have:=(u9 hg).2.2;unfold eQ at this;rw[<- this];rfl
  rw[this];exact Xi))
 have eR:=XL (f:=f) (x:=x.1) (by rw[hr.dL f,hg];rfl) (iB (k:Int).toNat);rw[eR,zzw];exact⟨_,⟨rfl,rfl⟩,bm.iff.2 ⟨mb,_,_,hr.set hg (y:={iB k x.1 with id:=f}) rfl,aR hS⟩⟩
def yR(dp:Nat)(s:DS)(N:Nat)(bC:s.Ok N)(cZ:s.ops<=100000)(f:Int):
  SP 216 [Δ dp,Γ f] [.ob (bm dp s)] (bA (Γ (s.remove f).2) [.ob (bm dp (s.remove f).1)]):=by
 refine Enzz λW F w hS=>?_;apply bFh;delta aI bh ai;obtain⟨mb,m,L,hr,hS⟩:=bm.iff.1 hS;refine Cc (Za dp mb s m f) ?_;clear hS;rintro v post ⟨rfl,rfl⟩ w hS;try simp only[app]at hS
 unfold DS.remove;rcases HP hr f with ⟨h1,e⟩|⟨h1,h2,x,hg,e⟩
 ·rw[e,zzc h1];refine Gp ?_;refine za (λh=>absurd h h1) (λ_=>?_);refine Gp ?_;refine za (λh=>absurd h h1) (λ_=>?_);exact⟨_,⟨rfl,rfl⟩,bm.iff.2 ⟨mb,m,L,hr,aR hS⟩⟩
 obtain⟨h0,tS,Aq⟩:=Db h2;rw[e,zzb (λh=>h h1)];unfold fz;refine Gp ?_;refine Υ ?_;refine Cg (yp dp mb s h0 bC.oP bC.pB cZ) λw hS=>?_;by_cases hc:s.bG.off=true
 ·have he:s.bG.err=8:=by unfold DS.err;rw[zzc hc]
  rw[he,zzc hc];refine Χ ?_;exact⟨_,⟨rfl,rfl⟩,bm.iff.2 ⟨mb,m,L,hr,aR hS⟩⟩
 have he:s.bG.err=0:=by unfold DS.err;rw[zzb hc]
 rw[he,zzb hc];refine Υ ?_;refine Gp ?_;refine bxi (key:=Value.int .i64) (val:=fz) (k:=f) hS Xu (ph .i64) wwr yyc ?_;clear hS;intro _ w hS;have hS:=wy hg (SL.bo hS (t:=.ob (zg dz L)::.pt dp (gR mb s.bG) 139::.ob (dx (Value.int .i64) fz mb (p4 m f))::F) Xi);have eL:jb eQ L f=L.eraseIdx (eE eQ L f):=by
  unfold jb;rw[zzc (by rw[<- Cb,hg];rfl)]
 have hd:=hr.del f;rw[eL]at hd
 exact⟨_,⟨rfl,rfl⟩,bm.iff.2 ⟨mb,_,_,hd,aR hS⟩⟩
def BC(dp:Nat)(s:DS)(f:Int)(v:Ε)(post:Β):Prop:=match cP PF.id s.R f with
 | none=>v= .tuple #[Θ,.bool false]/\post=[.ob (bm dp s)]
 | some x=>∃u,v= .tuple #[u,.bool true]/\post=[.ob (bm dp s),.ob (bd u 5 1 x.b.length (x.b.map bU))]
def Ya(dp:Nat)(s:DS)(N:Nat)(bC:s.Ok N)(hN:N<=140737488355328)(f:Int):
  SP 225 [Δ dp,Γ f] [.ob (bm dp s)] (BC dp s f):=by
 refine Enzz λW F w hS=>?_;apply bFk;delta bh bT bc;obtain⟨mb,m,L,hr,hS⟩:=bm.iff.1 hS;refine Gp ?_;refine yY hS Xh (ph .i64) wwr yyc (λ_=>rfl) ?_;rw[hr.get f];cases hg:cP eQ L f with
 | none=>
  simp only[vvm,ww2];refine Yc (zu ?_);exact⟨[.ob (bm dp s)],by unfold BC;rw[hr.dL f,hg];exact⟨rfl,rfl⟩,bm.iff.2 ⟨mb,m,L,hr,aR hS⟩⟩
 | some x=>
  simp only[yyo,xxq];unfold fz;refine Yc (zq ?_);have Ux:x.1.b.length<=N:=bC.len _ (by rw[<- hr.eq];exact zz5.2 ⟨x,xxu (u9 hg).1,rfl⟩);have hS:=wy hg (SL.bo hS (t:=.ob (zg dz L)::.pt dp (gR mb s) 139::.ob (dx (Value.int .i64) fz mb m)::F) Xi);obtain⟨v0,hS⟩:=dz.iff.1 hS;refine Gp ?_;obtain⟨a,cap,rfl,hl,_⟩:=bd.at hS (t:=5) (sz:=1) (n:=x.1.b.length) (cells:=x.1.b.map bU) Xh;refine Zm (cs:=x.1.b.map bU) hS (λw' c fR=>jh fR (.tl Xh)) (by simp) (uE _) (by omega) ?_;clear hS;intro u w hS _;have hS:=HN hg ((dz.iff (x:=x)).2 ⟨_,SL.bo hS (t:=.pt x.2 [.slice a x.1.b.length cap,Γ x.1.safe] 255::.ob (bd (.slice a x.1.b.length cap) 5 1 x.1.b.length (x.1.b.map bU))::.ob (zg dz (L.eraseIdx (eE eQ L f)))::.ob (bd u 5 1 x.1.b.length (x.1.b.map bU))::.pt dp (gR mb s) 139::.ob (dx (Value.int .i64) fz mb m)::F) Xi⟩);exact⟨[.ob (bm dp s),.ob (bd u 5 1 x.1.b.length (x.1.b.map bU))],by unfold BC;rw[hr.dL f,hg];exact⟨u,rfl,rfl⟩,bm.iff.2 ⟨mb,m,L,hr,aR hS⟩⟩
def YD(dp:Nat)(s:DS)(f:Int):
  SP 214 [Δ dp,Γ f] [.ob (bm dp s)] (bA (Γ (gi s.R f)) [.ob (bm dp s)]):=by
 refine Enzz λW F w hS=>?_;apply bFf;delta bh ai bT;obtain⟨mb,m,L,hr,hS⟩:=bm.iff.1 hS;unfold gi;rw[hr.dL f];refine Gp ?_;refine yY hS Xh (ph .i64) wwr yyc (λ_=>rfl) ?_;rw[hr.get f];cases hg:cP eQ L f with
 | none=>
  simp only[vvm,ww2];refine Kh (zq ?_);exact⟨_,⟨rfl,rfl⟩,bm.iff.2 ⟨mb,m,L,hr,aR hS⟩⟩
 | some x=>
  simp only[yyo,xxq];unfold fz;refine Kh (zu ?_);have hS:=wy hg (SL.bo hS (t:=.ob (zg dz L)::.pt dp (gR mb s) 139::.ob (dx (Value.int .i64) fz mb m)::F) Xi);obtain⟨v0,hS⟩:=dz.iff.1 hS;refine Gp ?_;refine zy hS (t:=5) (sz:=1) (n:=x.1.b.length) (cells:=x.1.b.map bU) Xh ?_;have hS:=HN hg ((dz.iff (x:=x)).2 ⟨_,hS⟩);exact⟨_,⟨rfl,rfl⟩,bm.iff.2 ⟨mb,m,L,hr,aR hS⟩⟩
def wf_i64{n:Int}(h : -9223372036854775808<=n/\n<=9223372036854775807):(Lit.int .i64 n).wf=true:=by
 simpa [Lit.wf,IntKind.min,IntKind.max,IntKind.signed,IntKind.bits] using h
def ZG(dp:Nat)(s:DS)(N:Nat)(bC:s.Ok N)(hR:s.R.length<=100000):
  SP 148 [Δ dp] [.ob (bm dp s)] (λv post=>post=[.ob (bm dp s),.ob (bd v 3 1 s.R.length (s.R.map λx=>Γ x.id))]):=by
 refine Enzz λW F w hS=>?_;apply bDm;delta bh;obtain⟨mb,m,L,hr,hS⟩:=bm.iff.1 hS;refine Gp ?_;have mU:m.length=s.R.length:=by rw[hr.rel.len,hr.len]
 refine bxf hS Xh (by omega) (λp hp=>?_) ?_
 ·obtain⟨x,hx,rfl⟩:=zz5.1 (hr.rel.1.subset hp);have:=bC.ids x.1 (by rw[<- hr.eq];exact zz5.2 ⟨x,hx,rfl⟩);exact wf_i64 (by show -9223372036854775808<=eQ x/\_;unfold eQ;omega)
 clear hS;intro v w hS;have e:(vM m).map (Value.int .i64)=s.R.map λx=>Γ x.id:=by
  rw[hr.rel.vM,<- hr.eq,xxh,xxh];rfl
 rw[e,mU]at hS
 exact⟨_,rfl,bm.iff.2 ⟨mb,m,L,hr,aR hS⟩⟩
def aIv(dp:Nat)(s:DS)(n:Int):
  SP 147 [Δ dp,Γ n] [.ob (bm dp s)] (bA (.tuple #[]) [.ob (bm dp (s.pC n))]):=by
 refine Enzz λW F w hS=>?_;apply bDl;delta bS ai;obtain⟨mb,m,L,hr,hS⟩:=bm.iff.1 hS;refine Gn λw hS=>?_;have hS:SL W (.pt dp (gR mb (s.pC n)) 139::.ob (dx (Value.int .i64) fz mb m)::.ob (zg dz L)::F) w:=hS;exact⟨_,⟨rfl,rfl⟩,bm.iff.2 ⟨mb,m,L,hr,aR hS⟩⟩
def zH(dp:Nat)(s:DS):
  SP 39 [Δ dp] [.ob (bm dp s)] (bA (.bool s.off) [.ob (bm dp s)]):=by
 refine Enzz λW F w hS=>?_;apply bIh;delta bh;obtain⟨mb,m,L,hr,hS⟩:=bm.iff.1 hS;refine Gp ?_;exact⟨_,⟨rfl,rfl⟩,bm.iff.2 ⟨mb,m,L,hr,aR hS⟩⟩
def ja(keep:Ω)(i:Nat)(L:List EF):List EF:=L.mapIdx λj x=>if j<i then (iA keep j x.1,x.2) else x
def tD(keep:Ω)(i:Nat)(L:List EF):(ja keep i L).length=L.length:=by simp[ja]
def uS{keep:Ω}{i:Nat}{L:List EF}{j:Nat}(h:j<L.length):(ja keep i L)[j]'(by rw[tD];exact h)=if j<i then (iA keep j L[j].1,L[j].2) else L[j]:=by simp[ja]
def a_k(keep:Ω)(L:List EF):ja keep 0 L=L:=by
 refine xx2 (tD _ _ _) λj h1 h2=>?_;rw[uS h2,zzb (by omega)]
def a_j{keep:Ω}{i:Nat}{L:List EF}(h:i<L.length):ja keep (i+1) L=(ja keep i L).set i (iA keep i L[i].1,L[i].2):=by
 refine xx2 (by simp[ja]) λj h1 h2=>?_;have hj:j<L.length:=by rw[tD]at h1;exact h1
 rw[uS hj,xx8];by_cases e:i=j
 ·subst e;rw[zzc (by omega),zzc rfl]
 rw[zzb e,uS hj];by_cases h3:j<i
 ·rw[zzc h3,zzc (by omega)]
 rw[zzb h3,zzb (by omega)]
def a_h{keep:Ω}{L:List EF}:(ja keep L.length L).map Prod.fst=dU (L.map Prod.fst) keep:=by
 unfold dU;refine xx2 (by simp[ja]) λj h1 h2=>?_;have hj:j<L.length:=by simpa [ja] using h1
 rw[xx9,uS hj,zzc hj];simp
def a_i(keep:Ω)(i:Nat)(L:List EF):(ja keep i L).map (λx=>(eQ x,x.2))=L.map λx=>(eQ x,x.2):=by
 refine xx2 (by simp[ja]) λj h1 h2=>?_;have hj:j<L.length:=by simpa [ja] using h1
 rw[xx9,xx9,uS hj];split<;>rfl
def RG{keep:Ω}{i:Nat}{m:List (Int × Nat)}{L:List EF}(h:jA eQ Prod.snd m L):jA eQ Prod.snd m (ja keep i L):=by
 refine⟨by rw[a_i];exact h.1,?_⟩;have:=h.2;unfold eJ at *
 rw[xxv]at *
 intro a b ha hb tR;have rN:a<L.length:=by rw[tD]at ha;exact ha
 have mj:b<L.length:=by rw[tD]at hb;exact hb
 have h3:=this a b rN mj tR;rw[uS rN,uS mj];have e1:∀(p:Prop) [Decidable p] (x:EF) (j:Nat),eQ (if p then (iA keep j x.1,x.2) else x)=eQ x:=λp _ x j=>by split<;>rfl
 rw[e1,e1];exact h3
def qk(H:a_)(dp:Nat)(s:DS)(N:Nat)(bC:s.Ok N)(hN:N<=140737488355328)(hR:s.R.length<=100000)(kv:Ε)(keep:Ω)(hk:cn H 1 kv keep.length (keep.map (Value.int .i64))):
  SP 91 [Δ dp,kv] [.ob (bm dp s),.mem H] (bA (.tuple #[]) [.ob (bm dp (s.dB keep)),.mem H]):=by
 refine Enzz λW F w hS=>?_;apply bJ0;delta aI bh bS ai;refine Cc (ZG dp s N bC hR) ?_;clear hS;rintro fv post rfl w hS;try simp only[app]at hS
 refine zy hS (t:=3) (sz:=1) (n:=s.R.length) (cells:=s.R.map λx=>Γ x.id) Xh ?_;obtain⟨mb,m,L,hr,hS⟩:=bm.iff.1 (SL.bo hS (t:=.ob (bm dp s)::.ob (bd fv 3 1 s.R.length (s.R.map λx=>Γ x.id))::.mem H::F) Xi);have Ig:=hr.len;refine⟨λus w=>∃i:Nat,us=[Γ i]/\i<=L.length/\SL W (.ob (zg dz (ja keep i L))::.pt dp (gR mb s) 139::.ob (dx (Value.int .i64) fz mb m)::.ob (bd fv 3 1 s.R.length (s.R.map λx=>Γ x.id))::.mem H::F) w,
  λus _=>match us with|[.int _ i]=>(L.length-i).toNat|_=>0,⟨0,rfl,by omega,by rw[a_k];exact aR hS⟩,?_⟩
 clear hS;rintro v11 w ⟨i,bM,hi,hS⟩;cases bM;refine bj (λh=>?_) (λh=>?_)
 ·have bn:i<L.length:=by omega
  have Ih:s.R[i]?=some L[i].1:=by rw[<- hr.eq];simp[bn]
  refine yv hS (t:=3) (u:=Γ L[i].1.id) Xh (by omega) (by rw[uua,Ih];rfl) ?_;refine Gp ?_;have IX:=RG (keep:=keep) (i:=i) hr.rel;have EL:(ja keep i L)[i]'(by rw[tD];exact bn)=L[i]:=by rw[uS bn,zzb (by omega)]
  have hg:cP eQ (ja keep i L) L[i].1.id=some L[i]:=by
   have:=sO IX.2 (zzk (l:=ja keep i L) (n:=i) (by rw[tD];exact bn));rw[EL]at this
   exact this
  have gx:eE eQ (ja keep i L) L[i].1.id=i:=BV IX.2 (j:=i) (by rw[tD];exact bn) (by rw[EL];rfl);have ug:=bC.safe L[i].1 (xxu Ih);have hlen:=bC.len L[i].1 (xxu Ih);refine yY hS Xh (ph .i64) wwr yyc (λ_=>rfl) ?_;rw[IX.get,hg];simp only[yyo,xxq];rw[show fz L[i].2= .pointer (some ⟨L[i].2,0,none⟩) from rfl];have hS:=wy hg hS;rw[gx]at hS
  have jG:∀{w:Ζ} {l:Β},SL W (.ob (dz (iA keep i L[i].1,L[i].2))::.ob (zg dz ((ja keep i L).eraseIdx i))::l) w->SL W (.ob (zg dz (ja keep (i+1) L))::l) w:=λh=>by
   rw[a_j bn];exact zg.put h (by rw[tD];exact bn)
  generalize (ja keep i L).eraseIdx i=Er at *
  refine⟨λus w=>us=[Γ (jd keep i L[i].1:Int)]/\SL W (.ob (dz L[i])::.ob (zg dz Er)::.pt dp (gR mb s) 139::.ob (dx (Value.int .i64) fz mb m)::.ob (bd fv 3 1 s.R.length (s.R.map λx=>Γ x.id))::.mem H::F) w,?_,?_⟩
  ·refine zn hk ?_;refine Gp ?_;unfold jd;refine za (λh1=>?_) (λh1=>?_)
   ·have Au:i<keep.length:=by omega
    rw[zzd Au];simp only;refine yA hS Xh hk Au (u:=Γ keep[i]) (by simp[Au]) ?_;refine bj (λh2=>?_) (λh2=>?_)
    ·rw[zzc h2];refine Gn λw hS=>?_;refine yA hS Xh hk Au (u:=Γ keep[i]) (by simp[Au]) ?_;obtain⟨v0,hS⟩:=dz.iff.1 hS;refine Gp ?_;refine zy hS (t:=5) (sz:=1) (n:=L[i].1.b.length) (cells:=L[i].1.b.map bU) Xh ?_;refine Gp ?_;obtain⟨k,tX⟩:∃k:Nat,keep[i]=(k:Int):=⟨keep[i].toNat,by omega⟩;have e:(L[i].1.b.length:Int)-(L[i].1.safe:Int)+1=((L[i].1.b.length-L[i].1.safe+1:Nat):Int):=by omega
     rw[tX,e];refine QW (by omega) ?_;exact⟨by rw[zzw],SL.bo (dz.iff.2 ⟨v0,hS⟩) Xi⟩
    rw[zzb h2];exact⟨rfl,aR hS⟩
   rw[yyt (by omega)];exact⟨rfl,aR hS⟩
  clear hS;rintro v7 w ⟨bM,hS⟩;cases bM;have bju:=xq (keep:=keep) (i:=i) ug;obtain⟨v0,hS⟩:=dz.iff.1 hS;refine Gp ?_;have hS:=dz.iff.2 ⟨v0,hS⟩;have hC:=Yy L[i] (L[i].1.safe+jd keep i L[i].1) bju (by omega);unfold fz at hC;refine Cg (hC) λw hS=>?_;obtain⟨v1,hS⟩:=dz.iff.1 hS;refine Gp ?_;refine zy hS (t:=5) (sz:=1) (n:=(iB (L[i].1.safe+jd keep i L[i].1) L[i].1).b.length) (cells:=(iB (L[i].1.safe+jd keep i L[i].1) L[i].1).b.map bU) Xh ?_;refine Gn λw hS=>?_;refine⟨⟨i+1,by simp,by omega,?_⟩,by dsimp only;omega⟩;have e1:(iB (L[i].1.safe+jd keep i L[i].1) L[i].1).b=(iA keep i L[i].1).b:=rfl;have e2:(((iB (L[i].1.safe+jd keep i L[i].1) L[i].1).b.length:Nat):Int)=(((iA keep i L[i].1).safe:Nat):Int):=by simp[iA,iB]
  rw[e1]at hS e2
  rw[e2]at hS
  have e3:(iB (L[i].1.safe+jd keep i L[i].1) L[i].1).b.length=(iA keep i L[i].1).b.length:=rfl;have hS:=(dz.iff (x:=(iA keep i L[i].1,L[i].2))).2 ⟨v1,hS⟩;exact SL.bo (jG (SL.bo hS (t:=.ob (dz (iA keep i L[i].1,L[i].2))::.ob (zg dz Er)::.pt dp (gR mb s) 139::.ob (dx (Value.int .i64) fz mb m)::.ob (bd fv 3 1 s.R.length (s.R.map λx=>Γ x.id))::.mem H::F) Xi)) Xi
 have bn:i=L.length:=by omega
 subst bn;refine Gn λw hS=>?_;have hS:SL W (.ob (zg dz (ja keep L.length L))::.pt dp (gR mb (s.dB keep)) 139::.ob (dx (Value.int .i64) fz mb m)::.ob (bd fv 3 1 s.R.length (s.R.map λx=>Γ x.id))::.mem H::F) w:=hS;refine⟨_,⟨rfl,rfl⟩,bm.iff.2 ⟨mb,m,ja keep L.length L,⟨RG hr.rel,?_⟩,aR hS⟩⟩;rw[a_h,hr.eq];rfl
