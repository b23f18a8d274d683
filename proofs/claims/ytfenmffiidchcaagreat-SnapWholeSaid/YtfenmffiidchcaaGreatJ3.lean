/-
  Texts of the proof, joined: Keys, KMod, DMod, RecM, RecM2, FldM, R01P, ModS, ReqM, ItemM, RqP, Sl8, KeysC, DiskS, CloneG, Sl9, ItemV, DiskS2, DiskS3, DiskS4.
-/
import Derived.Test.YtfenmffiidchcaaGreatJ2
import Derived.Shelf.SlIterI.Nil
import Derived.Shelf.SortM.Plain
import Derived.Shelf.SortM.SortNone
import Derived.WideShapes
import Derived.Test.YtfenmffiidchcaaGreatQVcG
import Derived.Test.YtfenmffiidchcaaGreatQLay
import Derived.Test.YtfenmffiidchcaaGreatQTab
namespace Go.Proofs.YtfenmffiidchcaaGreat
set_option linter.unusedVariables false
open Go.RowKit Go.Maps Go.Sort Go.Shelf
def wz{α:Type}(m:List (Int × α)):List Int:=(m.map (·.1)).mergeSort (λx y=>decide (x<=y))
section
variable {W w:World} {l:List Chunk} {P:Program} {ρ σ:Ren} {b:Nat} {α:Type} {val:α->Value} {m:List (Int × α)}
theorem SL.kept{w':World}(h:SL W l w)(hb:Below w.heap.size w w'):SL W l w':=by
 obtain⟨a1,a2,a3,k,s,x⟩:=h
 refine⟨hb.os.trans a1,hb.tape.trans a2,hb.output.trans a3,k,s,λb o e=>?_⟩
 have e1:=x b o e
 rw[hb.block b (Array.getElem?_eq_some_iff.1 e1).1];exact e1
theorem SL.aRl{w':World}{g:Nat}{cs:List Value}{t:TypeId}(h:SL W l w)(hb:Below w.heap.size w w')(hg:w.heap.size<=g)(he:w'.heap[g]?=some (.cells cs.toArray t (0,0))):SL W (.pt g cs t::l) w':=by
 obtain⟨a1,a2,a3,k,s,x⟩:=h
 have hk:k g=none:=by
  cases hx:k g with
  | none=>rfl
  | some y=>have:=(Array.getElem?_eq_some_iff.1 (x g y hx)).1;omega
 refine⟨hb.os.trans a1,hb.tape.trans a2,hb.output.trans a3,λy=>if y=g then some (.cells cs.toArray t (0,0)) else k y,⟨bw.one g (.cells cs.toArray t (0,0)),k,λy=>?_,⟨(0,0),.inl rfl,rfl⟩,s⟩,λy o e=>?_⟩
 ·by_cases hy:y=g
  ·subst hy;exact .inr ⟨hk,by simp[bw.one]⟩
  ·exact .inl ⟨by simp[bw.one,hy],by simp[hy]⟩
 ·by_cases hy:y=g
  ·subst hy;simp at e;rw[he,e]
  ·simp[hy]at e
   have e1:=x y o e
   rw[hb.block y (Array.getElem?_eq_some_iff.1 e1).1];exact e1
theorem SL.aRm{w':World}{v:Value}{n:Nat}{t:TypeId}{xs:List Value}(h:SL W l w)(hb:Below w.heap.size w w')(hr:w'.ownsRow w.heap.size t 1 v n xs):SL W (.ob (a_ v t 1 n xs)::l) w':=by
 obtain⟨hx,h2⟩:=hr
 rcases h2 with ⟨rfl,rfl⟩|⟨g,cap,cur,rfl,hg,he,h3,h4,h5,h6⟩
 ·obtain rfl:xs=[]:=List.eq_nil_of_length_eq_zero (by simpa using hx)
  exact a_.nil (h.kept hb)
 ·refine a_.mk (rest:=cur.toList.drop (n*1)) h3 hx ?_ (h.aRl hb hg ?_)
  ·rw[List.length_drop,Array.length_toList,h5,Nat.mul_sub_right_distrib]
  ·rw[<- h6,List.take_append_drop];exact he
theorem a75{H:Type}{kt:TypeId}(G6:P.underlying kt=some (.int .i64))(hS:SL W l w)(hm:Has (.ob (jU (Value.int .i64) val b m)) l)(hlen:m.length<=maxLen)(xH:∀p∈m,(Lit.int .i64 p.1).wf=true):
  ∃D:DataW H,w.ownsMap P kt (λ_=>some (.nil,[])) b m.length D/\(intKeys D).Perm (m.map (·.1))/\Maps.size D=m.length:=by
 obtain⟨es,c,e1,e2,hb⟩:=hS.AX hm
 have hl:es.length=m.length:=by simpa using congrArg List.length e1
 have xo:∀x∈es,∃p∈m,x.key= .int .i64 p.1:=λx hx=>by
  have:kv x∈es.map kv:=List.mem_map.2 ⟨x,hx,rfl⟩
  rw[e1]at this
  obtain⟨p,hp,hq⟩:=List.mem_map.1 this
  exact⟨p,hp,(Prod.mk.inj hq).1.symm⟩
 have gw:∀x∈es,∀a,x.key= .int .i64 a->WideElems.rd P kt (λ_=>some ((.nil:DataW H),[])) x=some (.int .i64 a,.nil):=λx hx a ha=>by
  obtain⟨p,hp,hq⟩:=xo x hx
  rw[ha]at hq;cases hq
  have hw:=xH p hp
  simp[WideElems.rd,keyOf,G6,mapKey,ha,hw]
 refine⟨_,⟨es.toArray,c,hb,⟨by simpa [hl] using hlen,e2,λx hx=>?_⟩,by simp[hl],rfl⟩,?_,?_⟩
 ·obtain⟨p,hp,hq⟩:=xo x (by simpa using hx)
  exact⟨_,gw x (by simpa using hx) _ hq⟩
 ·show (List.map (λp:Lit × DataW H=>Go.intOf p.1) _).Perm _
  refine ((WideShapes.sorted_perm _).map _).trans ?_
  rw[List.map_map]
  have:es.map ((λp:Lit × DataW H=>Go.intOf p.1)∘WideElems.rg P kt (λ_=>some ((.nil:DataW H),[])))=m.map (·.1):=by
   have h1:es.map ((λp:Lit × DataW H=>Go.intOf p.1)∘WideElems.rg P kt (λ_=>some ((.nil:DataW H),[])))=(es.map kv).map λq=>match q.1 with | .int _ a=>a|_=>0:=by
    rw[List.map_map]
    refine List.map_congr_left λx hx=>?_
    obtain⟨p,hp,hq⟩:=xo x hx
    simp[WideElems.rg_of (gw x hx _ hq),kv,hq,Go.intOf]
   rw[h1,e1,List.map_map]
   rfl
  simpa using this▸List.Perm.refl _
 ·rw[Maps.size_eq,(WideShapes.sorted_perm _).length_eq];simp[hl]
theorem aRp(L7:SlLaysZI.n7 P ρ)(L6:SlLaysZI.n6 P σ)(aFe:∀m,AnyZI.SortsIn P σ Fence.wide m)(e9:∀args w,(callFunc (σ.f 9) args).run P w= .ok (.enter (σ.f 9) args) w)(F4:∀args w,(callFunc (ρ.f 10) args).run P w= .ok (.enter (ρ.f 10) args) w)
  (G6:P.underlying (ρ.t 26)=some (.int .i64)) (hS:SL W l w) (hm:Has (.ob (jU (Value.int .i64) val b m)) l) (hlen:m.length*8<=140737488355328) (xH:∀p∈m,(Lit.int .i64 p.1).wf=true) {K:Value->World->Prop}
  (h:∀v w',SL W (.ob (a_ v (σ.t 26) 1 m.length ((wz m).map (Value.int .i64)))::l) w'->K v w') :
  zU P (ρ.f 7) [.map (some b)] w λv1 w1=>zU P (σ.f 6) [v1] w1 K:=by
 obtain⟨D,RD,awv,nU⟩:=a75 (H:=Unit) G6 hS hm (by unfold maxLen;omega) xH
 refine (callsIn_wide (n:=5)).1 ((AnyZI.keys_in L7 Fence.wide 5 trivial rfl (some b) w).mono ?_)
 rintro e w1 ⟨rfl,rfl⟩
 refine⟨_,rfl,?_⟩
 have u0:=RD.lt
 have Cv:SeqGives Fence.wide 2 P (ρ.f 10) #[.pointer (some ⟨w.heap.size,0,none⟩)] encZ (λss=>ss.Perm (intKeys D)) (Maps.size D) (w.alloc (.cells #[.map (some b)] (ρ.t 23))):=
  AnyZI.keys_gives (ρ:=ρ) {L7 with} Fence.wide _ trivial rfl (by omega) w.heap.size b m.length D _ (by simp) (by simp) (by
   obtain⟨es,clock,hb,Ft,hs,hD⟩:=RD
   exact⟨es,clock,(Below.heap_alloc _ _ b u0).trans hb,Ft,hs,hD⟩)
 have cS:=AnyZI.sorted_in L6 Fence.wide 5 trivial trivial trivial trivial rfl (by omega) (aFe _) e9 (ρ.f 10) #[.pointer (some ⟨w.heap.size,0,none⟩)] trivial F4 _ _ (by rw[nU];unfold maxLen;omega) (by rw[nU];exact hlen) _ Cv
 refine (callsIn_wide (n:=5)).1 (cS.mono ?_)
 rintro e w' ⟨v,ss,rfl,wg,py,Co,hb⟩
 refine⟨v,rfl,h v w' ?_⟩
 have hp:=wg.trans awv
 have awe:ss.length=m.length:=by simpa using hp.length_eq
 have vj:ss.mergeSort (λx y=>decide (x<=y))=wz m:=mergeSort_of_perm_i hp
 rw[awe,vj]at py
 have rj:Below w.heap.size w w':=((Below.refl _ w).alloc (Nat.le_refl _) _).trans (hb.mono (by simp))
 exact hS.aRm rj (ownsRow_base_a py (by simp))
end
section
variable {α:Type} (key:α->Int)
def kf(L:List α):Prop:=L.Pairwise λa b=>key a<key b
def iI(L:List α)(k:Int):Nat:=(L.filter λx=>decide (key x<k)).length
variable {key}
theorem Ae(L:List α)(k:Int):iI key L k<=L.length:=List.length_filter_le _ _
theorem FU{L:List α}(hs:kf key L)(k:Int):∀j (h:j<L.length),key L[j]<k↔j<iI key L k:=by
 unfold kf at hs
 unfold iI
 induction L with
 | nil=>intro j h;simp at h
 | cons x L ih=>
  rw[List.pairwise_cons]at hs
  intro j h
  by_cases hx:key x<k
  ·rw[List.filter_cons_of_pos (by simpa using hx)]
   cases j with
   | zero=>simp[hx]
   | succ j=>simpa using ih hs.2 j (by simpa using h)
  ·have e:L.filter (λr=>decide (key r<k))=[]:=by
    rw[List.filter_eq_nil_iff];intro y hy;have:=hs.1 y hy;simp;omega
   rw[List.filter_cons_of_neg (by simpa using hx),e]
   cases j with
   | zero=>simpa using hx
   | succ j=>
    have hm:L[j]'(by simpa using h)∈L:=List.getElem_mem _
    have:=hs.1 _ hm
    simp;omega
theorem FT{L:List α}(hs:kf key L)(k:Int){i:Nat}(hi:i<=L.length)(h1:∀j (h:j<L.length),j<i->key L[j]<k)(h2:∀h:i<L.length,¬key L[i]<k):iI key L k=i:=by
 have hle:=Ae (key:=key) L k
 rcases Nat.lt_trichotomy (iI key L k) i with h|h|h
 ·have:=(FU hs k _ (by omega)).1 (h1 (iI key L k) (by omega) h)
  omega
 ·exact h
 ·have:=h2 (by omega)
  have h3:=(FU hs k i (by omega)).2 h
  exact absurd h3 this
theorem FR{L:List α}(hs:kf key L){k:Int}{j:Nat}(hj:j<L.length)(h:key L[j]=k):iI key L k=j:=by
 refine FT hs k (by omega) (λi hi vg=>?_) (λ_=>by omega)
 have:=List.pairwise_iff_getElem.1 hs i j hi hj vg
 omega
def j8(key:α->Int)(L:List α)(k:Int):Bool:=match L[iI key L k]? with
 | some x=>decide (key x=k)
 | none=>false
theorem Em{L:List α}(hs:kf key L){k:Int}:j8 key L k=true↔∃x∈L,key x=k:=by
 unfold j8
 constructor
 ·intro h
  split at h
  ·rename_i x e
   exact⟨x,List.mem_of_getElem? e,of_decide_eq_true h⟩
  ·cases h
 ·rintro ⟨x,hx,rfl⟩
  obtain⟨j,hj,rfl⟩:=List.mem_iff_getElem.1 hx
  rw[FR hs hj rfl,List.getElem?_eq_getElem hj]
  simp
theorem sJ{L:List α}{k:Int}(h:j8 key L k=true):∃hl:iI key L k<L.length,key L[iI key L k]=k:=by
 unfold j8 at h
 split at h
 ·rename_i x e
  obtain⟨hl,rfl⟩:=List.getElem?_eq_some_iff.1 e
  exact⟨hl,of_decide_eq_true h⟩
 ·cases h
theorem HP{L:List α}(hs:kf key L){k:Int}(h:j8 key L k=false):∀x∈L,key x≠k:=λx hx e=>by
 have:=(Em hs).2 ⟨x,hx,e⟩
 rw[h]at this;cases this
def ij(key:α->Int)(L:List α)(k:Int):Option α:=if j8 key L k then L[iI key L k]? else none
def lY(key:α->Int)(L:List α)(x:α):List α:=L.take (iI key L (key x))++[x]++L.drop (if j8 key L (key x) then iI key L (key x)+1 else iI key L (key x))
def nr(key:α->Int)(L:List α)(k:Int):List α:=if j8 key L k then L.eraseIdx (iI key L k) else L
theorem EI{L:List α}{x:α}(h:j8 key L (key x)=true):lY key L x=L.set (iI key L (key x)) x:=by
 obtain⟨hl,_⟩:=sJ h
 unfold lY
 rw[if_pos h,List.set_eq_take_append_cons_drop,if_pos hl];simp
theorem ug{L:List α}{k:Int}{x:α}(h:ij key L k=some x):x∈L/\key x=k:=by
 unfold ij at h
 split at h
 ·rename_i hi
  obtain⟨hl,e⟩:=sJ hi
  rw[List.getElem?_eq_getElem hl]at h
  cases h
  exact⟨List.getElem_mem hl,e⟩
 ·cases h
theorem Aq{L:List α}(hs:kf key L){x:α}(h:x∈L):ij key L (key x)=some x:=by
 unfold ij
 rw[if_pos ((Em hs).2 ⟨x,h,rfl⟩)]
 obtain⟨j,hj,rfl⟩:=List.mem_iff_getElem.1 h
 rw[FR hs hj rfl,List.getElem?_eq_getElem hj]
theorem Gv{L:List α}(hs:kf key L){k:Int}:ij key L k=none↔∀x∈L,key x≠k:=by
 constructor
 ·intro h x hx e
  subst e
  rw[Aq hs hx]at h;cases h
 ·intro h
  cases hg:ij key L k with
  | none=>rfl
  | some x=>obtain⟨h1,h2⟩:=ug hg;exact absurd h2 (h x h1)
theorem T8{L:List α}(hs:kf key L){i:Nat}(hi:i<L.length){x:α}(hx:key x=key L[i]):kf key (L.set i x):=by
 unfold kf at *
 rw[List.pairwise_iff_getElem]at *
 intro a b ha hb Aw
 rw[List.length_set]at ha hb
 rw[List.getElem_set,List.getElem_set]
 have h1:=hs a b ha hb Aw
 split<;>split
 ·omega
 ·rename_i e _;subst e;omega
 ·rename_i e;subst e;omega
 ·exact h1
theorem Tk{L:List α}(hs:kf key L){x:α}(h:j8 key L (key x)=false):(lY key L x).Perm (x::L):=by
 unfold lY
 rw[if_neg (by rw[h];decide)]
 have:L=L.take (iI key L (key x))++L.drop (iI key L (key x)):=by simp
 conv=>rhs;rw[this]
 rw[List.append_assoc]
 exact List.perm_middle
theorem Iu{L:List α}(hs:kf key L)(x:α):kf key (lY key L x):=by
 cases h:j8 key L (key x) with
 | true=>
  rw[EI h]
  obtain⟨hl,e⟩:=sJ h
  exact T8 hs hl e.symm
 | false=>
  have hn:=HP hs h
  unfold lY
  rw[if_neg (by rw[h];decide)]
  have ix:=FU hs (key x)
  have hle:=Ae (key:=key) L (key x)
  unfold kf at *
  rw[List.append_assoc,List.pairwise_append]
  refine⟨hs.sublist (List.take_sublist _ _),?_,λa ha b hb=>?_⟩
  ·rw[List.singleton_append,List.pairwise_cons]
   refine⟨λb hb=>?_,hs.sublist (List.drop_sublist _ _)⟩
   obtain⟨j,hj,rfl⟩:=List.mem_iff_getElem.1 hb
   rw[List.getElem_drop]
   have o5:iI key L (key x)+j<L.length:=by simp at hj;omega
   have h1:=(not_congr (ix _ o5)).2 (by omega)
   have h2:=hn _ (List.getElem_mem o5)
   omega
  ·obtain⟨j,hj,rfl⟩:=List.mem_iff_getElem.1 ha
   rw[List.getElem_take]
   have o5:j<iI key L (key x)/\j<L.length:=by simp at hj;omega
   have h1:=(ix j o5.2).2 o5.1
   rcases List.mem_append.1 hb with hb|hb
   ·simp at hb;subst hb;exact h1
   ·obtain⟨i,hi,rfl⟩:=List.mem_iff_getElem.1 hb
    rw[List.getElem_drop]
    have ve:iI key L (key x)+i<L.length:=by simp at hi;omega
    have h3:=(not_congr (ix _ ve)).2 (by omega)
    omega
theorem Oy{L:List α}(hs:kf key L)(k:Int):kf key (nr key L k):=by
 unfold nr
 split
 ·exact hs.sublist (List.eraseIdx_sublist _ _)
 ·exact hs
theorem a7c{L:List α}(hs:kf key L):(L.map key).Nodup:=by
 refine List.pairwise_map.2 (List.Pairwise.imp (R:=λa b=>key a<key b) (λ{a b} Aw=>?_) hs)
 omega
theorem Wz{L:List α}(hs:kf key L)(k:Int):nr key L k=L.filter λx=>decide (key x≠k):=by
 unfold nr
 split
 ·rename_i h
  obtain⟨hl,e⟩:=sJ h
  generalize iI key L k=i at *
  have nf:=hs
  unfold kf at nf
  clear h hs
  induction L generalizing i with
  | nil=>simp at hl
  | cons y L ih=>
   rw[List.pairwise_cons]at nf
   cases i with
   | zero=>
    simp only[List.getElem_cons_zero]at e
    rw[List.eraseIdx_cons_zero,List.filter_cons_of_neg (by simp[e])]
    symm
    rw[List.filter_eq_self]
    intro z hz
    have:=nf.1 z hz
    simp;omega
   | succ i=>
    have xq:i<L.length:=by simpa using hl
    have e':key L[i]=k:=by simpa using e
    have:=nf.1 _ (List.getElem_mem xq)
    rw[List.eraseIdx_cons_succ,List.filter_cons_of_pos (by simp;omega),ih i xq e' nf.2]
 ·rename_i h
  have hn:=HP hs (by simpa using h)
  symm
  rw[List.filter_eq_self]
  intro x hx;simpa using hn x hx
theorem wV{β:Type}{kb:β->Int}{f:β->α}(hf:∀b,key (f b)=kb b)(L:List β)(k:Int):iI key (L.map f) k=iI kb L k:=by
 unfold iI
 rw[List.filter_map,List.length_map]
 congr 2
 funext b
 simp[hf]
theorem bRn{β:Type}{kb:β->Int}{f:β->α}(hf:∀b,key (f b)=kb b){L:List β}:kf key (L.map f)↔kf kb L:=by
 unfold kf
 rw[List.pairwise_map]
 simp only[hf]
theorem AU{β:Type}{kb:β->Int}{f:β->α}(hf:∀b,key (f b)=kb b)(L:List β)(k:Int):j8 key (L.map f) k=j8 kb L k:=by
 unfold j8
 rw[wV hf,List.getElem?_map]
 cases L[iI kb L k]? with
 | none=>rfl
 | some b=>simp[hf]
theorem a_m{β:Type}{kb:β->Int}{f:β->α}(hf:∀b,key (f b)=kb b)(L:List β)(b:β):(lY kb L b).map f=lY key (L.map f) (f b):=by
 unfold lY
 rw[AU hf,wV hf,hf]
 simp
theorem SC{α β:Type}(f:β->α):∀(L:List β) (i:Nat),(L.eraseIdx i).map f=(L.map f).eraseIdx i
 | [],_=>rfl
 | x::L,0=>rfl
 | x::L,i+1=>by simp only[List.eraseIdx_cons_succ,List.map_cons,SC f L i]
theorem Ox{β:Type}{kb:β->Int}{f:β->α}(hf:∀b,key (f b)=kb b)(L:List β)(k:Int):(nr kb L k).map f=nr key (L.map f) k:=by
 unfold nr
 rw[AU hf,wV hf]
 split
 ·exact SC f L _
 ·rfl
theorem CN{L:List α}{x y:α}(h:y∈lY key L x):y=x\/y∈L:=by
 unfold lY at h
 rcases List.mem_append.1 h with h|h
 ·rcases List.mem_append.1 h with h|h
  ·exact .inr (List.mem_of_mem_take h)
  ·exact .inl (by simpa using h)
 ·exact .inr (List.mem_of_mem_drop h)
theorem EA{L:List α}{k:Int}{y:α}(h:y∈nr key L k):y∈L:=by
 unfold nr at h
 split at h
 ·exact List.mem_of_mem_eraseIdx h
 ·exact h
end
section
variable {α β:Type} {key:α->Int} {val:α->β} {m:List (Int × β)} {L:List α}
def np(key:α->Int)(val:α->β)(m:List (Int × β))(L:List α):Prop:=m.Perm (L.map λx=>(key x,val x))/\kf key L
theorem np.nodup(h:np key val m L):(m.map (·.1)).Nodup:=by
 have:=h.1.map (·.1)
 rw[List.map_map]at this
 exact this.nodup_iff.2 (a7c h.2)
theorem SS(hn:(m.map (·.1)).Nodup)(k:Int)(v:β):kV m k=some v↔(k,v)∈m:=by
 induction m with
 | nil=>simp[kV]
 | cons p m ih=>
  rw[List.map_cons,List.nodup_cons]at hn
  obtain⟨a,b⟩:=p
  by_cases ha:a=k
  ·subst ha
   simp only[kV,if_true,Option.some.injEq,List.mem_cons,Prod.mk.injEq,true_and]
   constructor
   ·rintro rfl;exact .inl rfl
   ·rintro (h|h)
    ·exact h.symm
    ·exact absurd (List.mem_map.2 ⟨_,h,rfl⟩) hn.1
  ·have HK:=ih hn.2
   have iW:¬(k=a):=λe=>ha e.symm
   simp only[kV,ha,if_false,HK,List.mem_cons,Prod.mk.injEq,iW,false_and,false_or]
theorem np.get(h:np key val m L)(k:Int):kV m k=(ij key L k).map val:=by
 cases hg:ij key L k with
 | some x=>
  obtain⟨hx,rfl⟩:=ug hg
  exact (SS h.nodup _ _).2 (h.1.symm.subset (List.mem_map.2 ⟨x,hx,rfl⟩))
 | none=>
  cases hm:kV m k with
  | none=>rfl
  | some v=>
   obtain⟨x,hx,e⟩:=List.mem_map.1 (h.1.subset ((SS h.nodup _ _).1 hm))
   cases e
   exact absurd rfl ((Gv h.2).1 hg x hx)
theorem aWn(hn:(m.map (·.1)).Nodup)(k:Int):sK m k=m.filter λp=>decide (p.1≠k):=by
 induction m with
 | nil=>rfl
 | cons p m ih=>
  rw[List.map_cons,List.nodup_cons]at hn
  unfold sK
  split
  ·rename_i e
   rw[List.filter_cons_of_neg (by simp[e])]
   symm
   rw[List.filter_eq_self]
   intro q hq
   have:q.1≠p.1:=λe2=>hn.1 (by rw[<- e2];exact List.mem_map.2 ⟨q,hq,rfl⟩)
   simp;omega
  ·rename_i e
   rw[List.filter_cons_of_pos (by simpa using e),ih hn.2]
theorem np.del(h:np key val m L)(k:Int):np key val (sK m k) (nr key L k):=by
 refine⟨?_,Oy h.2 k⟩
 rw[aWn h.nodup,Wz h.2]
 have:=h.1.filter λp=>decide (p.1≠k)
 rwa [List.filter_map]at this
theorem aWz{k:Int}(hn:kV m k=none)(v:β):ma m k v=m++[(k,v)]:=by
 induction m with
 | nil=>rfl
 | cons p m ih=>
  unfold kV at hn
  split at hn
  ·cases hn
  ·rename_i e
   unfold ma
   rw[if_neg e,ih hn];rfl
theorem np.add(h:np key val m L){x:α}(hn:j8 key L (key x)=false):np key val (ma m (key x) (val x)) (lY key L x):=by
 refine⟨?_,Iu h.2 x⟩
 have hg:ij key L (key x)=none:=(Gv h.2).2 (HP h.2 hn)
 rw[aWz (by rw[h.get,hg];rfl)]
 have h1:=(Tk h.2 hn).map λx=>(key x,val x)
 refine (List.perm_append_comm.trans ?_).trans h1.symm
 rw[List.map_cons]
 exact h.1.cons _
theorem np.uH(h:np key val m L){i:Nat}(hi:i<L.length){x:α}(h1:key x=key L[i])(h2:val x=val L[i]):np key val m (L.set i x):=by
 refine⟨?_,T8 h.2 hi h1⟩
 have e:(L.set i x).map (λx=>(key x,val x))=L.map λx=>(key x,val x):=by
  rw[List.map_set,h1,h2]
  refine List.ext_getElem? λj=>?_
  rw[List.getElem?_set]
  split
  ·rename_i vg;subst vg
   rw[if_pos (by simpa using hi),List.getElem?_map,List.getElem?_eq_getElem hi];rfl
  ·rfl
 rw[e];exact h.1
theorem np.wz(h:np key val m L):wz m=L.map key:=by
 have hp:(m.map (·.1)).Perm (L.map key):=by
  have:=h.1.map (·.1)
  rwa [List.map_map]at this
 have e:YtfenmffiidchcaaGreat.wz m=(L.map key).mergeSort (λx y=>decide (x<=y)):=Go.mergeSort_of_perm_i hp
 rw[e]
 refine List.mergeSort_of_pairwise ?_
 refine List.pairwise_map.2 (List.Pairwise.imp (R:=λa b:α=>key a<key b) (λ{a b} Aw=>?_) h.2)
 simp only[decide_eq_true_eq];omega
theorem np.len(h:np key val m L):m.length=L.length:=by simpa using h.1.length_eq
theorem np.nil:np key val [] []:=⟨.refl _,.nil⟩
end
structure PF where
 id:Int
 safe:Nat
 b:List UInt8
def cR(x:UInt8):Value:=.int .u8 (x.toNat:Int)
structure DS where
 R:List PF
 off:Bool
 arm:Int
 ops:Nat
def nY(f:Int):PF:=⟨f,0,[]⟩
def nE(R:List PF)(f:Int)(b:List UInt8):List PF:=lY PF.id R ⟨f,((ij PF.id R f).getD (nY f)).safe,((ij PF.id R f).getD (nY f)).b++b⟩
def nN(R:List PF)(f:Int)(g:PF->PF):List PF:=match ij PF.id R f with
 | some x=>lY PF.id R {g x with id:=f}
 | none=>R
def may(s:DS)(f:Int):Int:=if s.off=true then 8 else if f<0\/16384<=f then 1 else 0
def DS.f'(s:DS):DS:={s with off:=decide (s.arm=1),arm:=if 0<s.arm then s.arm-1 else s.arm,ops:=s.ops+1}
def DS.err(s:DS):Int:=if s.off=true then 8 else 0
def DS.find(s:DS)(f:Int):Int:=if may s f≠0 then may s f else if j8 PF.id s.R f=true then 0 else 5
def DS.append(s:DS)(f:Int)(b:List UInt8):DS × Int:=if may s f≠0 then (s,may s f) else ({s.f' with R:=nE s.R f b},s.f'.err)
def DS.sync(s:DS)(f:Int):DS × Int:=if s.find f≠0 then (s,s.find f) else if s.f'.off=true then (s.f',8) else ({s.f' with R:=nN s.R f λx=>{x with safe:=x.b.length}},0)
def pS(R:List PF)(f:Int):Int:=match ij PF.id R f with
 | some x=>x.b.length
 | none=>-1
def pJ(n:Nat)(x:PF):PF:={x with b:=x.b.take n,safe:=min x.safe n}
def DS.cut(s:DS)(f n:Int):DS × Int:=if s.find f≠0 then (s,s.find f) else if n<0\/pS s.R f<n then (s,1) else if s.f'.off=true then (s.f',8) else ({s.f' with R:=nN s.R f (pJ n.toNat)},0)
def DS.remove(s:DS)(f:Int):DS × Int:=if s.find f≠0 then (s,s.find f) else if s.f'.off=true then (s.f',8) else ({s.f' with R:=nr PF.id s.R f},0)
structure DS.Ok(s:DS)(N:Nat):Prop where
 sorted:kf PF.id s.R
 ids:∀x∈s.R,0<=x.id/\x.id<16384
 safe:∀x∈s.R,x.safe<=x.b.length
 len:∀x∈s.R,x.b.length<=N
 sw:0<=s.arm
 sx:s.arm<=9223372036854775807
theorem EB{R:List PF}{f:Int}{g:PF->PF}{y:PF}(h:y∈nN R f g):y∈R\/∃x∈R,x.id=f/\y={g x with id:=f}:=by
 unfold nN at h
 split at h
 ·rename_i x e
  obtain⟨h1,h2⟩:=ug e
  rcases CN h with h|h
  ·exact .inr ⟨x,h1,h2,h⟩
  ·exact .inl h
 ·exact .inl h
theorem Gu{R:List PF}{f:Int}{N:Nat}(h:∀x∈R,x.b.length<=N):((ij PF.id R f).getD (nY f)).b.length<=N:=by
 cases e:ij PF.id R f with
 | none=>exact Nat.zero_le _
 | some x=>exact h x (ug e).1
theorem Xq{R:List PF}{f:Int}(h:∀x∈R,x.safe<=x.b.length):((ij PF.id R f).getD (nY f)).safe<=((ij PF.id R f).getD (nY f)).b.length:=by
 cases e:ij PF.id R f with
 | none=>exact Nat.zero_le _
 | some x=>exact h x (ug e).1
theorem DS.Ok.mono{s:DS}{N M:Nat}(h:s.Ok N)(hm:N<=M):s.Ok M:=⟨h.sorted,h.ids,h.safe,λx hx=>Nat.le_trans (h.len x hx) hm,h.sw,h.sx⟩
theorem DS.Ok.f'{s:DS}{N:Nat}(h:s.Ok N):s.f'.Ok N:=by
 have h0:=h.sw
 have h1:=h.sx
 refine⟨h.sorted,h.ids,h.safe,h.len,?_,?_⟩<;>simp only[DS.f']<;>split<;>omega
theorem DS.Ok.Jh{s:DS}{N:Nat}(h:s.Ok N){R:List PF}(h1:kf PF.id R)(h2:∀x∈R,0<=x.id/\x.id<16384)(h3:∀x∈R,x.safe<=x.b.length)(h4:∀x∈R,x.b.length<=N):({s with R:=R}:DS).Ok N:=
 ⟨h1,h2,h3,h4,h.sw,h.sx⟩
theorem vn{s:DS}{f:Int}(h:may s f=0):s.off=false/\0<=f/\f<16384:=by
 unfold may at h
 split at h
 ·cases h
 ·split at h
  ·cases h
  ·rename_i h1 h2
   refine⟨by simpa using h1,by omega,by omega⟩
theorem DS.Ok.append{s:DS}{N:Nat}(h:s.Ok N)(f:Int)(b:List UInt8):(s.append f b).1.Ok (N+b.length):=by
 unfold DS.append
 split
 ·exact h.mono (by omega)
 ·rename_i hm
  have hm:may s f=0:=by simpa using hm
  obtain⟨_,f0,f1⟩:=vn hm
  have hl:=Gu (f:=f) h.len
  have hs:=Xq (f:=f) h.safe
  refine (h.f'.mono (Nat.le_add_right N b.length)).Jh (Iu h.sorted _) ?_ ?_ ?_
  ·intro x hx
   rcases CN hx with rfl|hx
   ·exact⟨f0,f1⟩
   ·exact h.ids x hx
  ·intro x hx
   rcases CN hx with rfl|hx
   ·simp only[List.length_append];omega
   ·exact h.safe x hx
  ·intro x hx
   rcases CN hx with rfl|hx
   ·simp only[List.length_append];omega
   ·have:=h.len x hx;omega
theorem bWn{R:List PF}(h:kf PF.id R)(f:Int)(g:PF->PF):kf PF.id (nN R f g):=by
 unfold nN
 split
 ·exact Iu h _
 ·exact h
theorem DS.Ok.uH{s:DS}{N:Nat}(h:s.Ok N)(f:Int)(g:PF->PF)(h1:∀x,x.safe<=x.b.length->(g x).safe<=(g x).b.length)(h2:∀x,(g x).b.length<=x.b.length):({s.f' with R:=nN s.R f g}:DS).Ok N:=by
 refine h.f'.Jh (bWn h.sorted f g) ?_ ?_ ?_
 ·intro x hx
  rcases EB hx with hx|⟨y,hy,rfl,rfl⟩
  ·exact h.ids x hx
  ·exact h.ids y hy
 ·intro x hx
  rcases EB hx with hx|⟨y,hy,rfl,rfl⟩
  ·exact h.safe x hx
  ·exact h1 y (h.safe y hy)
 ·intro x hx
  rcases EB hx with hx|⟨y,hy,rfl,rfl⟩
  ·exact h.len x hx
  ·exact Nat.le_trans (h2 y) (h.len y hy)
theorem DS.Ok.sync{s:DS}{N:Nat}(h:s.Ok N)(f:Int):(s.sync f).1.Ok N:=by
 unfold DS.sync
 split
 ·exact h
 ·split
  ·exact h.f'
  ·exact h.uH f _ (λx _=>Nat.le_refl _) (λx=>Nat.le_refl _)
theorem DS.Ok.cut{s:DS}{N:Nat}(h:s.Ok N)(f n:Int):(s.cut f n).1.Ok N:=by
 unfold DS.cut
 split
 ·exact h
 ·split
  ·exact h
  ·split
   ·exact h.f'
   ·exact h.uH f _ (λx hx=>by simp only[pJ,List.length_take];omega) (λx=>by simp only[pJ,List.length_take];omega)
theorem DS.Ok.remove{s:DS}{N:Nat}(h:s.Ok N)(f:Int):(s.remove f).1.Ok N:=by
 unfold DS.remove
 split
 ·exact h
 ·split
  ·exact h.f'
  ·exact h.f'.Jh (Oy h.sorted _) (λx hx=>h.ids x (EA hx)) (λx hx=>h.safe x (EA hx)) (λx hx=>h.len x (EA hx))
def mg:DS:=⟨[],false,0,0⟩
theorem IJ(N:Nat):mg.Ok N:=⟨.nil,by simp[mg],by simp[mg],by simp[mg],by simp[mg],by simp[mg]⟩
open Go.RowKit
def xX(a b:Int):Int:=IntKind.u32.wrap ((BitVec.ofInt IntKind.u32.bits a ^^^ BitVec.ofInt IntKind.u32.bits b).toNat)
def NK(a b:Int):Int:=IntKind.u32.wrap ((BitVec.ofInt IntKind.u32.bits a &&& BitVec.ofInt IntKind.u32.bits b).toNat)
def Ag(a:Int):Int:=IntKind.u32.wrap ((BitVec.ofInt IntKind.u32.bits IntKind.u32.max ^^^ BitVec.ofInt IntKind.u32.bits a).toNat)
def wS(c:Int):Int:=if NK c 1=1 then xX (c.fdiv (2 ^ 1)) 3988292384 else c.fdiv (2 ^ 1)
def vL:Nat->Int->Int
 | 0,c=>c
 | n+1,c=>wS (vL n c)
def CZ(c:Int)(b:UInt8):Int:=vL 8 (xX c (b.toNat:Int))
def l_(s:Int)(b:List UInt8):Int:=Ag (b.foldl CZ (Ag s))
def jQ(n:Int):UInt8:=UInt8.ofNat (n % 256).toNat
theorem aR9(n:Int):cR (jQ n)= .int .u8 (IntKind.u8.wrap n):=by
 unfold cR jQ
 congr 1
 rw[UInt8.toNat_ofNat']
 simp only[IntKind.wrap,IntKind.bits,IntKind.signed]
 have h1:=Int.emod_nonneg n (show (256:Int)≠0 by omega)
 have h2:=Int.emod_lt_of_pos n (show (0:Int)<256 by omega)
 simp
 omega
def four(x:Int):List UInt8:=[jQ (x.fdiv (2 ^ 24)),jQ (x.fdiv (2 ^ 16)),jQ (x.fdiv (2 ^ 8)),jQ x]
theorem tj(x:Int):(four x).length=4:=rfl
def sumOf(p:List UInt8):Int:=l_ (l_ 0 (four p.length)) p
def gR(p:List UInt8):List UInt8:=four p.length++four (sumOf p)++p
theorem oF(p:List UInt8):(gR p).length=8+p.length:=by simp[gR,tj];omega
def kW(b:List UInt8):Nat:=((b.getD 0 0).toNat*16777216+(b.getD 1 0).toNat*65536)+(b.getD 2 0).toNat*256+(b.getD 3 0).toNat
def kR(b:List UInt8):Except Int (List UInt8 × Nat):=
 if b.length<8 then .error 2
 else if 1048576<kW b then .error 3
 else if b.length<8+kW b then .error 2
 else if four (sumOf ((b.drop 8).take (kW b)))≠(b.drop 4).take 4 then .error 4
 else .ok ((b.drop 8).take (kW b),8+kW b)
def sR:Nat->List UInt8->List (List UInt8) × Nat
 | 0,_=>([],0)
 | f+1,b=>match kR b with
  | .ok (p,n)=>(p::(sR f (b.drop n)).1,n+(sR f (b.drop n)).2)
  | .error _=>([],0)
theorem S1(b:List UInt8):kW b<4294967296:=by
 unfold kW
 have h:∀i,(b.getD i 0).toNat<256:=λi=>UInt8.toNat_lt _
 have:=h 0;have:=h 1;have:=h 2;have:=h 3
 omega
theorem wj(n:Nat):(jQ (n:Int)).toNat=n % 256:=by
 unfold jQ
 rw[UInt8.toNat_ofNat']
 omega
theorem tf(n k:Nat)(hk:0<k):(n:Int).fdiv (k:Int)=((n / k:Nat):Int):=by
 rw[Int.fdiv_eq_ediv_of_nonneg _ (by omega)];exact (Int.natCast_ediv n k).symm
theorem a7e(n:Nat)(r:List UInt8)(h:n<4294967296):kW (four n++r)=n:=by
 unfold kW four
 have e1:((n:Int).fdiv (2 ^ 24))=((n / 16777216:Nat):Int):=tf n 16777216 (by decide)
 have e2:((n:Int).fdiv (2 ^ 16))=((n / 65536:Nat):Int):=tf n 65536 (by decide)
 have e3:((n:Int).fdiv (2 ^ 8))=((n / 256:Nat):Int):=tf n 256 (by decide)
 rw[e1,e2,e3]
 simp only[List.cons_append,List.nil_append,List.getD_cons_zero,List.getD_cons_succ,wj]
 omega
theorem a7f{b:List UInt8}{k:Nat}(h:4<=k):kW (b.take k)=kW b:=by
 unfold kW
 have e:∀i,i<4->(b.take k).getD i 0=b.getD i 0:=λi hi=>by
  rw[List.getD_eq_getElem?_getD,List.getD_eq_getElem?_getD,List.getElem?_take,if_pos (by omega)]
 rw[e 0 (by omega),e 1 (by omega),e 2 (by omega),e 3 (by omega)]
theorem bFc{p r:List UInt8}(h:p.length<=1048576):kW (gR p++r)=p.length:=by
 unfold gR
 rw[List.append_assoc,List.append_assoc]
 exact a7e p.length _ (by omega)
theorem Uk{p r:List UInt8}(h:p.length<=1048576):kR (gR p++r)= .ok (p,8+p.length):=by
 have hn:=bFc (r:=r) h
 have hl:(gR p++r).length=8+p.length+r.length:=by rw[List.length_append,oF]
 have hd8:((gR p++r).drop 8).take p.length=p:=by
  unfold gR
  rw[show (8:Nat)=(four p.length++four (sumOf p)).length by simp[tj],List.append_assoc (four (p.length:Int)++four (sumOf p)) p r,List.drop_left]
  exact List.take_left
 have Z_:((gR p++r).drop 4).take 4=four (sumOf p):=by
  unfold gR
  rw[List.append_assoc,List.append_assoc,show (4:Nat)=(four (p.length:Int)).length by simp[tj],List.drop_left,show (four (p.length:Int)).length=(four (sumOf p)).length from rfl]
  exact List.take_left
 unfold kR
 rw[hn,if_neg (by omega),if_neg (by omega),if_neg (by omega),hd8,Z_,if_neg (by simp)]
theorem Uj:kR []= .error 2:=rfl
theorem ET{f:Nat}{b p:List UInt8}{n:Nat}(h:kR b= .ok (p,n)):sR (f+1) b=(p::(sR f (b.drop n)).1,n+(sR f (b.drop n)).2):=by simp only[sR,h]
theorem ES{f:Nat}{b:List UInt8}{e:Int}(h:kR b= .error e):sR (f+1) b=([],0):=by simp only[sR,h]
def mC(ps:List (List UInt8)):List UInt8:=(ps.map gR).flatten
theorem EJ(p:List UInt8)(ps:List (List UInt8)):mC (p::ps)=gR p++mC ps:=by simp[mC]
theorem Ty(ps:List (List UInt8))(p:List UInt8):mC (ps++[p])=mC ps++gR p:=by simp[mC]
theorem TW:∀(ps:List (List UInt8)) (r:List UInt8) (f:Nat),(∀p∈ps,p.length<=1048576)->(∃e,kR r= .error e)->ps.length<f->sR f (mC ps++r)=(ps,(mC ps).length)
 | [],r,f+1,_,⟨e,he⟩,_=>by
  rw[show mC []++r=r from rfl,ES he];rfl
 | p::ps,r,f+1,hp,he,hf=>by
  have D4:=hp p (.head _)
  have ih:=TW ps r f (λq hq=>hp q (.tail _ hq)) he (Nat.lt_of_succ_lt_succ hf)
  rw[EJ,List.append_assoc,ET (Uk D4),<- oF,List.drop_left,ih,List.length_append]
theorem xU{b p:List UInt8}{n:Nat}(h:kR b= .ok (p,n)):8<=n/\n<=b.length/\p.length<=1048576/\n=8+p.length/\p=(b.drop 8).take p.length:=by
 unfold kR at h
 split at h
 ·cases h
 ·split at h
  ·cases h
  ·split at h
   ·cases h
   ·split at h
    ·cases h
    ·rename_i h1 h2 h3 h4
     have h:=Except.ok.inj h
     generalize kW b=k at *
     cases h
     have:((b.drop 8).take k).length=k:=by rw[List.length_take,List.length_drop];omega
     exact⟨by omega,by omega,by omega,by omega,by rw[this]⟩
theorem E5{b:List UInt8}{e:Int}(h:kR b= .error e):e=2\/e=3\/e=4:=by
 unfold kR at h
 split at h
 ·cases h;simp
 ·split at h
  ·cases h;simp
  ·split at h
   ·cases h;simp
   ·split at h
    ·cases h;simp
    ·cases h
theorem TV:∀(f g:Nat) (b:List UInt8),b.length<f->b.length<g->sR f b=sR g b
 | f+1,g+1,b,hf,hg=>by
  cases h:kR b with
  | error e=>rw[ES h,ES h]
  | ok x=>
   obtain⟨p,n⟩:=x
   have:=xU h
   rw[ET h,ET h,TV f g (b.drop n) (by rw[List.length_drop];omega) (by rw[List.length_drop];omega)]
def lA(b:List UInt8):List (List UInt8) × Nat:=sR (b.length+1) b
theorem ER{b p:List UInt8}{n:Nat}(h:kR b= .ok (p,n)):lA b=(p::(lA (b.drop n)).1,n+(lA (b.drop n)).2):=by
 have:=xU h
 unfold lA
 rw[ET h,TV b.length ((b.drop n).length+1) (b.drop n) (by rw[List.length_drop];omega) (by omega)]
theorem CW{b:List UInt8}{e:Int}(h:kR b= .error e):lA b=([],0):=ES h
theorem bRa(f:Nat):∀b:List UInt8,b.length<f->(lA b).2<=b.length:=by
 induction f with
 | zero=>intro b h;omega
 | succ f ih=>
  intro b hb
  cases h:kR b with
  | error e=>rw[CW h];exact Nat.zero_le _
  | ok x=>
   obtain⟨p,n⟩:=x
   have h2:=xU h
   have:=ih (b.drop n) (by rw[List.length_drop];omega)
   rw[ER h]
   rw[List.length_drop]at this
   show n+_<=_
   omega
theorem Tx:∀ps:List (List UInt8),ps.length*8<=(mC ps).length
 | []=>by simp
 | p::ps=>by
  have:=Tx ps
  rw[EJ,List.length_append,oF,List.length_cons]
  omega
theorem bRb(ps:List (List UInt8))(r:List UInt8)(hp:∀p∈ps,p.length<=1048576)(he:∃e,kR r= .error e):lA (mC ps++r)=(ps,(mC ps).length):=by
 refine TW ps r _ hp he ?_
 have:=Tx ps
 rw[List.length_append];omega
structure gW where
 kind:Int
 n:Int
 s:ByteArray
def iD(x:gW):List Value:=[.int .i64 x.kind,.int .i64 x.n,.string x.s]
def ud:gW:=⟨0,0,⟨#[]⟩⟩
def iu(x:Int):Nat->List UInt8
 | 0=>[]
 | n+1=>jQ (x.fdiv (2 ^ (8*n)))::iu x n
theorem mf(x:Int):∀n,(iu x n).length=n
 | 0=>rfl
 | n+1=>by simp[iu,mf x n]
def mV(x:gW):Bool:=if x.kind=1 then decide (x.s=⟨#[]⟩) else if x.kind=2 then decide (x.n=0) && decide (x.s.size<=4096) else false
def rE(n:Int):Int:=n % 18446744073709551616
def iZ(x:gW):List UInt8:=if x.kind=1 then jQ x.kind::iu (rE x.n) 8 else jQ x.kind::(iu x.s.size 2++x.s.data.toList)
def oS(l:List gW):Except Int (List UInt8):=if 32767<l.length then .error 1 else if l.all mV then .ok (iu l.length 2++(l.map iZ).flatten) else .error 1
structure lR where
 b:List UInt8
 e:Int
def kJ(n:Nat)(r:lR):List UInt8 × lR:=if r.e≠0 then ([],r) else if r.b.length<n then ([],{r with e:=2}) else (r.b.take n,{r with b:=r.b.drop n})
def jM(b:List UInt8):Nat:=b.foldl (λx c=>(x*256+c.toNat) % 18446744073709551616) 0
def j3(n:Nat)(r:lR):Nat × lR:=(jM (kJ n r).1,(kJ n r).2)
def kn(m:Nat)(r:lR):Nat × lR:=if m<(j3 2 r).1 then (0,{(j3 2 r).2 with e:=3}) else j3 2 r
def sig(n:Nat):Int:=if n<9223372036854775808 then n else (n:Int)-18446744073709551616
def kN(r:lR):gW × lR:=
 if (j3 1 r).1=1 then (⟨1,sig (j3 8 (j3 1 r).2).1,⟨#[]⟩⟩,(j3 8 (j3 1 r).2).2)
 else if (j3 1 r).1=2 then (⟨2,0,⟨(kJ (kn 4096 (j3 1 r).2).1 (kn 4096 (j3 1 r).2).2).1.toArray⟩⟩,(kJ (kn 4096 (j3 1 r).2).1 (kn 4096 (j3 1 r).2).2).2)
 else (ud,if (j3 1 r).2.e=0 then {(j3 1 r).2 with e:=3} else (j3 1 r).2)
def kO:Nat->lR->List gW × lR
 | 0,r=>([],r)
 | i+1,r=>if r.e=0 then ((kN r).1::(kO i (kN r).2).1,(kO i (kN r).2).2) else ([],r)
def lu(b:List UInt8):Except Int (List gW):=
 let m:=kn 32767 ⟨b,0⟩
 let x:=kO m.1 m.2
 let e:=if x.2.e=0 then if 0<x.2.b.length then 3 else 0 else x.2.e
 if e=0 then .ok x.1 else .error e
def jN(n:Nat):List UInt8:=[0,1,1]++iu n 8
theorem u7(n:Nat):(jN n).length=11:=by simp[jN,mf]
theorem VE(x:Nat)(b:List UInt8)(c:UInt8)(h:jM b=x):jM (b++[c])=(x*256+c.toNat) % 18446744073709551616:=by
 unfold jM at *
 rw[List.foldl_append,h];rfl
theorem S4{n:Nat}(h:n<1152921504606846976):jM (iu n 8)=n:=by
 have f:∀k,((n:Int).fdiv (2 ^ (8*k)))=((n / 2 ^ (8*k):Nat):Int):=λk=>by
  have:=tf n (2 ^ (8*k)) (Nat.two_pow_pos _)
  rw[<- this];push_cast;rfl
 unfold iu iu iu iu iu iu iu iu iu
 simp only[f,jM,List.foldl_cons,List.foldl_nil,wj,show (2:Nat) ^ (8*7)=72057594037927936 from rfl,show (2:Nat) ^ (8*6)=281474976710656 from rfl,show (2:Nat) ^ (8*5)=1099511627776 from rfl,
  show (2:Nat) ^ (8*4)=4294967296 from rfl,show (2:Nat) ^ (8*3)=16777216 from rfl,show (2:Nat) ^ (8*2)=65536 from rfl,show (2:Nat) ^ (8*1)=256 from rfl,show (2:Nat) ^ (8*0)=1 from rfl]
 omega
theorem aW8{x y:List UInt8}{n:Nat}(h:x.length=n):kJ n ⟨x++y,0⟩=(x,⟨y,0⟩):=by
 subst h
 unfold kJ
 rw[if_neg (by simp),if_neg (by simp)]
 simp
theorem Ih{x y:List UInt8}{n:Nat}(h:x.length=n):j3 n ⟨x++y,0⟩=(jM x,⟨y,0⟩):=by
 unfold j3;rw[aW8 h]
theorem Wo{n:Nat}(h:n<1152921504606846976):lu (jN n)= .ok [⟨1,n,⟨#[]⟩⟩]:=by
 have h8:=S4 h
 have hl:=mf (n:Int) 8
 unfold jN
 generalize iu (n:Int) 8=y at *
 have e1:kn 32767 ⟨[0,1,1]++y,0⟩=(1,⟨[1]++y,0⟩):=by
  have:j3 2 ⟨[0,1]++([1]++y),0⟩=(1,⟨[1]++y,0⟩):=Ih rfl
  unfold kn
  rw[show ([0,1,1]++y:List UInt8)=[0,1]++([1]++y) from rfl,this,if_neg (by show ¬32767<1;omega)]
 have e3:j3 1 ⟨[1]++y,0⟩=(1,⟨y,0⟩):=Ih rfl
 have e4:j3 8 ⟨y,0⟩=(n,⟨[],0⟩):=by
  have:=Ih (x:=y) (y:=[]) hl
  rw[List.append_nil,h8]at this;exact this
 have e2:kN ⟨[1]++y,0⟩=(⟨1,n,⟨#[]⟩⟩,⟨[],0⟩):=by
  unfold kN
  rw[e3,if_pos rfl,e4,sig,if_pos (by omega)]
 have e5:kO 1 ⟨[1]++y,0⟩=([⟨1,n,⟨#[]⟩⟩],⟨[],0⟩):=by
  show (if (0:Int)=0 then _ else _)=_
  rw[if_pos rfl,e2];rfl
 unfold lu
 simp only[e1,e5]
 rfl
def AB(l:List gW):Option Int:=match l with
 | [f]=>if f.kind=1/\1<=f.n/\f.n<=1099511627776 then some f.n else none
 | _=>none
def pr(b:List UInt8):Option Int:=match lu b with
 | .ok l=>AB l
 | .error _=>none
theorem aic{n:Nat}(h1:1<=n)(h:n<=1099511627776):pr (jN n)=some (n:Int):=by
 unfold pr
 rw[Wo (by omega)]
 show (if (1:Int)=1/\1<=(n:Int)/\(n:Int)<=1099511627776 then some (n:Int) else none)=_
 rw[if_pos ⟨rfl,by omega,by omega⟩]
def jK(q:List UInt8):Option (Int × List (List UInt8) × Nat):=match (lA q).1 with
 | []=>none
 | h::l=>(pr h).map λn=>(n,l,(lA q).2)
theorem S2(x:Int):iu x 4=four x:=by
 have e:x.fdiv (2 ^ (8*0))=x:=by
  show x.fdiv 1=x
  rw[Int.fdiv_eq_ediv_of_nonneg _ (by decide),Int.ediv_one]
 unfold iu iu iu iu iu four
 rw[e]
theorem Eu(c:UInt8)(n:Nat)(h:n % 256=c.toNat):jQ (n:Int)=c:=by
 have:=wj n
 rw[h]at this
 exact UInt8.toNat_inj.1 this
theorem FH(a b c d:UInt8):jM [a,b,c,d]=((a.toNat*16777216+b.toNat*65536)+c.toNat*256)+d.toNat:=by
 have:=a.toNat_lt;have:=b.toNat_lt;have:=c.toNat_lt;have:=d.toNat_lt
 simp only[jM,List.foldl_cons,List.foldl_nil]
 omega
theorem Sm{l:List UInt8}(h:l.length=4):∃a b c d,l=[a,b,c,d]:=by
 match l,h with
 | [a,b,c,d],_=>exact⟨a,b,c,d,rfl⟩
theorem Pd{l:List UInt8}(h:l.length=4):four (jM l:Nat)=l:=by
 obtain⟨a,b,c,d,rfl⟩:=Sm h
 rw[FH]
 have:=a.toNat_lt;have:=b.toNat_lt;have:=c.toNat_lt;have:=d.toNat_lt
 generalize hn:((a.toNat*16777216+b.toNat*65536)+c.toNat*256)+d.toNat=n
 unfold four
 have e1:((n:Int).fdiv (2 ^ 24))=((n / 16777216:Nat):Int):=tf n 16777216 (by decide)
 have e2:((n:Int).fdiv (2 ^ 16))=((n / 65536:Nat):Int):=tf n 65536 (by decide)
 have e3:((n:Int).fdiv (2 ^ 8))=((n / 256:Nat):Int):=tf n 256 (by decide)
 rw[e1,e2,e3,Eu a _ (by omega),Eu b _ (by omega),Eu c _ (by omega),Eu d _ (by omega)]
theorem VF{n:Nat}(h:n<4294967296):jM (four n)=n:=by
 have e1:((n:Int).fdiv (2 ^ 24))=((n / 16777216:Nat):Int):=tf n 16777216 (by decide)
 have e2:((n:Int).fdiv (2 ^ 16))=((n / 65536:Nat):Int):=tf n 65536 (by decide)
 have e3:((n:Int).fdiv (2 ^ 8))=((n / 256:Nat):Int):=tf n 256 (by decide)
 unfold four
 rw[e1,e2,e3,FH,wj,wj,wj,wj]
 omega
theorem NX{q:List UInt8}(h:4<=q.length):jM (q.take 4)=kW q:=by
 obtain⟨a,b,c,d,e⟩:=Sm (l:=q.take 4) (by rw[List.length_take];omega)
 have h2:kW q=kW (q.take 4):=(a7f (Nat.le_refl 4)).symm
 rw[h2,e,FH]
 rfl
theorem b90(n:Int):0<=IntKind.u32.wrap n/\IntKind.u32.wrap n<4294967296:=by
 simp only[IntKind.wrap,IntKind.bits,IntKind.signed]
 simp
 omega
theorem Ia(s:Int)(b:List UInt8):0<=l_ s b/\l_ s b<4294967296:=b90 _
theorem bRz{q p:List UInt8}(h:8<=q.length)(hp:p.length=kW q):decide (¬l_ (l_ 0 (q.take 4)) p=((jM ((q.drop 4).take 4):Nat):Int))=decide (four (sumOf p)≠(q.drop 4).take 4):=by
 have h1:(q.take 4).length=4:=by rw[List.length_take];omega
 have h2:((q.drop 4).take 4).length=4:=by rw[List.length_take,List.length_drop];omega
 have e1:q.take 4=four (p.length:Nat):=by rw[hp,<- NX (by omega),Pd h1]
 have e2:l_ (l_ 0 (q.take 4)) p=sumOf p:=by rw[e1];rfl
 have hr:=Ia (l_ 0 (four (p.length:Nat))) p
 have hs:sumOf p=l_ (l_ 0 (four (p.length:Nat))) p:=rfl
 rw[<- hs]at hr
 rw[e2]
 congr 1
 refine propext (not_congr ⟨λh=>?_,λh=>?_⟩)
 ·rw[h,Pd h2]
 ·rw[<- h]
  obtain⟨n,hn⟩:∃n:Nat,sumOf p=(n:Int):=⟨(sumOf p).toNat,by omega⟩
  rw[hn,VF (by omega)]
def oR(l:List gW)(i:Nat)(r:lR):Except Int (List gW):=
 if (kO i r).2.e=0 then (if 0<(kO i r).2.b.length then .error 3 else .ok (l++(kO i r).1)) else .error (kO i r).2.e
theorem Xc:∀(i:Nat) (r:lR),r.e≠0->kO i r=([],r)
 | 0,r,_=>rfl
 | i+1,r,h=>by rw[kO,if_neg h]
theorem Ah{l:List gW}{i:Nat}{r:lR}(h:r.e≠0):oR l i r= .error r.e:=by
 unfold oR
 rw[Xc i r h,if_neg h]
theorem Oo(l:List gW)(b:List UInt8):oR l 0 ⟨b,0⟩=if 0<b.length then .error 3 else .ok l:=by
 unfold oR kO
 rw[if_pos rfl,List.append_nil]
theorem Ds(l:List gW)(i:Nat)(b:List UInt8):oR l (i+1) ⟨b,0⟩=oR (l++[(kN ⟨b,0⟩).1]) i (kN ⟨b,0⟩).2:=by
 unfold oR
 have e:kO (i+1) ⟨b,0⟩=((kN ⟨b,0⟩).1::(kO i (kN ⟨b,0⟩).2).1,(kO i (kN ⟨b,0⟩).2).2):=by rw[kO,if_pos rfl]
 rw[e]
 simp only[List.append_assoc,List.cons_append,List.nil_append]
theorem SX{b:List UInt8}{n:Nat}(h:n<=b.length):kJ n ⟨b,0⟩=(b.take n,⟨b.drop n,0⟩):=by
 unfold kJ
 rw[if_neg (by simp),if_neg (by show ¬b.length<n;omega)]
theorem SY{b:List UInt8}{n:Nat}(h:b.length<n):kJ n ⟨b,0⟩=([],⟨b,2⟩):=by
 unfold kJ
 rw[if_neg (by simp),if_pos (by show b.length<n;omega)]
theorem A1{b:List UInt8}{n:Nat}(h:n<=b.length):j3 n ⟨b,0⟩=(jM (b.take n),⟨b.drop n,0⟩):=by unfold j3;rw[SX h]
theorem EG{b:List UInt8}{n:Nat}(h:b.length<n):j3 n ⟨b,0⟩=(0,⟨b,2⟩):=by unfold j3;rw[SY h];rfl
theorem Wp{b:List UInt8}(h:b.length<2):lu b= .error 2:=by
 have e:kn 32767 ⟨b,0⟩=(0,⟨b,2⟩):=by unfold kn;rw[EG h,if_neg (by simp)]
 unfold lu
 simp only[e]
 rfl
theorem Wn{b:List UInt8}(h:2<=b.length)(hn:32767<jM (b.take 2)):lu b= .error 3:=by
 have e:kn 32767 ⟨b,0⟩=(0,⟨b.drop 2,3⟩):=by unfold kn;rw[A1 h,if_pos hn]
 unfold lu
 simp only[e]
 rfl
theorem Oi{b:List UInt8}(h:2<=b.length)(hn:jM (b.take 2)<=32767):lu b=oR [] (jM (b.take 2)) ⟨b.drop 2,0⟩:=by
 have e:kn 32767 ⟨b,0⟩=(jM (b.take 2),⟨b.drop 2,0⟩):=by unfold kn;rw[A1 h,if_neg (by show ¬32767<jM (b.take 2);omega)]
 unfold lu oR
 simp only[e,List.nil_append]
 by_cases h1:(kO (jM (b.take 2)) ⟨b.drop 2,0⟩).2.e=0
 ·rw[if_pos h1,if_pos h1]
  by_cases h2:0<(kO (jM (b.take 2)) ⟨b.drop 2,0⟩).2.b.length
  ·rw[if_pos h2,if_pos h2,if_neg (by decide)]
  ·rw[if_neg h2,if_neg h2,if_pos rfl]
 ·rw[if_neg h1,if_neg h1,if_neg h1]
theorem Ws(l:List gW)(i:Nat):oR l (i+1) ⟨[],0⟩= .error 2:=by
 have e:kN ⟨[],0⟩=(ud,⟨[],2⟩):=by
  unfold kN
  rw[EG (n:=1) (b:=[]) (by decide)]
  rfl
 rw[Ds,e,Ah (by decide)]
theorem Ig(k:UInt8)(b:List UInt8):j3 1 ⟨k::b,0⟩=(k.toNat,⟨b,0⟩):=by
 rw[A1 (by simp)]
 have:=k.toNat_lt
 simp only[List.take_succ_cons,List.take_zero,List.drop_succ_cons,List.drop_zero,jM,List.foldl_cons,List.foldl_nil]
 rw[show (0*256+k.toNat) % 18446744073709551616=k.toNat by omega]
theorem Om{l:List gW}{i:Nat}{k:UInt8}{b:List UInt8}(hk:k.toNat=1):oR l (i+1) ⟨k::b,0⟩=if b.length<8 then .error 2 else oR (l++[⟨1,sig (jM (b.take 8)),⟨#[]⟩⟩]) i ⟨b.drop 8,0⟩:=by
 rw[Ds]
 unfold kN
 rw[Ig,if_pos hk]
 by_cases h:b.length<8
 ·simp only[EG h]
  rw[if_pos h,Ah (by simp)]
 ·simp only[A1 (Nat.not_lt.1 h)]
  rw[if_neg h]
theorem On{l:List gW}{i:Nat}{k:UInt8}{b:List UInt8}(hk:k.toNat=2):oR l (i+1) ⟨k::b,0⟩=if b.length<2 then .error 2 else if 4096<jM (b.take 2) then .error 3 else if b.length-2<jM (b.take 2) then .error 2 else
  oR (l++[⟨2,0,⟨((b.drop 2).take (jM (b.take 2))).toArray⟩⟩]) i ⟨(b.drop 2).drop (jM (b.take 2)),0⟩:=by
 rw[Ds]
 unfold kN
 rw[Ig,if_neg (by omega),if_pos hk]
 by_cases h:b.length<2
 ·have e:kn 4096 ⟨b,0⟩=(0,⟨b,2⟩):=by unfold kn;rw[EG h,if_neg (by simp)]
  have e2:kJ 0 ⟨b,2⟩=([],⟨b,2⟩):=by unfold kJ;rw[if_pos (by simp)]
  simp only[e,e2]
  rw[if_pos h,Ah (by simp)]
 ·rw[if_neg h]
  by_cases h2:4096<jM (b.take 2)
  ·have e:kn 4096 ⟨b,0⟩=(0,⟨b.drop 2,3⟩):=by unfold kn;rw[A1 (Nat.not_lt.1 h),if_pos h2]
   have e2:kJ 0 ⟨b.drop 2,3⟩=([],⟨b.drop 2,3⟩):=by unfold kJ;rw[if_pos (by simp)]
   simp only[e,e2]
   rw[if_pos h2,Ah (by simp)]
  ·have e:kn 4096 ⟨b,0⟩=(jM (b.take 2),⟨b.drop 2,0⟩):=by unfold kn;rw[A1 (Nat.not_lt.1 h),if_neg h2]
   simp only[e]
   rw[if_neg h2]
   by_cases h3:b.length-2<jM (b.take 2)
   ·rw[SY (by rw[List.length_drop];exact h3),if_pos h3,Ah (by simp)]
   ·rw[SX (by rw[List.length_drop];omega),if_neg h3]
theorem Wq{l:List gW}{i:Nat}{k:UInt8}{b:List UInt8}(h1:k.toNat≠1)(h2:k.toNat≠2):oR l (i+1) ⟨k::b,0⟩= .error 3:=by
 rw[Ds]
 unfold kN
 rw[Ig,if_neg h1,if_neg h2]
 simp only[if_true]
 rw[Ah (by simp)]
set_option maxRecDepth 100000
abbrev SP := Spec Tryz.prog
def md(v:Int)(n:Nat):Nat:=((IntKind.u64.wrap v) % (n:Int)).toNat
theorem nh(v:Int)(n:Nat)(hn:0<n):md v n<n:=by
 unfold md
 have h1:=Int.emod_nonneg (IntKind.u64.wrap v) (show (n:Int)≠0 by omega)
 have h2:=Int.emod_lt_of_pos (IntKind.u64.wrap v) (show (0:Int)<n by omega)
 omega
theorem Zm(v:Int)(n:Nat)(h1:0<n)(h2:n<=9223372036854775807):SP 16 [.int .i64 v,.int .i64 (n:Int)] [] (dW (.int .i64 (md v n:Int)) []):=by
 intro W F w hS;apply b4e;unfold Km;(try simp only[app]at hS)
 have hn:IntKind.u64.wrap (n:Int)=n:=by rw[IntKind.wrap_u64];omega
 have hv:0<=IntKind.u64.wrap v:=by rw[IntKind.wrap_u64];omega
 refine zL (zL ?_)
 rw[hn]
 refine QG (by omega) ?_
 have e:(IntKind.u64.wrap v).tmod (n:Int)=(md v n:Int):=by
  rw[Int.tmod_eq_emod_of_nonneg hv];unfold md
  have:=Int.emod_nonneg (IntKind.u64.wrap v) (show (n:Int)≠0 by omega)
  omega
 rw[e]
 have:=nh v n h1
 refine yn (by omega) ?_
 (exact eF hS)
theorem yh(v:Int)(n:Nat)(h1:0<n)(h2:n<=9223372036854775807):SP 33 [.int .i64 v,.int .i64 (n:Int)] [] (dW (.int .i64 (md v n:Int)) []):=by
 intro W F w hS;apply b7z;unfold Ms;(try simp only[app]at hS)
 have hn:IntKind.u64.wrap (n:Int)=n:=by rw[IntKind.wrap_u64];omega
 have hv:0<=IntKind.u64.wrap v:=by rw[IntKind.wrap_u64];omega
 refine zL (zL ?_)
 rw[hn]
 refine QG (by omega) ?_
 have e:(IntKind.u64.wrap v).tmod (n:Int)=(md v n:Int):=by
  rw[Int.tmod_eq_emod_of_nonneg hv];unfold md
  have:=Int.emod_nonneg (IntKind.u64.wrap v) (show (n:Int)≠0 by omega)
  omega
 rw[e]
 have:=nh v n h1
 refine yn (by omega) ?_
 (exact eF hS)
structure Rq where
 id:Int
 table:Int
 weight:Int
 at_:Int
 h_:Int
 chunks:Int
 done:Bool
deriving DecidableEq
def kT(r:Rq):List Value:=[.int .i64 r.id,.int .i64 r.table,.int .i64 r.weight,.int .i64 r.at_,.int .i64 r.h_,.int .i64 r.chunks,.bool r.done]
theorem lU(r:Rq):(kT r).length=7:=rfl
theorem Ak(r:Rq):∀v∈kT r,v.oneCell'=true:=by simp[kT,Value.oneCell']
abbrev nR(H:bw)(v:Value)(L:List Rq):Prop:=gi H 7 v L.length (L.map kT).flatten
def N1(late t:Int):Int:=IntKind.i64.wrap ((BitVec.ofInt IntKind.i64.bits (late.fdiv (2 ^ (min t.toNat IntKind.i64.bits))) &&& BitVec.ofInt IntKind.i64.bits 1).toNat)
theorem bFy{k:IntKind}{a b:Int}{K:Value->Prop}(hb:0<=b)(h:K (.int .i64 (N1 a b))):zc .shr (.int .i64 a) (.int k b) λv=>zc .and v (.int .i64 1) K:=by
 refine⟨.int .i64 (a.fdiv (2 ^ (min b.toNat IntKind.i64.bits))),?_,⟨_,?_,h⟩⟩
 ·simp only[mr];rw[if_neg (by omega)]
 ·simp only[mr,if_true];rfl
structure uJ where
 kind:Int
 id:Int
 table:Int
 weight:Int
 at_:Int
 h_:Int
 done:Bool
deriving DecidableEq
structure sX where
 aI:Int
 ops:List pd
 notes:List uJ
def wZ(n:uJ):List Value:=[.int .i64 n.kind,.int .i64 n.id,.int .i64 n.table,.int .i64 n.weight,.int .i64 n.at_,.int .i64 n.h_,.bool n.done]
theorem OM(n:uJ):(wZ n).length=7:=rfl
def emp:ByteArray:=⟨#[]⟩
def iF(n:Int):gW:=⟨1,n,emp⟩
def tF(s:ByteArray):gW:=⟨2,0,s⟩
def rO(b:Bool):Int:=if b=true then 1 else 0
structure cF where
 l:List gW
 bad:Bool
def oB(k:Int)(r:cF):gW × cF:=match r.bad,r.l with
 | false,f::l=>if f.kind=k then (f,⟨l,false⟩) else (ud,⟨f::l,true⟩)
 | _,l=>(ud,⟨l,true⟩)
def j7(r:cF):Int × cF:=((oB 1 r).1.n,(oB 1 r).2)
def iV(r:cF):ByteArray × cF:=((oB 2 r).1.s,(oB 2 r).2)
def iA(m:Int)(r:cF):Int × cF:=if (j7 r).1<0\/m<(j7 r).1 then (0,{(j7 r).2 with bad:=true}) else j7 r
def p9(r:cF):Bool × cF:=(decide ((iA 1 r).1=1),(iA 1 r).2)
def iJ{α:Type}(one:cF->α × cF):Nat->cF->List α × cF
 | 0,r=>([],r)
 | i+1,r=>if r.bad=true then ([],r) else ((one r).1::(iJ one i (one r).2).1,(iJ one i (one r).2).2)
def uE(i:Nat)(r:Rq):Prop:=r.id=(i:Int)+1/\0<=r.table/\r.table<8/\1<=r.weight/\r.weight<=8/\1<=r.at_/\r.at_<=1099511627776/\0<=r.h_/\r.h_<=1099511627776/\0<=r.chunks/\r.chunks<=1099511627776
def vE(L:List Rq)(i:Nat):Prop:=∀h:i<L.length,uE i L[i]/\(∀h0:0<i,L[i-1].at_<=L[i].at_)/\∀k (hk:k<i),¬(L[k].table=L[i].table/\L[k].done=false)
def kx(L:List Rq):Prop:=L.length<=64/\∀i,vE L i
instance (i:Nat) (r:Rq):Decidable (uE i r):=by unfold uE;infer_instance
theorem kx.fin{L:List Rq}:kx L↔L.length<=64/\∀i:Fin L.length,uE i.1 L[i.1]/\(0<i.1->(L[i.1-1]'(by omega)).at_<=L[i.1].at_)/\∀k:Fin i.1,¬((L[k.1]'(by omega)).table=L[i.1].table/\(L[k.1]'(by omega)).done=false):=
 ⟨λh=>⟨h.1,λi=>⟨(h.2 i.1 i.2).1,(h.2 i.1 i.2).2.1,λk=>(h.2 i.1 i.2).2.2 k.1 k.2⟩⟩,
  λh=>⟨h.1,λi hi=>⟨(h.2 ⟨i,hi⟩).1,(h.2 ⟨i,hi⟩).2.1,λk hk=>(h.2 ⟨i,hi⟩).2.2 ⟨k,hk⟩⟩⟩⟩
instance (L:List Rq):Decidable (kx L):=decidable_of_iff _ kx.fin.symm
theorem bFs(L:List Rq):∀v∈(L.map kT).flatten,v.oneCell'=true:=pT Ak L
def CQ(L:List Rq)(t w a:Int):Rq:=⟨((L.length+1:Nat):Int),t,w,a,0,0,false⟩
def su(L:List Rq)(t w a:Int):Option (List Rq):=if kx L/\kx (L++[CQ L t w a]) then some (L++[CQ L t w a]) else none
def pI(L:List Rq)(id c:Int)(dn:Bool):Option (List Rq):=
 if kx L/\1<=id/\id<=L.length then match L[(id-1).toNat]? with
  | some r=>if r.done=true\/c<r.h_\/1099511627776<c\/1099511627776<=r.chunks then none else some (L.set (id-1).toNat {r with h_:=c,chunks:=r.chunks+1,done:=dn})
  | none=>none
 else none
theorem Oa{L:List Rq}(hM:kx L){j:Nat}(hj:j<L.length)(c:Int)(dn:Bool):pI L ((j+1:Nat):Int) c dn =
  if L[j].done=true\/c<L[j].h_\/1099511627776<c\/1099511627776<=L[j].chunks then none else some (L.set j {L[j] with h_:=c,chunks:=L[j].chunks+1,done:=dn}):=by
 unfold pI
 have e:(((j+1:Nat):Int)-1).toNat=j:=by omega
 rw[if_pos ⟨hM,by omega,by omega⟩,e,List.getElem?_eq_getElem hj]
theorem V7{L:List Rq}{id c:Int}{dn:Bool}(h:¬(kx L/\1<=id/\id<=L.length)):pI L id c dn=none:=if_neg h
theorem NB{L L':List Rq}{t w a:Int}(h:su L t w a=some L'):kx L':=by
 unfold su at h
 split at h
 ·rename_i hm;cases h;exact hm.2
 ·cases h
theorem V6{L L':List Rq}{id c:Int}{dn:Bool}(h:pI L id c dn=some L'):kx L':=by
 unfold pI at h
 split at h
 ·rename_i hm
  obtain⟨hM,h1,h2⟩:=hm
  split at h
  ·rename_i r hr
   split at h
   ·cases h
   ·rename_i hc
    cases h
    generalize (id-1).toNat=j at *
    obtain⟨hj,hr⟩:=List.getElem?_eq_some_iff.1 hr
    refine⟨by rw[List.length_set];exact hM.1,λi hi=>?_⟩
    rw[List.length_set]at hi
    have kG:∀k (hk:k<L.length),((L.set j {r with h_:=c,chunks:=r.chunks+1,done:=dn})[k]'(by rw[List.length_set];exact hk)).at_=L[k].at_/\((L.set j {r with h_:=c,chunks:=r.chunks+1,done:=dn})[k]'(by rw[List.length_set];exact hk)).table=L[k].table:=λk hk=>by
     rw[List.getElem_set];split
     ·rename_i e;subst e;rw[hr];exact⟨rfl,rfl⟩
     ·exact⟨rfl,rfl⟩
    obtain⟨k1,k2,k3⟩:=hM.2 i hi
    refine⟨?_,λh0=>?_,λk hk=>?_⟩
    ·rw[List.getElem_set];split
     ·rename_i e;subst e
      rw[hr]at k1
      unfold uE at k1 ⊢
      simp only
      omega
     ·exact k1
    ·rw[(kG (i-1) (by omega)).1,(kG i hi).1];exact k2 h0
    ·rw[(kG k (by omega)).2,(kG i hi).2]
     rintro ⟨e1,e2⟩
     rw[List.getElem_set]at e2
     split at e2
     ·rename_i e;subst e
      refine k3 j hk ⟨e1,?_⟩
      rw[hr]
      cases hd:r.done with
      | false=>rfl
      | true=>exact absurd (.inl hd) hc
     ·exact k3 k hk ⟨e1,e2⟩
  ·cases h
 ·cases h
def f_(v:Value)(t:TypeId)(sz n:Nat)(cells:List Value):zC:=mX λx:Option (Nat × List Value × Nat × List Value)=>match x with
 | none=>zQ ((∃a,v= .slice a 0 0)/\n=0/\cells=[]) []
 | some (b,pre,cap,rest)=>zQ (v= .slice (some ⟨b,pre.length,none⟩) n cap/\n<=cap/\cells.length=n*sz/\rest.length=(cap-n)*sz) [.pt b (pre++(cells++rest)) t]
section
variable {W w:World} {l:List Chunk} {v:Value} {t:TypeId} {sz n:Nat} {cells:List Value}
theorem f_.open(h:SL W (.ob (f_ v t sz n cells)::l) w):
  ((∃a,v= .slice a 0 0)/\n=0/\cells=[]/\SL W l w)\/∃b pre cap rest,v= .slice (some ⟨b,pre.length,none⟩) n cap/\n<=cap/\cells.length=n*sz/\rest.length=(cap-n)*sz/\SL W (.pt b (pre++(cells++rest)) t::l) w:=by
 unfold f_ at h
 obtain⟨x,h⟩:=SL.ex.1 h
 match x,h with
 | none,h=>
  obtain⟨⟨h1,h2,h3⟩,h⟩:=SL.fact.1 h
  exact .inl ⟨h1,h2,h3,h⟩
 | some (b,pre,cap,rest),h=>
  obtain⟨⟨h1,h2,h3,h4⟩,h⟩:=SL.fact.1 h
  exact .inr ⟨b,pre,cap,rest,h1,h2,h3,h4,h⟩
theorem f_.r9{a:Option Addr}(h:SL W l w):SL W (.ob (f_ (.slice a 0 0) t sz 0 [])::l) w:=by
 unfold f_
 exact SL.ex.2 ⟨none,SL.fact.2 ⟨⟨⟨_,rfl⟩,rfl,rfl⟩,h⟩⟩
theorem f_.mk{b cap o:Nat}{pre rest:List Value}(h1:n<=cap)(h2:cells.length=n*sz)(h3:rest.length=(cap-n)*sz)(ho:pre.length=o)(h:SL W (.pt b (pre++(cells++rest)) t::l) w):
  SL W (.ob (f_ (.slice (some ⟨b,o,none⟩) n cap) t sz n cells)::l) w:=by
 subst ho
 unfold f_
 exact SL.ex.2 ⟨some (b,pre,cap,rest),SL.fact.2 ⟨⟨rfl,h1,h2,h3⟩,h⟩⟩
theorem f_.of(h:SL W (.ob (a_ v t sz n cells)::l) w):SL W (.ob (f_ v t sz n cells)::l) w:=by
 rcases a_.open h with ⟨⟨a,rfl⟩,rfl,rfl,hS⟩|⟨b,cap,rest,rfl,hc,hl,hr,hS⟩
 ·exact f_.r9 hS
 ·exact f_.mk (pre:=[]) hc hl hr rfl (by simpa using hS)
theorem f_.at(h:SL W l w)(m:Has (.ob (f_ v t sz n cells)) l):∃a cap,v= .slice a n cap/\n<=cap/\cells.length=n*sz:=by
 obtain⟨l2,r⟩:=m.rem
 rcases f_.open (h.perm r.perm) with ⟨⟨a,rfl⟩,rfl,rfl,_⟩|⟨b,pre,cap,rest,rfl,hc,hl,_⟩
 ·exact⟨a,0,rfl,Nat.le_refl _,by simp⟩
 ·exact⟨_,cap,rfl,hc,hl⟩
theorem f_.one(h:SL W l w)(m:Has (.ob (f_ v t sz n cells)) l):v.oneCell'=true:=by
 obtain⟨a,cap,rfl,_⟩:=f_.at h m;rfl
theorem zW{K:Value->Prop}(h:SL W l w)(m:Has (.ob (f_ v t sz n cells)) l)(k:K (.int .i64 n)):zd v K:=by
 obtain⟨a,cap,rfl,_⟩:=f_.at h m
 exact yo k
theorem yC{j:Nat}{k:IntKind}{K:Value->Prop}(h:SL W l w)(m:Has (.ob (f_ v t sz n cells)) l)(hj:j<n)
  (hK:∀b o,(∀i u,i<sz->cells[j*sz+i]?=some u->w.cell? ⟨b,o+i,none⟩=some u)->K (.pointer (some ⟨b,o,none⟩))):ze sz v (.int k (j:Int)) K:=by
 obtain⟨l2,r⟩:=m.rem
 rcases f_.open (h.perm r.perm) with ⟨⟨a,rfl⟩,rfl,rfl,_⟩|⟨b,pre,cap,rest,rfl,hc,hl,hr,hS⟩
 ·omega
 ·refine zB hj (hK b (pre.length+j*sz) λi u hi hu=>hS.cell .hd ?_)
  rw[Nat.add_assoc,List.getElem?_append_right (by omega),Nat.add_sub_cancel_left,List.getElem?_append_left (List.getElem?_eq_some_iff.1 hu).1]
  exact hu
theorem Qp{k:Nat}{kk:IntKind}{K:Value->Prop}(hS:SL W (.ob (f_ v t sz n cells)::l) w)(hk:k<=n)(hK:∀u,SL W (.ob (f_ u t sz (n-k) (cells.drop (k*sz)))::l) w->K u):iL sz v (some (.int kk (k:Int))) none none K:=by
 rcases f_.open hS with ⟨⟨a,rfl⟩,rfl,rfl,kA⟩|⟨b,pre,cap,rest,rfl,hc,hl,hr,kA⟩
 ·obtain rfl:k=0:=by omega
  refine⟨a,0,0,0,0,0,rfl,rfl,rfl,⟨kk,rfl⟩,Nat.le_refl _,Nat.le_refl _,Nat.le_refl _,?_⟩
  rw[if_pos rfl]
  exact hK _ (by simpa using f_.r9 (t:=t) (sz:=sz) (a:=a) kA)
 ·refine⟨_,n,cap,k,n,cap,rfl,rfl,rfl,⟨kk,rfl⟩,hk,hc,Nat.le_refl _,hK _ ?_⟩
  by_cases e:cap=k
  ·obtain rfl:n=k:=by omega
   rw[if_pos e,Nat.sub_self,show cap-n=0 by omega,List.drop_eq_nil_of_le (by omega)]
   exact f_.r9 kA.drop
  ·rw[if_neg e]
   have ix:k*sz<=cells.length:=by rw[hl];exact Nat.mul_le_mul_right _ hk
   have e1:(some (⟨b,pre.length,none⟩:Addr)).map (·.add (k*sz))=some ⟨b,pre.length+k*sz,none⟩:=by simp[Addr.add_lit]
   rw[e1]
   refine f_.mk (pre:=pre++cells.take (k*sz)) (rest:=rest) (by omega) (by rw[List.length_drop,hl,Nat.mul_sub_right_distrib]) (by rw[hr];congr 1;omega) (by rw[List.length_append,List.length_take];omega) ?_
   rw[List.append_assoc,<- List.append_assoc (cells.take (k*sz)),List.take_append_drop]
   exact kA
theorem y8{x y:Value}{lD m:Nat}{z cs:List Value}{F:List Chunk}{K:Value->World->Prop}(hS:SL W l w)(hr:kL (.ob (f_ x t sz n cells)) l F)(ld:mN w sz y m cs)
  (hl:cs.length=m*sz) (hz:z.length=sz) (h1:∀v∈cs,v.oneCell'=true) (hb:(n+m)*lD<=140737488355328) (hn:n+m<=140737488355328)
  (h:∀v' w',SL W (.ob (f_ v' t sz (n+m) (cells++cs))::F) w'->K v' w'):zu sz lD z t x y w K:=by
 rcases f_.open (hS.perm hr.perm) with ⟨⟨a,rfl⟩,rfl,rfl,kA⟩|⟨b,pre,cap,rest,rfl,hc,hlen,nc,kA⟩
 ·refine⟨a,0,0,m,cs,rfl,ld,hb,hn,λh0=>?_,λh0=>⟨[],(by cases a with|none=>exact⟨rfl,rfl⟩|some p=>exact⟨rfl,by simp,λj v e=>by simp at e⟩),λc kj nu=>?_⟩⟩
  ·have hm:m=0:=by omega
   subst hm
   have:cs=[]:=List.eq_nil_of_length_eq_zero (by simpa using hl)
   subst this
   cases a with
   | none=>exact h _ _ (f_.r9 kA)
   | some p=>exact h _ _ (f_.r9 kA)
  ·refine h _ _ ?_
   have:=f_.mk (sz:=sz) (n:=0+m) (cells:=cs) (pre:=[]) (rest:=b_ z (c-(0+m))) (cap:=c) kj (by simpa using hl) (by rw[nO,hz]) rfl (SL.new (cs:=[]++(cs++b_ z (c-(0+m)))) (t:=t) (kA.drew))
   simpa using this
 ·refine⟨some ⟨b,pre.length,none⟩,n,cap,m,cs,rfl,ld,hb,hn,λh0=>?_,λh0=>?_⟩
  ·have rX:cs.length<=rest.length:=by
    rw[hl,nc];exact Nat.mul_le_mul_right _ (by omega)
   show uF (Addr.add ⟨b,pre.length,none⟩ (n*sz)) 0 cs w _
   rw[Addr.add_lit]
   refine Bd (t:=t) cs (pre.length+n*sz) 0 (pre++(cells++rest)) w (.pt b (pre++(cells++rest)) t::F) _ kA .hd (by simp[hlen];omega) h1 (λw' rV=>h _ _ ?_)
   have e:sd (pre++(cells++rest)) (pre.length+n*sz+0) cs=pre++((cells++cs)++rest.drop cs.length):=by
    rw[show pre.length+n*sz+0=(pre++cells).length by rw[List.length_append];omega,<- List.append_assoc,Tg rX]
    simp
   rw[e]at rV
   exact f_.mk (n:=n+m) (cells:=cells++cs) (rest:=rest.drop cs.length) h0 (by simp[hlen,hl,Nat.add_mul]) (by
    rw[List.length_drop,nc,hl,<- Nat.mul_sub_right_distrib];congr 1;omega) rfl rV
  ·refine⟨cells,⟨rfl,hlen,λj v e=>?_⟩,λc kj nu=>h _ _ ?_⟩
   ·rw[Addr.add_lit]
    refine kA.cell .hd ?_
    rw[List.getElem?_append_right (by omega),Nat.add_sub_cancel_left,List.getElem?_append_left (List.getElem?_eq_some_iff.1 e).1];exact e
   ·have:=f_.mk (sz:=sz) (n:=n+m) (cells:=cells++cs) (pre:=[]) (rest:=b_ z (c-(n+m))) (cap:=c) kj (by simp[hlen,hl,Nat.add_mul]) (by rw[nO,hz]) rfl (SL.new (cs:=[]++((cells++cs)++b_ z (c-(n+m)))) (t:=t) (kA.drop.drew))
    simpa using this
theorem f_.block(hS:SL W (.ob (f_ v t sz n cells)::l) w)(hn:0<n):∃b pre cap rest,v= .slice (some ⟨b,pre.length,none⟩) n cap/\n<=cap/\cells.length=n*sz/\rest.length=(cap-n)*sz/\SL W (.pt b (pre++(cells++rest)) t::l) w:=by
 rcases f_.open hS with ⟨_,h0,_⟩|h
 ·omega
 ·exact h
end
set_option maxRecDepth 100000
open Go.RowKit Go.Maps Go.Sort Go.Shelf
theorem bRo(m:Nat):AnyZI.SortsIn Tryz.prog T6 Fence.wide m:=
 ⟨λuP off cap ss W hH X6 nU=>callsIn_wide.2 (AnyM.slices_Sort_int T5 uP off cap ss W hH X6 nU),
  λp cap W=>callsIn_wide.2 (AnyM.slices_Sort_int_none T5 p cap W)⟩
section
variable {W w:World} {l:List Chunk} {b:Nat} {α:Type} {val:α->Value} {m:List (Int × α)}
theorem bIi(hS:SL W l w)(hm:Has (.ob (jU (Value.int .i64) val b m)) l)(hlen:m.length*8<=140737488355328)(xH:∀p∈m,(Lit.int .i64 p.1).wf=true){K:Value->World->Prop}
  (h:∀v w',SL W (.ob (a_ v 3 1 m.length ((wz m).map (Value.int .i64)))::l) w'->K v w') :
  aw 155 [.map (some b)] w λv1 w1=>aw 154 [v1] w1 K:=
 aRp aRn bRm bRo (enters_of Tryz.func234 (by kernel_rfl) rfl) (enters_of Tryz.func235 (by kernel_rfl) rfl) Tryz.underlying3 hS hm hlen xH h
end
set_option maxRecDepth 100000
open Go.RowKit
section
variable {W w:World} {l:List Chunk}
theorem zh.perm{α:Type}{A:α->zC}{xs ys:List α}(h:SL W (.ob (zh A xs)::l) w)(p:xs.Perm ys):SL W (.ob (zh A ys)::l) w:=
 zh.iff.2 ((zh.iff.1 h).perm ((p.map _).append_right l))
theorem SL.nZ{v:Value}{t:TypeId}{sz n:Nat}{cells:List Value}(h:SL W l w)(m:Has (.ob (a_ v t sz n cells)) l):v.oneCell'=true:=by
 obtain⟨a,cap,rfl,_⟩:=a_.at h m;rfl
theorem TL{t:TypeId}{a:Option Addr}{n c:Nat}{K:Value->Prop}(h:K (.bool a.isNone)):HEq (.slice t) false (.slice a n c) (.slice none 0 0) K:=⟨a.isNone,by cases a<;>rfl,h⟩
end
theorem BR{α β:Type}{key:α->Int}{kb:β->Int}{f:β->α}(hf:∀b,key (f b)=kb b)(L:List β)(k:Int):ij key (L.map f) k=(ij kb L k).map f:=by
 unfold ij
 rw[AU hf,wV hf]
 split
 ·rw[List.getElem?_map]
 ·rfl
theorem vQ{α:Type}{key:α->Int}{L:List α}{k:Int}{x:α}(h:ij key L k=some x):L[iI key L k]?=some x/\iI key L k<L.length/\key x=k:=by
 unfold ij at h
 split at h
 ·rename_i hi
  obtain⟨hl,e⟩:=sJ hi
  refine⟨h,hl,?_⟩
  rw[List.getElem?_eq_getElem hl]at h
  cases h;exact e
 ·cases h
theorem BQ{α:Type}{key:α->Int}{L:List α}{k:Int}:(ij key L k).isSome=j8 key L k:=by
 cases h:j8 key L k with
 | true=>
  obtain⟨hl,_⟩:=sJ h
  unfold ij;rw[if_pos h,List.getElem?_eq_getElem hl];rfl
 | false=>unfold ij;rw[if_neg (by rw[h];decide)];rfl
def kX(b:Nat):Value:=.pointer (some ⟨b,0,none⟩)
abbrev EF:=PF × Nat
def kB(x:EF):Int:=x.1.id
theorem Eg(x:EF):PF.id (Prod.fst x)=kB x:=rfl
abbrev Jm(x:EF)(v:Value):List Chunk:=[.pt x.2 [v,.int .i64 x.1.safe] 142,.ob (a_ v 5 1 x.1.b.length (x.1.b.map cR))]
def j4(x:EF):zC:=mX λv:Value=>zQ True (Jm x v)
theorem j4.iff{W w:World}{x:EF}{l:List Chunk}:SL W (.ob (j4 x)::l) w↔∃v,SL W (.pt x.2 [v,.int .i64 x.1.safe] 142::.ob (a_ v 5 1 x.1.b.length (x.1.b.map cR))::l) w:=by
 unfold j4 Jm
 simp only[SL.ex,SL.fact,List.cons_append,List.nil_append,true_and]
abbrev l5(mb:Nat)(s:DS):List Value:=[.map (some mb),.bool s.off,.int .i64 s.arm,.int .i64 s.ops]
abbrev Jl(dp:Nat)(s:DS)(mb:Nat)(m:List (Int × Nat)):List Chunk:=[.pt dp (l5 mb s) 129,.ob (jU (Value.int .i64) kX mb m)]
structure nP(m:List (Int × Nat))(L:List EF)(R:List PF):Prop where
 rel:np kB Prod.snd m L
 eq:L.map Prod.fst=R
def cw(dp:Nat)(s:DS):zC:=mX λx:Nat × List (Int × Nat) × List EF=>zQ (nP x.2.1 x.2.2 s.R) [.pt dp (l5 x.1 s) 129,.ob (jU (Value.int .i64) kX x.1 x.2.1),.ob (zh j4 x.2.2)]
theorem cw.iff{W w:World}{dp:Nat}{s:DS}{l:List Chunk}:SL W (.ob (cw dp s)::l) w↔∃mb m L,nP m L s.R/\SL W (.pt dp (l5 mb s) 129::.ob (jU (Value.int .i64) kX mb m)::.ob (zh j4 L)::l) w:=by
 unfold cw
 simp only[SL.ex,SL.fact,List.cons_append,List.nil_append]
 exact⟨λ⟨x,h1,h2⟩=>⟨x.1,x.2.1,x.2.2,h1,h2⟩,λ⟨mb,m,L,h1,h2⟩=>⟨(mb,m,L),h1,h2⟩⟩
theorem nP.get{m:List (Int × Nat)}{L:List EF}{R:List PF}(h:nP m L R)(f:Int):kV m f=(ij kB L f).map Prod.snd:=h.rel.get f
theorem nP.jC{m:List (Int × Nat)}{L:List EF}{R:List PF}(h:nP m L R)(f:Int):ij PF.id R f=(ij kB L f).map Prod.fst:=by
 rw[<- h.eq];exact BR Eg L f
theorem nP.len{m:List (Int × Nat)}{L:List EF}{R:List PF}(h:nP m L R):L.length=R.length:=by rw[<- h.eq,List.length_map]
theorem nP.set{m:List (Int × Nat)}{L:List EF}{R:List PF}(h:nP m L R){f:Int}{x:EF}(hx:ij kB L f=some x){y:PF}(hy:y.id=f):nP m (L.set (iI kB L f) (y,x.2)) (lY PF.id R y):=by
 obtain⟨h1,h2,h3⟩:=vQ hx
 obtain⟨h4,h5⟩:=List.getElem?_eq_some_iff.1 h1
 refine⟨h.rel.uH h2 (by rw[h5,h3];exact hy) (by rw[h5]),?_⟩
 have hi:j8 PF.id R y.id=true:=by
  rw[<- BQ,hy,h.jC,hx];rfl
 rw[EI hi,hy,<- h.eq,wV Eg,List.map_set]
theorem nP.new{m:List (Int × Nat)}{L:List EF}{R:List PF}(h:nP m L R){f:Int}(hx:ij kB L f=none){y:PF}(hy:y.id=f)(p:Nat):nP (ma m f p) (lY kB L (y,p)) (lY PF.id R y):=by
 have hi:j8 kB L (kB (y,p))=false:=by
  rw[<- BQ,show kB (y,p)=f from hy,hx];rfl
 have:=h.rel.add (x:=(y,p)) hi
 refine⟨by rw[<- hy];exact this,?_⟩
 rw[<- h.eq]
 exact a_m Eg L (y,p)
theorem nP.del{m:List (Int × Nat)}{L:List EF}{R:List PF}(h:nP m L R)(f:Int):nP (sK m f) (nr kB L f) (nr PF.id R f):=by
 refine⟨h.rel.del f,?_⟩
 rw[<- h.eq]
 exact Ox Eg L f
theorem Q8:SP 11 [] [] (λv post=>∃dp:Nat,v= .pointer (some ⟨dp,0,none⟩)/\post=[.ob (cw dp mg)]):=by
 intro W F w hS;apply b3b;delta JM ai;(try simp only[app]at hS)
 refine yx rfl ?_
 refine⟨_,rfl,zJ (cs:=[.map (some w.heap.size),.bool false,.int .i64 0,.int .i64 0]) (SL.SB (key:=Value.int .i64) (val:=kX) hS) ?_⟩
 intro dp w' kA
 refine⟨_,⟨dp,rfl,rfl⟩,cw.iff.2 ⟨w.heap.size,[],[],⟨np.nil,rfl⟩,?_⟩⟩
 have rV:SL W (.pt dp (l5 w.heap.size mg) 129::.ob (jU (Value.int .i64) kX w.heap.size [])::F) w':=kA
 have h2:=zh.nil (A:=j4) rV
 exact SL.b4 h2 Xi
theorem Yk(dp mb:Nat)(s:DS)(f:Int):SP 96 [.pointer (some ⟨dp,0,none⟩),.int .i64 f] [.pt dp (l5 mb s) 129] (dW (.int .i64 (may s f)) [.pt dp (l5 mb s) 129]):=by
 intro W F w hS;apply b9p;delta Nt aF bF ai;(try simp only[app]at hS)
 refine Gp ?_
 unfold may
 refine y3 (λh=>?_) (λh=>?_)
 ·rw[if_pos h];(exact eF hS)
 ·rw[if_neg (by rw[h];decide)]
  refine bW (λh2=>?_) (λh2=>?_)
  ·rw[if_pos (.inl h2)];(exact eF hS)
  ·refine bW (λh3=>?_) (λh3=>?_)
   ·rw[if_pos (.inr h3)];(exact eF hS)
   ·rw[if_neg (by omega)];(exact eF hS)
def BN(s:DS)(m:List (Int × Nat))(f:Int):Value:=if may s f≠0 then .tuple #[.pointer none,.int .i64 (may s f)] else match kV m f with
 | none=>.tuple #[.pointer none,.int .i64 5]
 | some p=>.tuple #[kX p,.int .i64 0]
theorem Ze(dp mb:Nat)(s:DS)(m:List (Int × Nat))(f:Int):SP 232 [.pointer (some ⟨dp,0,none⟩),.int .i64 f] (Jl dp s mb m) (dW (BN s m f) (Jl dp s mb m)):=by
 intro W F w hS;apply b52;delta Lk aF bF ai eI;(try simp only[app]at hS)
 refine Cg (Yk dp mb s f) λw hS=>?_
 unfold BN
 refine za (λh=>?_) (λh=>?_)
 ·rw[if_pos h];(exact eF hS)
 ·rw[if_neg h]
  refine Gp ?_
  refine Zs hS Xh (wi .i64) Tryz.underlying127 Tryz.underlying3 (λ_=>rfl) ?_
  cases hm:kV m f with
  | none=>
   simp only[Option.map_none,Option.getD_none]
   refine Z2 (zw ?_)
   (exact eF hS)
  | some p=>
   simp only[Option.map_some,Option.getD_some]
   unfold kX
   refine Z2 (zq ?_)
   (exact eF hS)
theorem yt(dp mb:Nat)(s:DS)(h0:s.off=false)(h1:0<=s.arm)(h2:s.arm<=9223372036854775807)(h3:s.ops<=100000):SP 97 [.pointer (some ⟨dp,0,none⟩)] [.pt dp (l5 mb s) 129]
  (dW (.int .i64 s.f'.err) [.pt dp (l5 mb s.f') 129]):=by
 intro W F w hS;apply b9q;delta Nu aF bF fI ai;(try simp only[app]at hS)
 refine Gn λw hS=>?_
 refine za (λh=>?_) (λh=>?_)
 ·refine Gn λw hS=>?_
  have e:decide (s.arm-1=0)=decide (s.arm=1):=by congr 1;exact propext ⟨λ_=>by omega,λ_=>by omega⟩
  rw[e]
  rw[e]at hS
  have hS:SL W (.pt dp (l5 mb s.f') 129::F) w:=by
   simp only[l5,DS.f',if_pos h]
   exact hS
  unfold DS.err
  refine za (λh4=>?_) (λh4=>?_)
  ·rw[if_pos (by simp[DS.f',h4])];(exact eF hS)
  ·rw[if_neg (by simp[DS.f',h4])];(exact eF hS)
 ·refine Gp ?_
  have ha:¬s.arm=1:=by omega
  have hS:SL W (.pt dp (l5 mb s.f') 129::F) w:=by
   simp only[l5,DS.f',if_neg h,ha,decide_false]
   rw[h0]at hS
   exact hS
  rw[h0]
  refine zq ?_
  have:s.f'.err=0:=by simp[DS.err,DS.f',ha]
  rw[this]
  (exact eF hS)
theorem Gl{α:Type}{enc:α->List Value}{n:Nat}(hn:∀x,(enc x).length=n):∀(xs:List α) (j k:Nat) (hj:j<xs.length) (x:α) (v:Value),k<n->(enc xs[j]).set k v=enc x->((xs.map enc).flatten).set (j*n+k) v=((xs.set j x).map enc).flatten
 | y::xs,0,k,_,x,v,hk,h=>by
  simp only[List.map_cons,List.flatten_cons,List.set_cons_zero,Nat.zero_mul,Nat.zero_add]
  rw[List.set_append_left _ _ (by rw[hn];exact hk)]
  rw[show (enc y).set k v=enc x from h]
 | y::xs,j+1,k,hj,x,v,hk,h=>by
  simp only[List.map_cons,List.flatten_cons,List.set_cons_succ]
  rw[List.set_append_right _ _ (by rw[hn,Nat.add_mul];omega),hn,show (j+1)*n+k-n=j*n+k by rw[Nat.add_mul];omega,Gl hn xs j k (by simpa using hj) x v hk (by simpa using h)]
def Bw(sz lD:Nat)(z:List Value)(t ts:TypeId)(v0:Value)(w:World)(R:Value->World->Prop):Prop:=
 HEq (.slice ts) false v0 (.slice Option.none 0 0) λv4=>
 ic v4
 (R (.slice Option.none 0 0) w)
 (zm (b_ z 0) [] t 0 w λv5 vz=>
 zu sz lD z t v5 v0 vz λv7 xV=>
 R v7 xV)
theorem FP{W w:World}{F:List Chunk}{sz lD n:Nat}{z cs:List Value}{t ts:TypeId}{v:Value}{K:Value->World->Prop}(hv:∃a c,v= .slice a n c)(ld:∀w' c,SL W (c::F) w'->mN w' sz v n cs)(hl:cs.length=n*sz)(hz:z.length=sz)(h0:0<sz)(h1:∀v∈cs,v.oneCell'=true)(hb:n*lD<=140737488355328)(hn:n<=140737488355328)
  (hS:SL W F w) (h:∀u w',SL W (.ob (a_ u t sz n cs)::F) w'->K u w'):Bw sz lD z t ts v w K:=by
 obtain⟨a,c,rfl⟩:=hv
 unfold Bw
 refine TL ?_
 cases a with
 | none=>
  refine zw ?_
  have hs:=ld _ _ (a_.nil (t:=t) (sz:=sz) hS)
  obtain rfl:cs=[]:=hs.2
  obtain rfl:n=0:=by
   rw[List.length_nil]at hl
   rcases Nat.mul_eq_zero.1 hl.symm with h|h
   ·exact h
   ·omega
  exact h _ _ (a_.nil hS)
 | some p=>
  refine zq ?_
  refine zz hS rfl ?_
  intro b w' kA
  have rV:SL W (.ob (a_ (.slice (some ⟨b,0,none⟩) 0 0) t sz 0 [])::F) w':=a_.full (by simp) (by simpa [b_] using kA)
  refine zx rV .hd (ld _ _ rV) hl hz h1 (by rw[Nat.zero_add];exact hb) (by omega) ?_
  intro u w2 vW
  rw[Nat.zero_add,List.nil_append]at vW
  exact h u w2 vW
section
variable {P:Program} {f:FuncId} {sz lD n:Nat} {z cs:List Value} {t ts:TypeId}
theorem Ob(vc:∀v0 w R,Bw sz lD z t ts v0 w R->zU P f [v0] w R)(hz:z.length=sz)(h0:0<sz){H:bw}{v:Value}(hv:gi H sz v n cs)(h1:∀v∈cs,v.oneCell'=true)(hb:n*lD<=140737488355328)(hn:n<=140737488355328):
  Spec P f [v] [.mem H] (λu post=>post=[.ob (a_ u t sz n cs),.mem H]):=by
 intro W F w hS
 have hS:SL W (.mem H::F) w:=hS
 exact vc _ _ _ (FP (let ⟨_,a,c,e,_⟩:=hv;⟨a,c,e⟩) (λw' c h=>si h (.tl .hd) hv) hv.1 hz h0 h1 hb hn hS λu w' hS=>⟨_,rfl,hS⟩)
theorem V'(vc:∀v0 w R,Bw sz lD z t ts v0 w R->zU P f [v0] w R)(hz:z.length=sz)(h0:0<sz){v:Value}(h1:∀v∈cs,v.oneCell'=true)(hl:cs.length=n*sz)(hb:n*lD<=140737488355328)(hn:n<=140737488355328):
  Spec P f [v] [.ob (a_ v t sz n cs)] (λu post=>post=[.ob (a_ u t sz n cs),.ob (a_ v t sz n cs)]):=by
 intro W F w hS
 have hS:SL W (.ob (a_ v t sz n cs)::F) w:=hS
 exact vc _ _ _ (FP (let ⟨a,c,e,_⟩:=a_.at hS .hd;⟨a,c,e⟩) (λw' c h=>pW h (.tl .hd)) hl hz h0 h1 hb hn hS λu w' hS=>⟨_,rfl,hS⟩)
end
section
variable {W w:World} {l F:List Chunk} {α:Type} {enc:α->List Value} {t:TypeId} {sz:Nat}
theorem zK{cs:List Value}{K:Value->World->Prop}(hS:SL W l w)(h:∀b w,SL W (.pt b cs t::l) w->K (.pointer (some ⟨b,0,none⟩)) w):∃rQ:List Value,Value.agg cs.toArray= .agg rQ.toArray/\zk rQ t w K:=⟨cs,rfl,zJ hS h⟩
theorem bIe{v:Value}{n j:Nat}{k:IntKind}{xs:List α}{x:α}{K:Value->Prop}(h:SL W l w)(m:Has (.ob (f_ v t sz n (xs.map enc).flatten)) l)(hn:∀x,(enc x).length=sz)(hx:xs[j]?=some x)(hj:j<n)(hK:K (agg (enc x))):
  ze sz v (.int k (j:Int)) λp=>zj sz p w K:=by
 refine yC h m hj λb o hb=>⟨⟨b,o,none⟩,enc x,rfl,hn x,λi u hu=>?_,hK⟩
 rw[Addr.add_lit]
 have hi:i<sz:=by rw[<- hn x];exact (List.getElem?_eq_some_iff.1 hu).1
 exact hb i u hi (rS hn xs j i x u hx hu)
theorem yy{x:Value}{lD n b:Nat}{z:List Value}{xs:List α}{y:α}{K:Value->World->Prop}(hS:SL W l w)(hr:kL (.ob (a_ x t sz n (xs.map enc).flatten)) l F)(hm:Has (.pt b (enc y) t) l)(hn:∀x,(enc x).length=sz)(h1:∀x,∀v∈enc x,v.oneCell'=true)(hz:z.length=sz)(hb:(n+1)*lD<=140737488355328)(hn':n+1<=140737488355328)
  (h:∀v' w',SL W (.ob (a_ v' t sz (n+1) ((xs++[y]).map enc).flatten)::F) w'->K v' w'):zu sz lD z t x (.slice (some ⟨b,0,none⟩) 1 1) w K:=
 zx hS hr (lP hS hm (by rw[hn,Nat.one_mul])) (by rw[hn,Nat.one_mul]) hz (h1 y) hb hn' λv' w' hS=>h v' w' (by rw[Gq];exact hS)
theorem SL.sS{v:Value}{cs:List Value}{xs:List α}{x:α}(hS:SL W (.ob (a_ v t sz (xs.length+1) cs)::l) w):SL W (.ob (a_ v t sz (xs++[x]).length cs)::l) w:=by
 rw[List.length_append,List.length_singleton];exact hS
theorem SL.CU{H:bw}{b n:Nat}{cs:List Value}(hS:SL W l w)(hp:ky [.mem H,.pt b cs t] l F)(hl:cs.length=n*sz):∃H',H.le H'/\gi H' sz (.slice (some ⟨b,0,none⟩) n n) n cs/\SL W (.mem H'::F) w:=by
 have hS:=hS.pick hp
 exact a_.freeze ((a_.full hl (hS.perm (.swap _ _ _))).perm (.swap _ _ _))
end
structure sV where
 aI:Int
 ov:Value
 nv:Value
def nF(x:sV):List Value:=[.int .i64 x.aI,x.ov,x.nv]
abbrev UU(H:bw)(v:Value)(l:List pd):Prop:=gi H 5 v l.length (l.map sy).flatten
abbrev UT(H:bw)(v:Value)(l:List uJ):Prop:=gi H 7 v l.length (l.map wZ).flatten
structure tQ(H:bw)(x:sV)(t:sX):Prop where
 aI:x.aI=t.aI
 ops:UU H x.ov t.ops
 Ie:UT H x.nv t.notes
theorem tQ.mono{H H':bw}(hh:H.le H'){x:sV}{t:sX}(h:tQ H x t):tQ H' x t:=⟨h.aI,h.ops.mono hh,h.Ie.mono hh⟩
theorem WO(n:uJ):∀v∈wZ n,v.oneCell'=true:=by simp[wZ,Value.oneCell']
theorem ON(o:pd):(sy o).length=5:=rfl
theorem wY{H:bw}{x:sV}{t:sX}(h:tQ H x t):∀v∈nF x,v.oneCell'=true:=by
 intro v hv
 simp only[nF,List.mem_cons,List.not_mem_nil,or_false]at hv
 rcases hv with rfl|rfl|rfl
 ·rfl
 ·exact h.ops.one
 ·exact h.Ie.one
theorem nk(b:List UInt8):∀v∈b.map cR,v.oneCell'=true:=λv hv=>by
 obtain⟨x,_,rfl⟩:=List.mem_map.1 hv;rfl
section
variable {W w:World} {l:List Chunk}
theorem Zr{F:List Chunk}{a:Option Addr}{k cap:Nat}{cs:List Value}{K:Value->World->Prop}(hS:SL W F w)(ld:∀w' c,SL W (c::F) w'->mN w' 1 (.slice a k cap) k cs)(hl:cs.length=k)(h1:∀v∈cs,v.oneCell'=true)(hb:k<=140737488355328)
  (h:∀u w',SL W (.ob (a_ u 5 1 k cs)::F) w'->(a.isSome=true->u≠.slice none 0 0\/k=0)->K u w'):aw 156 [.slice a k cap] w K:=by
 apply b4a;delta Ki bI
 refine TL ?_
 cases a with
 | none=>
  refine zw ?_
  have hs:=ld _ _ (a_.nil (t:=5) (sz:=1) hS)
  obtain rfl:cs=[]:=hs.2
  obtain rfl:k=0:=by simpa using hl.symm
  exact h _ _ (a_.nil hS) (λh=>by cases h)
 | some p=>
  refine zq ?_
  refine zz hS rfl ?_
  intro b w' kA
  have rV:SL W (.ob (a_ (.slice (some ⟨b,0,none⟩) 0 0) 5 1 0 [])::F) w':=a_.full rfl kA
  refine zx rV .hd (ld _ _ rV) (by rw[hl];omega) rfl h1 (by omega) (by omega) ?_
  intro u w2 vW
  rw[Nat.zero_add,List.nil_append]at vW
  refine h u w2 vW λ_=>?_
  rcases Nat.eq_zero_or_pos k with hk|hk
  ·exact .inr hk
  ·refine .inl λe=>?_
   subst e
   rcases a_.open vW with ⟨_,h2,_⟩|⟨b,cap,rest,h2,_⟩
   ·omega
   ·cases h2
theorem IS{v:Value}{t:TypeId}{sz n k:Nat}{kk:IntKind}{cells:List Value}{K:Value->Prop}(h:SL W l w)(m:Has (.ob (a_ v t sz n cells)) l)(hk:k<=n)
  (hK:∀a cap,(∀w' l',SL W l' w'->Has (.ob (a_ v t sz n cells)) l'->mN w' sz (.slice a k cap) k (cells.take (k*sz)))->K (.slice a k cap)):iL sz v none (some (.int kk (k:Int))) none K:=by
 obtain⟨a,cap,rfl,hl,hx⟩:=a_.at h m
 have vY:n<=cap:=by
  obtain⟨l2,r⟩:=m.rem
  rcases a_.open (h.perm r.perm) with ⟨⟨a',e⟩,rfl,rfl,_⟩|⟨b,uS,rest,e,hc,_⟩
  ·cases e;omega
  ·cases e;exact hc
 refine⟨a,n,cap,0,k,cap,rfl,rfl,⟨kk,rfl⟩,rfl,Nat.zero_le _,by omega,Nat.le_refl _,?_⟩
 rw[Nat.sub_zero,Nat.sub_zero]
 have e:(if cap=0 then a else a.map (·.add (0*sz)))=a:=by
  split
  ·rfl
  ·cases a<;>simp[Addr.add]
 rw[e]
 refine hK a cap λw' l' h' m'=>?_
 have hs:=pW h' m'
 cases a with
 | none=>
  obtain⟨e1,e2⟩:=hs
  subst e2
  have e1:n=n:=e1
  have hn:n*sz=0:=by simpa using hl.symm
  refine⟨rfl,by simp⟩
 | some p=>
  obtain⟨_,e2,e3⟩:=hs
  refine⟨rfl,by rw[List.length_take,e2];exact Nat.min_eq_left (Nat.mul_le_mul_right _ hk),λj v e=>?_⟩
  rw[List.getElem?_take]at e
  split at e
  ·exact e3 j v e
  ·cases e
end
theorem Vm(X:Chunk)(dp:Nat)(s:DS)(N:Nat)(b5:s.Ok N)(iO:s.ops<=100000)(f:Int)(bv:Value)(b:List UInt8)(hX:∀{W:World} {l:List Chunk} {w:World},SL W l w->Has X l->mN w 1 bv b.length (b.map cR))(hN:((ij PF.id s.R f).getD (nY f)).b.length+b.length<=140737488355328):
  SP 34 [.pointer (some ⟨dp,0,none⟩),.int .i64 f,bv] [.ob (cw dp s),X] (dW (.int .i64 (s.append f b).2) [.ob (cw dp (s.append f b).1),X]):=by
 intro W F w hS;apply b72;delta Mv aF bF fI ai eI bI;(try simp only[app]at hS)
 obtain⟨mb,m,L,hr,hS⟩:=cw.iff.1 hS
 refine Cg (Yk dp mb s f) λw hS=>?_
 unfold DS.append
 refine za (λh=>?_) (λh=>?_)
 ·rw[if_pos h]
  exact⟨_,⟨rfl,rfl⟩,cw.iff.2 ⟨mb,m,L,hr,aR hS⟩⟩
 ·rw[if_neg h]
  have hm:may s f=0:=by omega
  obtain⟨h0,tz,xh⟩:=vn hm
  refine Gp ?_
  refine Zs hS Xh (wi .i64) Tryz.underlying127 Tryz.underlying3 (λ_=>rfl) ?_
  rw[hr.get f]
  have cwf:=b5.len
  cases hg:ij kB L f with
  | none=>
   simp only[Option.map_none,Option.getD_none]
   refine Z2 (zw ?_)
   refine yx rfl ?_
   refine⟨_,rfl,zJ hS ?_⟩
   clear hS;intro p w hS
   refine Gp ?_
   refine bIp (key:=Value.int .i64) (val:=kX) (k:=f) (v:=p) hS Xu (wi .i64) Tryz.underlying127 Tryz.underlying3 ?_
   clear hS;intro _ w hS
   refine Gp ?_
   have hS:=a_.nil (t:=5) (sz:=1) hS
   refine zx (n:=0) (m:=b.length) hS .hd (hX hS Xh) (by simp) rfl (nk b) (by omega) (by omega) ?_
   clear hS;intro v w hS
   rw[Nat.zero_add,List.nil_append]at hS
   have lW:=hS.nZ .hd
   refine Gn λw hS=>?_
   refine Cg (yt dp mb s h0 b5.sw b5.sx iO) λw hS=>?_
   have hS:=(j4.iff (x:=((⟨f,0,b⟩:PF),p))).2 ⟨v,SL.b4 hS (t:=.pt p [v,.int .i64 0] 142::.ob (a_ v 5 1 b.length (b.map cR))::.ob (zh j4 L)::.pt dp (l5 mb s.f') 129::.ob (jU (Value.int .i64) kX mb (ma m f p))::X::F) Xi⟩
   have hS:=zh.snoc (SL.b4 hS (t:=.ob (zh j4 L)::.ob (j4 ((⟨f,0,b⟩:PF),p))::.pt dp (l5 mb s.f') 129::.ob (jU (Value.int .i64) kX mb (ma m f p))::X::F) Xi)
   have sH:=hr.new hg (y:=⟨f,0,b⟩) rfl p
   have hS:=zh.perm hS (ys:=lY kB L (⟨f,0,b⟩,p)) (by
    have hi:j8 kB L (kB ((⟨f,0,b⟩:PF),p))=false:=by rw[<- BQ,show kB ((⟨f,0,b⟩:PF),p)=f from rfl,hg];rfl
    exact List.perm_append_comm.trans (Tk hr.rel.2 hi).symm)
   have e:nE s.R f b=lY PF.id s.R ⟨f,0,b⟩:=by
    unfold nE;rw[hr.jC f,hg];rfl
   rw[e]
   exact⟨_,⟨rfl,rfl⟩,cw.iff.2 ⟨mb,_,_,sH,aR hS⟩⟩
  | some x=>
   obtain⟨g1,g2,g3⟩:=vQ hg
   have hS:=zh.take (SL.b4 hS (t:=.ob (zh j4 L)::.pt dp (l5 mb s) 129::.ob (jU (Value.int .i64) kX mb m)::X::F) Xi) g1
   obtain⟨v0,hS⟩:=j4.iff.1 hS
   simp only[Option.map_some,Option.getD_some]
   unfold kX
   refine Z2 (zq ?_)
   refine Gp ?_
   have RT:x.1.b.length+b.length<=140737488355328:=by rw[hr.jC f,hg]at hN;exact hN
   refine zx (n:=x.1.b.length) (m:=b.length) hS Xr (hX hS Xh) (by simp) rfl (nk b) (by omega) (by omega) ?_
   clear hS;intro v w hS
   have lW:=hS.nZ .hd
   refine Gn λw hS=>?_
   refine Cg (yt dp mb s h0 b5.sw b5.sx iO) λw hS=>?_
   have e1:x.1.b.map cR++b.map cR=(x.1.b++b).map cR:=by rw[List.map_append]
   have e2:x.1.b.length+b.length=(x.1.b++b).length:=by rw[List.length_append]
   rw[e1,e2]at hS
   have hS:=(j4.iff (x:=((⟨f,x.1.safe,x.1.b++b⟩:PF),x.2))).2 ⟨v,SL.b4 hS (t:=.pt x.2 [v,.int .i64 x.1.safe] 142::.ob (a_ v 5 1 (x.1.b++b).length ((x.1.b++b).map cR))::.ob (zh j4 (L.eraseIdx (iI kB L f)))::.pt dp (l5 mb s.f') 129::.ob (jU (Value.int .i64) kX mb m)::X::F) Xi⟩
   have hS:=zh.put hS g2
   have e:nE s.R f b=lY PF.id s.R ⟨f,x.1.safe,x.1.b++b⟩:=by
    unfold nE;rw[hr.jC f,hg];rfl
   rw[e]
   exact⟨_,⟨rfl,rfl⟩,cw.iff.2 ⟨mb,_,_,hr.set hg (y:=⟨f,x.1.safe,x.1.b++b⟩) rfl,aR hS⟩⟩
theorem Vl(X:Chunk)(dp:Nat)(s:DS)(N:Nat)(b5:s.Ok N)(iO:s.ops<=100000)(f:Int)(bv:Value)(b:List UInt8)(hX:∀{W:World} {l:List Chunk} {w:World},SL W l w->Has X l->mN w 1 bv b.length (b.map cR))(hN:N+b.length<=140737488355328):
  SP 34 [.pointer (some ⟨dp,0,none⟩),.int .i64 f,bv] [.ob (cw dp s),X] (dW (.int .i64 (s.append f b).2) [.ob (cw dp (s.append f b).1),X]):=
 Vm X dp s N b5 iO f bv b hX (by have:=Gu (f:=f) b5.len;omega)
theorem Gi{s:DS}{m:List (Int × Nat)}{L:List EF}(hr:nP m L s.R)(f:Int):
  (s.find f≠0/\BN s m f= .tuple #[.pointer none,.int .i64 (s.find f)])\/(s.find f=0/\may s f=0/\∃x,ij kB L f=some x/\BN s m f= .tuple #[kX x.2,.int .i64 0]):=by
 unfold DS.find BN
 by_cases h:may s f=0
 ·have h':¬may s f≠0:=λe=>e h
  rw[if_neg h',if_neg h',hr.get f]
  have hi:j8 PF.id s.R f=(ij kB L f).isSome:=by rw[<- BQ,hr.jC f,Option.isSome_map]
  rw[hi]
  cases hg:ij kB L f with
  | none=>exact .inl ⟨by simp,by simp⟩
  | some x=>exact .inr ⟨by simp,h,x,rfl,rfl⟩
 ·rw[if_pos h,if_pos h]
  exact .inl ⟨h,rfl⟩
theorem Ao{W w:World}{L:List EF}{f:Int}{x:EF}{l:List Chunk}(hg:ij kB L f=some x)(hS:SL W (.ob (zh j4 L)::l) w):SL W (.ob (j4 x)::.ob (zh j4 (L.eraseIdx (iI kB L f)))::l) w:=zh.take hS (vQ hg).1
theorem Gf{W w:World}{L:List EF}{f:Int}{x y:EF}{l:List Chunk}(hg:ij kB L f=some x)(hS:SL W (.ob (j4 y)::.ob (zh j4 (L.eraseIdx (iI kB L f)))::l) w):SL W (.ob (zh j4 (L.set (iI kB L f) y))::l) w:=zh.put hS (vQ hg).2.1
theorem Gg{W w:World}{L:List EF}{f:Int}{x:EF}{l:List Chunk}(hg:ij kB L f=some x)(hS:SL W (.ob (j4 x)::.ob (zh j4 (L.eraseIdx (iI kB L f)))::l) w):SL W (.ob (zh j4 L)::l) w:=by
 have h:=Gf hg hS
 have e:L.set (iI kB L f) x=L:=by
  obtain⟨h1,h2⟩:=List.getElem?_eq_some_iff.1 (vQ hg).1
  rw[<- h2];simp
 rwa [e]at h
theorem E6{R:List PF}{f:Int}{x:PF}(h:ij PF.id R f=some x)(g:PF->PF):nN R f g=lY PF.id R {g x with id:=f}:=by
 unfold nN;rw[h]
theorem Qu(dp:Nat)(s:DS)(N:Nat)(b5:s.Ok N)(iO:s.ops<=100000)(f:Int):
  SP 151 [.pointer (some ⟨dp,0,none⟩),.int .i64 f] [.ob (cw dp s)] (dW (.int .i64 (s.sync f).2) [.ob (cw dp (s.sync f).1)]):=by
 intro W F w hS;apply b37;delta Kf aF bF fI ai;(try simp only[app]at hS)
 obtain⟨mb,m,L,hr,hS⟩:=cw.iff.1 hS
 refine Cc (Ze dp mb s m f) ?_;clear hS
 rintro v post ⟨rfl,rfl⟩ w hS
 try simp only[app]at hS
 unfold DS.sync
 rcases Gi hr f with ⟨h1,e⟩|⟨h1,h2,x,hg,e⟩
 ·rw[e,if_pos h1]
  refine Gp ?_
  refine za (λh=>absurd h h1) (λ_=>?_)
  refine Gp ?_
  refine za (λh=>absurd h h1) (λ_=>?_)
  exact⟨_,⟨rfl,rfl⟩,cw.iff.2 ⟨mb,m,L,hr,aR hS⟩⟩
 ·obtain⟨h0,tz,xh⟩:=vn h2
  rw[e,if_neg (λh=>h h1)]
  unfold kX
  refine Gp ?_
  refine za (λ_=>?_) (λh=>absurd rfl h)
  refine Cg (yt dp mb s h0 b5.sw b5.sx iO) λw hS=>?_
  by_cases hc:s.f'.off=true
  ·have he:s.f'.err=8:=by unfold DS.err;rw[if_pos hc]
   rw[he,if_pos hc]
   refine za (λh=>by cases h) (λ_=>?_)
   exact⟨_,⟨rfl,rfl⟩,cw.iff.2 ⟨mb,m,L,hr,aR hS⟩⟩
  ·have he:s.f'.err=0:=by unfold DS.err;rw[if_neg hc]
   rw[he,if_neg hc]
   refine za (λ_=>?_) (λh=>absurd rfl h)
   have hS:=Ao hg (SL.b4 hS (t:=.ob (zh j4 L)::.pt dp (l5 mb s.f') 129::.ob (jU (Value.int .i64) kX mb m)::F) Xi)
   obtain⟨v0,hS⟩:=j4.iff.1 hS
   refine Gp ?_
   refine zt hS (t:=5) (sz:=1) (n:=x.1.b.length) (cells:=x.1.b.map cR) Xh ?_
   refine Gn λw hS=>?_
   have hS:=Gf hg ((j4.iff (x:=((⟨f,x.1.b.length,x.1.b⟩:PF),x.2))).2 ⟨v0,SL.b4 hS (t:=.pt x.2 [v0,.int .i64 (x.1.b.length:Int)] 142::.ob (a_ v0 5 1 x.1.b.length (x.1.b.map cR))::.ob (zh j4 (L.eraseIdx (iI kB L f)))::.pt dp (l5 mb s.f') 129::.ob (jU (Value.int .i64) kX mb m)::F) Xi⟩)
   have eR:=E6 (f:=f) (x:=x.1) (by rw[hr.jC f,hg];rfl) λx=>{x with safe:=x.b.length}
   rw[eR]
   exact⟨_,⟨rfl,rfl⟩,cw.iff.2 ⟨mb,_,_,hr.set hg (y:=⟨f,x.1.b.length,x.1.b⟩) rfl,aR hS⟩⟩
theorem QQ(x:EF)(n:Nat)(hn:n<=x.1.b.length)(hb:n<=140737488355328):SP 68 [kX x.2,.int .i64 (n:Int)] [.ob (j4 x)] (dW (.tuple #[]) [.ob (j4 (pJ n x.1,x.2))]):=by
 intro W F w hS;apply b82;delta M6 bF fI;(try simp only[app]at hS)
 obtain⟨v0,hS⟩:=j4.iff.1 hS
 unfold kX
 refine Gp ?_
 refine IS hS (t:=5) (sz:=1) (n:=x.1.b.length) (cells:=x.1.b.map cR) Xh hn ?_
 intro a cap ld
 refine Zr (cs:=(x.1.b.map cR).take (n*1)) hS (λw' c kA=>ld w' _ kA (.tl Xh)) (by simp;omega) (λv hv=>nk _ v (List.mem_of_mem_take hv)) (by omega) ?_
 clear hS;intro u w hS _
 have lW:=hS.nZ .hd
 refine Gn λw hS=>?_
 have e1:(x.1.b.map cR).take (n*1)=(pJ n x.1).b.map cR:=by rw[Nat.mul_one,<- List.map_take];rfl
 have e2:(pJ n x.1).b.length=n:=by simp only[pJ,List.length_take];omega
 have e3:min (x.1.safe:Int) (n:Int)=(((pJ n x.1).safe:Nat):Int):=by simp only[pJ];omega
 rw[e1,e3]at hS
 refine⟨_,⟨rfl,rfl⟩,j4.iff.2 ⟨u,?_⟩⟩
 rw[e2]
 exact aR hS
theorem aRu{s:DS}{m:List (Int × Nat)}{L:List EF}(hr:nP m L s.R){f:Int}{x:EF}(hg:ij kB L f=some x):pS s.R f=x.1.b.length:=by
 unfold pS;rw[hr.jC f,hg];rfl
theorem Yg(dp:Nat)(s:DS)(N:Nat)(b5:s.Ok N)(hN:N<=140737488355328)(iO:s.ops<=100000)(f n:Int):
  SP 150 [.pointer (some ⟨dp,0,none⟩),.int .i64 f,.int .i64 n] [.ob (cw dp s)] (dW (.int .i64 (s.cut f n).2) [.ob (cw dp (s.cut f n).1)]):=by
 intro W F w hS;apply b36;delta Ke aF bF ai;(try simp only[app]at hS)
 obtain⟨mb,m,L,hr,hS⟩:=cw.iff.1 hS
 refine Cc (Ze dp mb s m f) ?_;clear hS
 rintro v post ⟨rfl,rfl⟩ w hS
 try simp only[app]at hS
 unfold DS.cut
 rcases Gi hr f with ⟨h1,e⟩|⟨h1,h2,x,hg,e⟩
 ·rw[e,if_pos h1]
  refine Gp ?_
  refine⟨λus w=>us=[.int .i64 (s.find f)]/\SL W (.pt dp (l5 mb s) 129::.ob (jU (Value.int .i64) kX mb m)::.ob (zh j4 L)::F) w,?_,?_⟩
  ·refine Gp ?_
   refine za (λh=>absurd h h1) (λ_=>?_)
   exact⟨rfl,aR hS⟩
  ·clear hS
   rintro v8 w ⟨cW,hS⟩
   cases cW
   refine Gp ?_
   refine za (λh=>absurd h h1) (λ_=>?_)
   refine Gp ?_
   refine za (λh=>absurd h h1) (λ_=>?_)
   exact⟨_,⟨rfl,rfl⟩,cw.iff.2 ⟨mb,m,L,hr,aR hS⟩⟩
 ·obtain⟨h0,tz,xh⟩:=vn h2
  rw[e,if_neg (λh=>h h1)]
  unfold kX
  refine Gp ?_
  rw[aRu hr hg]
  have RT:x.1.b.length<=N:=b5.len _ (by rw[<- hr.eq];exact List.mem_map.2 ⟨x,List.mem_of_getElem? (vQ hg).1,rfl⟩)
  refine⟨λus w=>us=[.int .i64 (if n<0\/(x.1.b.length:Int)<n then 1 else 0)]/\SL W (.pt dp (l5 mb s) 129::.ob (jU (Value.int .i64) kX mb m)::.ob (zh j4 L)::F) w,?_,?_⟩
  ·refine Gp ?_
   refine za (λ_=>?_) (λh=>absurd rfl h)
   refine bW (λh=>?_) (λh=>?_)
   ·rw[if_pos (.inl h)]
    exact⟨rfl,aR hS⟩
   ·have hS:=Ao hg (SL.b4 hS (t:=.ob (zh j4 L)::.pt dp (l5 mb s) 129::.ob (jU (Value.int .i64) kX mb m)::F) Xi)
    obtain⟨v0,hS⟩:=j4.iff.1 hS
    refine Gp ?_
    refine zt hS (t:=5) (sz:=1) (n:=x.1.b.length) (cells:=x.1.b.map cR) Xh ?_
    refine Gp ?_
    have hS:=Gg hg (j4.iff.2 ⟨v0,hS⟩)
    refine za (λh3=>?_) (λh3=>?_)
    ·rw[if_pos (.inr h3)]
     exact⟨rfl,aR hS⟩
    ·rw[if_neg (by omega)]
     exact⟨rfl,aR hS⟩
  ·clear hS
   rintro v8 w ⟨cW,hS⟩
   cases cW
   refine Gp ?_
   by_cases hn:n<0\/(x.1.b.length:Int)<n
   ·rw[if_pos hn,if_pos hn]
    refine za (λh=>by cases h) (λ_=>?_)
    refine Gp ?_
    refine za (λh=>by cases h) (λ_=>?_)
    exact⟨_,⟨rfl,rfl⟩,cw.iff.2 ⟨mb,m,L,hr,aR hS⟩⟩
   ·rw[if_neg hn,if_neg hn]
    refine za (λ_=>?_) (λh=>absurd rfl h)
    refine Cg (yt dp mb s h0 b5.sw b5.sx iO) λw hS=>?_
    by_cases hc:s.f'.off=true
    ·have he:s.f'.err=8:=by unfold DS.err;rw[if_pos hc]
     rw[he,if_pos hc]
     refine za (λh=>by cases h) (λ_=>?_)
     exact⟨_,⟨rfl,rfl⟩,cw.iff.2 ⟨mb,m,L,hr,aR hS⟩⟩
    ·have he:s.f'.err=0:=by unfold DS.err;rw[if_neg hc]
     rw[he,if_neg hc]
     refine za (λ_=>?_) (λh=>absurd rfl h)
     have hS:=Ao hg (SL.b4 hS (t:=.ob (zh j4 L)::.pt dp (l5 mb s.f') 129::.ob (jU (Value.int .i64) kX mb m)::F) Xi)
     obtain⟨k,rfl⟩:∃k:Nat,n=(k:Int):=⟨n.toNat,by omega⟩
     have hC:=QQ x k (by omega) (by omega)
     unfold kX at hC
     refine Cg (hC) λw hS=>?_
     have hS:=Gf hg (y:=({pJ k x.1 with id:=f},x.2)) (SL.b4 hS (t:=.ob (j4 ({pJ k x.1 with id:=f},x.2))::.ob (zh j4 (L.eraseIdx (iI kB L f)))::.pt dp (l5 mb s.f') 129::.ob (jU (Value.int .i64) kX mb m)::F) (by
      have:(pJ k x.1,x.2)=(({pJ k x.1 with id:=f}:PF),x.2):=by
       have:=(vQ hg).2.2
       unfold kB at this
       rw[<- this];rfl
      rw[this]
      exact Xi))
     have eR:=E6 (f:=f) (x:=x.1) (by rw[hr.jC f,hg];rfl) (pJ (k:Int).toNat)
     rw[eR,Int.toNat_natCast]
     exact⟨_,⟨rfl,rfl⟩,cw.iff.2 ⟨mb,_,_,hr.set hg (y:={pJ k x.1 with id:=f}) rfl,aR hS⟩⟩
theorem Zo(dp:Nat)(s:DS)(N:Nat)(b5:s.Ok N)(iO:s.ops<=100000)(f:Int):
  SP 153 [.pointer (some ⟨dp,0,none⟩),.int .i64 f] [.ob (cw dp s)] (dW (.int .i64 (s.remove f).2) [.ob (cw dp (s.remove f).1)]):=by
 intro W F w hS;apply b39;delta Kh aF bF ai;(try simp only[app]at hS)
 obtain⟨mb,m,L,hr,hS⟩:=cw.iff.1 hS
 refine Cc (Ze dp mb s m f) ?_;clear hS
 rintro v post ⟨rfl,rfl⟩ w hS
 try simp only[app]at hS
 unfold DS.remove
 rcases Gi hr f with ⟨h1,e⟩|⟨h1,h2,x,hg,e⟩
 ·rw[e,if_pos h1]
  refine Gp ?_
  refine za (λh=>absurd h h1) (λ_=>?_)
  refine Gp ?_
  refine za (λh=>absurd h h1) (λ_=>?_)
  exact⟨_,⟨rfl,rfl⟩,cw.iff.2 ⟨mb,m,L,hr,aR hS⟩⟩
 ·obtain⟨h0,tz,xh⟩:=vn h2
  rw[e,if_neg (λh=>h h1)]
  unfold kX
  refine Gp ?_
  refine za (λ_=>?_) (λh=>absurd rfl h)
  refine Cg (yt dp mb s h0 b5.sw b5.sx iO) λw hS=>?_
  by_cases hc:s.f'.off=true
  ·have he:s.f'.err=8:=by unfold DS.err;rw[if_pos hc]
   rw[he,if_pos hc]
   refine za (λh=>by cases h) (λ_=>?_)
   exact⟨_,⟨rfl,rfl⟩,cw.iff.2 ⟨mb,m,L,hr,aR hS⟩⟩
  ·have he:s.f'.err=0:=by unfold DS.err;rw[if_neg hc]
   rw[he,if_neg hc]
   refine za (λ_=>?_) (λh=>absurd rfl h)
   refine Gp ?_
   refine bIn (key:=Value.int .i64) (val:=kX) (k:=f) hS Xu (wi .i64) Tryz.underlying127 Tryz.underlying3 ?_
   clear hS;intro _ w hS
   have hS:=Ao hg (SL.b4 hS (t:=.ob (zh j4 L)::.pt dp (l5 mb s.f') 129::.ob (jU (Value.int .i64) kX mb (sK m f))::F) Xi)
   have eL:nr kB L f=L.eraseIdx (iI kB L f):=by
    unfold nr;rw[if_pos (by rw[<- BQ,hg];rfl)]
   have hd:=hr.del f
   rw[eL]at hd
   exact⟨_,⟨rfl,rfl⟩,cw.iff.2 ⟨mb,_,_,hd,aR hS⟩⟩
def Br(dp:Nat)(s:DS)(f:Int)(v:Value)(post:List Chunk):Prop:=match ij PF.id s.R f with
 | none=>v= .tuple #[.slice none 0 0,.bool false]/\post=[.ob (cw dp s)]
 | some x=>∃u,v= .tuple #[u,.bool true]/\post=[.ob (cw dp s),.ob (a_ u 5 1 x.b.length (x.b.map cR))]
theorem Z0(dp:Nat)(s:DS)(N:Nat)(b5:s.Ok N)(hN:N<=140737488355328)(f:Int):
  SP 103 [.pointer (some ⟨dp,0,none⟩),.int .i64 f] [.ob (cw dp s)] (Br dp s f):=by
 intro W F w hS;apply b3a;delta JK bF eI bI;(try simp only[app]at hS)
 obtain⟨mb,m,L,hr,hS⟩:=cw.iff.1 hS
 refine Gp ?_
 refine Zs hS Xh (wi .i64) Tryz.underlying127 Tryz.underlying3 (λ_=>rfl) ?_
 rw[hr.get f]
 cases hg:ij kB L f with
 | none=>
  simp only[Option.map_none,Option.getD_none]
  refine Z2 (zw ?_)
  exact⟨[.ob (cw dp s)],by unfold Br;rw[hr.jC f,hg];exact⟨rfl,rfl⟩,cw.iff.2 ⟨mb,m,L,hr,aR hS⟩⟩
 | some x=>
  simp only[Option.map_some,Option.getD_some]
  unfold kX
  refine Z2 (zq ?_)
  have RT:x.1.b.length<=N:=b5.len _ (by rw[<- hr.eq];exact List.mem_map.2 ⟨x,List.mem_of_getElem? (vQ hg).1,rfl⟩)
  have hS:=Ao hg (SL.b4 hS (t:=.ob (zh j4 L)::.pt dp (l5 mb s) 129::.ob (jU (Value.int .i64) kX mb m)::F) Xi)
  obtain⟨v0,hS⟩:=j4.iff.1 hS
  refine Gp ?_
  obtain⟨a,cap,rfl,hl,_⟩:=a_.at hS (t:=5) (sz:=1) (n:=x.1.b.length) (cells:=x.1.b.map cR) Xh
  refine Zr (cs:=x.1.b.map cR) hS (λw' c kA=>pW kA (.tl Xh)) (by simp) (nk _) (by omega) ?_
  clear hS;intro u w hS _
  have hS:=Gg hg ((j4.iff (x:=x)).2 ⟨_,SL.b4 hS (t:=.pt x.2 [.slice a x.1.b.length cap,.int .i64 x.1.safe] 142::.ob (a_ (.slice a x.1.b.length cap) 5 1 x.1.b.length (x.1.b.map cR))::.ob (zh j4 (L.eraseIdx (iI kB L f)))::.ob (a_ u 5 1 x.1.b.length (x.1.b.map cR))::.pt dp (l5 mb s) 129::.ob (jU (Value.int .i64) kX mb m)::F) Xi⟩)
  exact⟨[.ob (cw dp s),.ob (a_ u 5 1 x.1.b.length (x.1.b.map cR))],by unfold Br;rw[hr.jC f,hg];exact⟨u,rfl,rfl⟩,cw.iff.2 ⟨mb,m,L,hr,aR hS⟩⟩
theorem Q2(dp:Nat)(s:DS)(f:Int):
  SP 149 [.pointer (some ⟨dp,0,none⟩),.int .i64 f] [.ob (cw dp s)] (dW (.int .i64 (pS s.R f)) [.ob (cw dp s)]):=by
 intro W F w hS;apply b35;delta Kd bF ai eI;(try simp only[app]at hS)
 obtain⟨mb,m,L,hr,hS⟩:=cw.iff.1 hS
 unfold pS
 rw[hr.jC f]
 refine Gp ?_
 refine Zs hS Xh (wi .i64) Tryz.underlying127 Tryz.underlying3 (λ_=>rfl) ?_
 rw[hr.get f]
 cases hg:ij kB L f with
 | none=>
  simp only[Option.map_none,Option.getD_none]
  refine IP (zq ?_)
  exact⟨_,⟨rfl,rfl⟩,cw.iff.2 ⟨mb,m,L,hr,aR hS⟩⟩
 | some x=>
  simp only[Option.map_some,Option.getD_some]
  unfold kX
  refine IP (zw ?_)
  have hS:=Ao hg (SL.b4 hS (t:=.ob (zh j4 L)::.pt dp (l5 mb s) 129::.ob (jU (Value.int .i64) kX mb m)::F) Xi)
  obtain⟨v0,hS⟩:=j4.iff.1 hS
  refine Gp ?_
  refine zt hS (t:=5) (sz:=1) (n:=x.1.b.length) (cells:=x.1.b.map cR) Xh ?_
  have hS:=Gg hg ((j4.iff (x:=x)).2 ⟨_,hS⟩)
  exact⟨_,⟨rfl,rfl⟩,cw.iff.2 ⟨mb,m,L,hr,aR hS⟩⟩
theorem wf_i64{n:Int}(h : -9223372036854775808<=n/\n<=9223372036854775807):(Lit.int .i64 n).wf=true:=by
 simpa [Lit.wf,IntKind.min,IntKind.max,IntKind.signed,IntKind.bits] using h
theorem Y2(dp:Nat)(s:DS)(N:Nat)(b5:s.Ok N)(hR:s.R.length<=100000):
  SP 67 [.pointer (some ⟨dp,0,none⟩)] [.ob (cw dp s)] (λv post=>post=[.ob (cw dp s),.ob (a_ v 3 1 s.R.length (s.R.map λx=>.int .i64 x.id))]):=by
 intro W F w hS;apply b81;delta M5 bF;(try simp only[app]at hS)
 obtain⟨mb,m,L,hr,hS⟩:=cw.iff.1 hS
 refine Gp ?_
 have uw:m.length=s.R.length:=by rw[hr.rel.len,hr.len]
 refine bIi hS Xh (by omega) (λp hp=>?_) ?_
 ·obtain⟨x,hx,rfl⟩:=List.mem_map.1 (hr.rel.1.subset hp)
  have:=b5.ids x.1 (by rw[<- hr.eq];exact List.mem_map.2 ⟨x,hx,rfl⟩)
  exact wf_i64 (by show -9223372036854775808<=kB x/\_;unfold kB;omega)
 ·clear hS;intro v w hS
  have e:(wz m).map (Value.int .i64)=s.R.map λx=>.int .i64 x.id:=by
   rw[hr.rel.wz,<- hr.eq,List.map_map,List.map_map];rfl
  rw[e,uw]at hS
  exact⟨_,rfl,cw.iff.2 ⟨mb,m,L,hr,aR hS⟩⟩
theorem Zd(dp:Nat)(s:DS):
  SP 64 [.pointer (some ⟨dp,0,none⟩)] [.ob (cw dp s)] (dW (.bool s.off) [.ob (cw dp s)]):=by
 intro W F w hS;apply b80;delta M4 bF;(try simp only[app]at hS)
 obtain⟨mb,m,L,hr,hS⟩:=cw.iff.1 hS
 refine Gp ?_
 exact⟨_,⟨rfl,rfl⟩,cw.iff.2 ⟨mb,m,L,hr,aR hS⟩⟩
end Go.Proofs.YtfenmffiidchcaaGreat
