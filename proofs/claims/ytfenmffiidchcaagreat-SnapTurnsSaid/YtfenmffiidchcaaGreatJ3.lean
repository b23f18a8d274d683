/-
  Texts of the proof, joined: Keys, KMod, DMod, RecM, RecM2, FldM, R01P, ModS, ReqM, ItemM, RqP, Sl8, KeysC, DiskS, CloneG, Sl9, ItemV, DiskS2, DiskS3, DiskS4.
-/
import Derived.Test.YtfenmffiidchcaaGreatJ2
import Derived.Shelf.SlIterI.Nil
import Derived.Shelf.SortM.Plain
import Derived.Shelf.SortM.SortNone
import Derived.WideShapes
import Derived.Test.YtfenmffiidchcaaGreatQVcG
import Derived.Test.YtfenmffiidchcaaGreatQLay
import Derived.Test.YtfenmffiidchcaaGreatQTab
namespace Go.Proofs.YtfenmffiidchcaaGreat
set_option linter.unusedVariables false
open Go.RowKit Go.Maps Go.Sort Go.Shelf
def tB{α:Type}(m:List (Int × α)):List Int:=(m.map (·.1)).mergeSort (λx y=>decide (x<=y))
section
variable {W w:World} {l:List Chunk} {P:Program} {ρ σ:Ren} {b:Nat} {α:Type} {val:α->Value} {m:List (Int × α)}
theorem SL.kept{w':World}(h:SL W l w)(hb:Below w.heap.size w w'):SL W l w':=by
 obtain⟨a1,a2,a3,k,s,x⟩:=h
 refine⟨hb.os.trans a1,hb.tape.trans a2,hb.output.trans a3,k,s,λb o e=>?_⟩
 have e1:=x b o e
 rw[hb.block b (Array.getElem?_eq_some_iff.1 e1).1];exact e1
theorem SL.X9{w':World}{g:Nat}{cs:List Value}{t:TypeId}(h:SL W l w)(hb:Below w.heap.size w w')(hg:w.heap.size<=g)(he:w'.heap[g]?=some (.cells cs.toArray t (0,0))):SL W (.pt g cs t::l) w':=by
 obtain⟨a1,a2,a3,k,s,x⟩:=h
 have hk:k g=none:=by
  cases hx:k g with
  | none=>rfl
  | some y=>have:=(Array.getElem?_eq_some_iff.1 (x g y hx)).1;omega
 refine⟨hb.os.trans a1,hb.tape.trans a2,hb.output.trans a3,λy=>if y=g then some (.cells cs.toArray t (0,0)) else k y,⟨aW.one g (.cells cs.toArray t (0,0)),k,λy=>?_,⟨(0,0),.inl rfl,rfl⟩,s⟩,λy o e=>?_⟩
 ·by_cases hy:y=g
  ·subst hy;exact .inr ⟨hk,by simp[aW.one]⟩
  ·exact .inl ⟨by simp[aW.one,hy],by simp[hy]⟩
 ·by_cases hy:y=g
  ·subst hy;simp at e;rw[he,e]
  ·simp[hy]at e
   have e1:=x y o e
   rw[hb.block y (Array.getElem?_eq_some_iff.1 e1).1];exact e1
theorem SL.X_{w':World}{v:Value}{n:Nat}{t:TypeId}{xs:List Value}(h:SL W l w)(hb:Below w.heap.size w w')(hr:w'.ownsRow w.heap.size t 1 v n xs):SL W (.ob (a7 v t 1 n xs)::l) w':=by
 obtain⟨hx,h2⟩:=hr
 rcases h2 with ⟨rfl,rfl⟩|⟨g,cap,cur,rfl,hg,he,h3,h4,h5,h6⟩
 ·obtain rfl:xs=[]:=List.eq_nil_of_length_eq_zero (by simpa using hx)
  exact a7.nil (h.kept hb)
 ·refine a7.mk (rest:=cur.toList.drop (n*1)) h3 hx ?_ (h.X9 hb hg ?_)
  ·rw[List.length_drop,Array.length_toList,h5,Nat.mul_sub_right_distrib]
  ·rw[<- h6,List.take_append_drop];exact he
theorem aFq{H:Type}{kt:TypeId}(E_:P.underlying kt=some (.int .i64))(hS:SL W l w)(hm:Has (.ob (fC (Value.int .i64) val b m)) l)(hlen:m.length<=maxLen)(uL:∀p∈m,(Lit.int .i64 p.1).wf=true):
  ∃D:DataW H,w.ownsMap P kt (λ_=>some (.nil,[])) b m.length D/\(intKeys D).Perm (m.map (·.1))/\Maps.size D=m.length:=by
 obtain⟨es,c,e1,e2,hb⟩:=hS.wi hm
 have hl:es.length=m.length:=by simpa using congrArg List.length e1
 have uz:∀x∈es,∃p∈m,x.key= .int .i64 p.1:=λx hx=>by
  have:kv x∈es.map kv:=List.mem_map.2 ⟨x,hx,rfl⟩
  rw[e1]at this
  obtain⟨p,hp,hq⟩:=List.mem_map.1 this
  exact⟨p,hp,(Prod.mk.inj hq).1.symm⟩
 have dE:∀x∈es,∀a,x.key= .int .i64 a->WideElems.rd P kt (λ_=>some ((.nil:DataW H),[])) x=some (.int .i64 a,.nil):=λx hx a ha=>by
  obtain⟨p,hp,hq⟩:=uz x hx
  rw[ha]at hq;cases hq
  have hw:=uL p hp
  simp[WideElems.rd,keyOf,E_,mapKey,ha,hw]
 refine⟨_,⟨es.toArray,c,hb,⟨by simpa [hl] using hlen,e2,λx hx=>?_⟩,by simp[hl],rfl⟩,?_,?_⟩
 ·obtain⟨p,hp,hq⟩:=uz x (by simpa using hx)
  exact⟨_,dE x (by simpa using hx) _ hq⟩
 ·show (List.map (λp:Lit × DataW H=>Go.intOf p.1) _).Perm _
  refine ((WideShapes.sorted_perm _).map _).trans ?_
  rw[List.map_map]
  have:es.map ((λp:Lit × DataW H=>Go.intOf p.1)∘WideElems.rg P kt (λ_=>some ((.nil:DataW H),[])))=m.map (·.1):=by
   have h1:es.map ((λp:Lit × DataW H=>Go.intOf p.1)∘WideElems.rg P kt (λ_=>some ((.nil:DataW H),[])))=(es.map kv).map λq=>match q.1 with | .int _ a=>a|_=>0:=by
    rw[List.map_map]
    refine List.map_congr_left λx hx=>?_
    obtain⟨p,hp,hq⟩:=uz x hx
    simp[WideElems.rg_of (dE x hx _ hq),kv,hq,Go.intOf]
   rw[h1,e1,List.map_map]
   rfl
  simpa using this▸List.Perm.refl _
 ·rw[Maps.size_eq,(WideShapes.sorted_perm _).length_eq];simp[hl]
theorem Z'(L7:SlLaysZI.n7 P ρ)(L6:SlLaysZI.n6 P σ)(Xz:∀m,AnyZI.SortsIn P σ Fence.wide m)(e9:∀args w,(callFunc (σ.f 9) args).run P w= .ok (.enter (σ.f 9) args) w)(D8:∀args w,(callFunc (ρ.f 10) args).run P w= .ok (.enter (ρ.f 10) args) w)
  (E_:P.underlying (ρ.t 26)=some (.int .i64)) (hS:SL W l w) (hm:Has (.ob (fC (Value.int .i64) val b m)) l) (hlen:m.length*8<=140737488355328) (uL:∀p∈m,(Lit.int .i64 p.1).wf=true) {K:Value->World->Prop}
  (h:∀v w',SL W (.ob (a7 v (σ.t 26) 1 m.length ((tB m).map (Value.int .i64)))::l) w'->K v w') :
  zU P (ρ.f 7) [.map (some b)] w λv1 w1=>zU P (σ.f 6) [v1] w1 K:=by
 obtain⟨D,s8,Xb,kH⟩:=aFq (H:=Unit) E_ hS hm (by unfold maxLen;omega) uL
 refine (callsIn_wide (n:=5)).1 ((AnyZI.keys_in L7 Fence.wide 5 trivial rfl (some b) w).mono ?_)
 rintro e w1 ⟨rfl,rfl⟩
 refine⟨_,rfl,?_⟩
 have rQ:=s8.lt
 have Ah:SeqGives Fence.wide 2 P (ρ.f 10) #[.pointer (some ⟨w.heap.size,0,none⟩)] encZ (λss=>ss.Perm (intKeys D)) (Maps.size D) (w.alloc (.cells #[.map (some b)] (ρ.t 23))):=
  AnyZI.keys_gives (ρ:=ρ) {L7 with} Fence.wide _ trivial rfl (by omega) w.heap.size b m.length D _ (by simp) (by simp) (by
   obtain⟨es,clock,hb,Ft,hs,hD⟩:=s8
   exact⟨es,clock,(Below.heap_alloc _ _ b rQ).trans hb,Ft,hs,hD⟩)
 have cS:=AnyZI.sorted_in L6 Fence.wide 5 trivial trivial trivial trivial rfl (by omega) (Xz _) e9 (ρ.f 10) #[.pointer (some ⟨w.heap.size,0,none⟩)] trivial D8 _ _ (by rw[kH];unfold maxLen;omega) (by rw[kH];exact hlen) _ Ah
 refine (callsIn_wide (n:=5)).1 (cS.mono ?_)
 rintro e w' ⟨v,ss,rfl,r6,k8,z_,hb⟩
 refine⟨v,rfl,h v w' ?_⟩
 have hp:=r6.trans Xb
 have WU:ss.length=m.length:=by simpa using hp.length_eq
 have rZ:ss.mergeSort (λx y=>decide (x<=y))=tB m:=mergeSort_of_perm_i hp
 rw[WU,rZ]at k8
 have mS:Below w.heap.size w w':=((Below.refl _ w).alloc (Nat.le_refl _) _).trans (hb.mono (by simp))
 exact hS.X_ mS (ownsRow_base_a k8 (by simp))
end
section
variable {α:Type} (key:α->Int)
def f_(L:List α):Prop:=L.Pairwise λa b=>key a<key b
def eD(L:List α)(k:Int):Nat:=(L.filter λx=>decide (key x<k)).length
variable {key}
theorem vu(L:List α)(k:Int):eD key L k<=L.length:=List.length_filter_le _ _
theorem DU{L:List α}(hs:f_ key L)(k:Int):∀j (h:j<L.length),key L[j]<k↔j<eD key L k:=by
 unfold f_ at hs
 unfold eD
 induction L with
 | nil=>intro j h;simp at h
 | cons x L ih=>
  rw[List.pairwise_cons]at hs
  intro j h
  by_cases hx:key x<k
  ·rw[List.filter_cons_of_pos (by simpa using hx)]
   cases j with
   | zero=>simp[hx]
   | succ j=>simpa using ih hs.2 j (by simpa using h)
  ·have e:L.filter (λr=>decide (key r<k))=[]:=by
    rw[List.filter_eq_nil_iff];intro y hy;have:=hs.1 y hy;simp;omega
   rw[List.filter_cons_of_neg (by simpa using hx),e]
   cases j with
   | zero=>simpa using hx
   | succ j=>
    have hm:L[j]'(by simpa using h)∈L:=List.getElem_mem _
    have:=hs.1 _ hm
    simp;omega
theorem DT{L:List α}(hs:f_ key L)(k:Int){i:Nat}(hi:i<=L.length)(h1:∀j (h:j<L.length),j<i->key L[j]<k)(h2:∀h:i<L.length,¬key L[i]<k):eD key L k=i:=by
 have hle:=vu (key:=key) L k
 rcases Nat.lt_trichotomy (eD key L k) i with h|h|h
 ·have:=(DU hs k _ (by omega)).1 (h1 (eD key L k) (by omega) h)
  omega
 ·exact h
 ·have:=h2 (by omega)
  have h3:=(DU hs k i (by omega)).2 h
  exact absurd h3 this
theorem DR{L:List α}(hs:f_ key L){k:Int}{j:Nat}(hj:j<L.length)(h:key L[j]=k):eD key L k=j:=by
 refine DT hs k (by omega) (λi hi rW=>?_) (λ_=>by omega)
 have:=List.pairwise_iff_getElem.1 hs i j hi hj rW
 omega
def fS(key:α->Int)(L:List α)(k:Int):Bool:=match L[eD key L k]? with
 | some x=>decide (key x=k)
 | none=>false
theorem Ck{L:List α}(hs:f_ key L){k:Int}:fS key L k=true↔∃x∈L,key x=k:=by
 unfold fS
 constructor
 ·intro h
  split at h
  ·rename_i x e
   exact⟨x,List.mem_of_getElem? e,of_decide_eq_true h⟩
  ·cases h
 ·rintro ⟨x,hx,rfl⟩
  obtain⟨j,hj,rfl⟩:=List.mem_iff_getElem.1 hx
  rw[DR hs hj rfl,List.getElem?_eq_getElem hj]
  simp
theorem oA{L:List α}{k:Int}(h:fS key L k=true):∃hl:eD key L k<L.length,key L[eD key L k]=k:=by
 unfold fS at h
 split at h
 ·rename_i x e
  obtain⟨hl,rfl⟩:=List.getElem?_eq_some_iff.1 e
  exact⟨hl,of_decide_eq_true h⟩
 ·cases h
theorem FZ{L:List α}(hs:f_ key L){k:Int}(h:fS key L k=false):∀x∈L,key x≠k:=λx hx e=>by
 have:=(Ck hs).2 ⟨x,hx,e⟩
 rw[h]at this;cases this
def dP(key:α->Int)(L:List α)(k:Int):Option α:=if fS key L k then L[eD key L k]? else none
def iO(key:α->Int)(L:List α)(x:α):List α:=L.take (eD key L (key x))++[x]++L.drop (if fS key L (key x) then eD key L (key x)+1 else eD key L (key x))
def j6(key:α->Int)(L:List α)(k:Int):List α:=if fS key L k then L.eraseIdx (eD key L k) else L
theorem CE{L:List α}{x:α}(h:fS key L (key x)=true):iO key L x=L.set (eD key L (key x)) x:=by
 obtain⟨hl,_⟩:=oA h
 unfold iO
 rw[if_pos h,List.set_eq_take_append_cons_drop,if_pos hl];simp
theorem pV{L:List α}{k:Int}{x:α}(h:dP key L k=some x):x∈L/\key x=k:=by
 unfold dP at h
 split at h
 ·rename_i hi
  obtain⟨hl,e⟩:=oA hi
  rw[List.getElem?_eq_getElem hl]at h
  cases h
  exact⟨List.getElem_mem hl,e⟩
 ·cases h
theorem vI{L:List α}(hs:f_ key L){x:α}(h:x∈L):dP key L (key x)=some x:=by
 unfold dP
 rw[if_pos ((Ck hs).2 ⟨x,h,rfl⟩)]
 obtain⟨j,hj,rfl⟩:=List.mem_iff_getElem.1 h
 rw[DR hs hj rfl,List.getElem?_eq_getElem hj]
theorem Er{L:List α}(hs:f_ key L){k:Int}:dP key L k=none↔∀x∈L,key x≠k:=by
 constructor
 ·intro h x hx e
  subst e
  rw[vI hs hx]at h;cases h
 ·intro h
  cases hg:dP key L k with
  | none=>rfl
  | some x=>obtain⟨h1,h2⟩:=pV hg;exact absurd h2 (h x h1)
theorem Sy{L:List α}(hs:f_ key L){i:Nat}(hi:i<L.length){x:α}(hx:key x=key L[i]):f_ key (L.set i x):=by
 unfold f_ at *
 rw[List.pairwise_iff_getElem]at *
 intro a b ha hb oq
 rw[List.length_set]at ha hb
 rw[List.getElem_set,List.getElem_set]
 have h1:=hs a b ha hb oq
 split<;>split
 ·omega
 ·rename_i e _;subst e;omega
 ·rename_i e;subst e;omega
 ·exact h1
theorem RN{L:List α}(hs:f_ key L){x:α}(h:fS key L (key x)=false):(iO key L x).Perm (x::L):=by
 unfold iO
 rw[if_neg (by rw[h];decide)]
 have:L=L.take (eD key L (key x))++L.drop (eD key L (key x)):=by simp
 conv=>rhs;rw[this]
 rw[List.append_assoc]
 exact List.perm_middle
theorem GB{L:List α}(hs:f_ key L)(x:α):f_ key (iO key L x):=by
 cases h:fS key L (key x) with
 | true=>
  rw[CE h]
  obtain⟨hl,e⟩:=oA h
  exact Sy hs hl e.symm
 | false=>
  have hn:=FZ hs h
  unfold iO
  rw[if_neg (by rw[h];decide)]
  have dZ:=DU hs (key x)
  have hle:=vu (key:=key) L (key x)
  unfold f_ at *
  rw[List.append_assoc,List.pairwise_append]
  refine⟨hs.sublist (List.take_sublist _ _),?_,λa ha b hb=>?_⟩
  ·rw[List.singleton_append,List.pairwise_cons]
   refine⟨λb hb=>?_,hs.sublist (List.drop_sublist _ _)⟩
   obtain⟨j,hj,rfl⟩:=List.mem_iff_getElem.1 hb
   rw[List.getElem_drop]
   have iL:eD key L (key x)+j<L.length:=by simp at hj;omega
   have h1:=(not_congr (dZ _ iL)).2 (by omega)
   have h2:=hn _ (List.getElem_mem iL)
   omega
  ·obtain⟨j,hj,rfl⟩:=List.mem_iff_getElem.1 ha
   rw[List.getElem_take]
   have iL:j<eD key L (key x)/\j<L.length:=by simp at hj;omega
   have h1:=(dZ j iL.2).2 iL.1
   rcases List.mem_append.1 hb with hb|hb
   ·simp at hb;subst hb;exact h1
   ·obtain⟨i,hi,rfl⟩:=List.mem_iff_getElem.1 hb
    rw[List.getElem_drop]
    have rU:eD key L (key x)+i<L.length:=by simp at hi;omega
    have h3:=(not_congr (dZ _ rU)).2 (by omega)
    omega
theorem MJ{L:List α}(hs:f_ key L)(k:Int):f_ key (j6 key L k):=by
 unfold j6
 split
 ·exact hs.sublist (List.eraseIdx_sublist _ _)
 ·exact hs
theorem aww{L:List α}(hs:f_ key L):(L.map key).Nodup:=by
 refine List.pairwise_map.2 (List.Pairwise.imp (R:=λa b=>key a<key b) (λ{a b} oq=>?_) hs)
 omega
theorem UZ{L:List α}(hs:f_ key L)(k:Int):j6 key L k=L.filter λx=>decide (key x≠k):=by
 unfold j6
 split
 ·rename_i h
  obtain⟨hl,e⟩:=oA h
  generalize eD key L k=i at *
  have jX:=hs
  unfold f_ at jX
  clear h hs
  induction L generalizing i with
  | nil=>simp at hl
  | cons y L ih=>
   rw[List.pairwise_cons]at jX
   cases i with
   | zero=>
    simp only[List.getElem_cons_zero]at e
    rw[List.eraseIdx_cons_zero,List.filter_cons_of_neg (by simp[e])]
    symm
    rw[List.filter_eq_self]
    intro z hz
    have:=jX.1 z hz
    simp;omega
   | succ i=>
    have uA:i<L.length:=by simpa using hl
    have e':key L[i]=k:=by simpa using e
    have:=jX.1 _ (List.getElem_mem uA)
    rw[List.eraseIdx_cons_succ,List.filter_cons_of_pos (by simp;omega),ih i uA e' jX.2]
 ·rename_i h
  have hn:=FZ hs (by simpa using h)
  symm
  rw[List.filter_eq_self]
  intro x hx;simpa using hn x hx
theorem tW{β:Type}{kb:β->Int}{f:β->α}(hf:∀b,key (f b)=kb b)(L:List β)(k:Int):eD key (L.map f) k=eD kb L k:=by
 unfold eD
 rw[List.filter_map,List.length_map]
 congr 2
 funext b
 simp[hf]
theorem a7y{β:Type}{kb:β->Int}{f:β->α}(hf:∀b,key (f b)=kb b){L:List β}:f_ key (L.map f)↔f_ kb L:=by
 unfold f_
 rw[List.pairwise_map]
 simp only[hf]
theorem wc{β:Type}{kb:β->Int}{f:β->α}(hf:∀b,key (f b)=kb b)(L:List β)(k:Int):fS key (L.map f) k=fS kb L k:=by
 unfold fS
 rw[tW hf,List.getElem?_map]
 cases L[eD kb L k]? with
 | none=>rfl
 | some b=>simp[hf]
theorem aF5{β:Type}{kb:β->Int}{f:β->α}(hf:∀b,key (f b)=kb b)(L:List β)(b:β):(iO kb L b).map f=iO key (L.map f) (f b):=by
 unfold iO
 rw[wc hf,tW hf,hf]
 simp
theorem P2{α β:Type}(f:β->α):∀(L:List β) (i:Nat),(L.eraseIdx i).map f=(L.map f).eraseIdx i
 | [],_=>rfl
 | x::L,0=>rfl
 | x::L,i+1=>by simp only[List.eraseIdx_cons_succ,List.map_cons,P2 f L i]
theorem MI{β:Type}{kb:β->Int}{f:β->α}(hf:∀b,key (f b)=kb b)(L:List β)(k:Int):(j6 kb L k).map f=j6 key (L.map f) k:=by
 unfold j6
 rw[wc hf,tW hf]
 split
 ·exact P2 f L _
 ·rfl
theorem Az{L:List α}{x y:α}(h:y∈iO key L x):y=x\/y∈L:=by
 unfold iO at h
 rcases List.mem_append.1 h with h|h
 ·rcases List.mem_append.1 h with h|h
  ·exact .inr (List.mem_of_mem_take h)
  ·exact .inl (by simpa using h)
 ·exact .inr (List.mem_of_mem_drop h)
theorem Cv{L:List α}{k:Int}{y:α}(h:y∈j6 key L k):y∈L:=by
 unfold j6 at h
 split at h
 ·exact List.mem_of_mem_eraseIdx h
 ·exact h
end
section
variable {α β:Type} {key:α->Int} {val:α->β} {m:List (Int × β)} {L:List α}
def j4(key:α->Int)(val:α->β)(m:List (Int × β))(L:List α):Prop:=m.Perm (L.map λx=>(key x,val x))/\f_ key L
theorem j4.nodup(h:j4 key val m L):(m.map (·.1)).Nodup:=by
 have:=h.1.map (·.1)
 rw[List.map_map]at this
 exact this.nodup_iff.2 (aww h.2)
theorem Re(hn:(m.map (·.1)).Nodup)(k:Int)(v:β):gS m k=some v↔(k,v)∈m:=by
 induction m with
 | nil=>simp[gS]
 | cons p m ih=>
  rw[List.map_cons,List.nodup_cons]at hn
  obtain⟨a,b⟩:=p
  by_cases ha:a=k
  ·subst ha
   simp only[gS,if_true,Option.some.injEq,List.mem_cons,Prod.mk.injEq,true_and]
   constructor
   ·rintro rfl;exact .inl rfl
   ·rintro (h|h)
    ·exact h.symm
    ·exact absurd (List.mem_map.2 ⟨_,h,rfl⟩) hn.1
  ·have FU:=ih hn.2
   have dV:¬(k=a):=λe=>ha e.symm
   simp only[gS,ha,if_false,FU,List.mem_cons,Prod.mk.injEq,dV,false_and,false_or]
theorem j4.get(h:j4 key val m L)(k:Int):gS m k=(dP key L k).map val:=by
 cases hg:dP key L k with
 | some x=>
  obtain⟨hx,rfl⟩:=pV hg
  exact (Re h.nodup _ _).2 (h.1.symm.subset (List.mem_map.2 ⟨x,hx,rfl⟩))
 | none=>
  cases hm:gS m k with
  | none=>rfl
  | some v=>
   obtain⟨x,hx,e⟩:=List.mem_map.1 (h.1.subset ((Re h.nodup _ _).1 hm))
   cases e
   exact absurd rfl ((Er h.2).1 hg x hx)
theorem ai7(hn:(m.map (·.1)).Nodup)(k:Int):oB m k=m.filter λp=>decide (p.1≠k):=by
 induction m with
 | nil=>rfl
 | cons p m ih=>
  rw[List.map_cons,List.nodup_cons]at hn
  unfold oB
  split
  ·rename_i e
   rw[List.filter_cons_of_neg (by simp[e])]
   symm
   rw[List.filter_eq_self]
   intro q hq
   have:q.1≠p.1:=λe2=>hn.1 (by rw[<- e2];exact List.mem_map.2 ⟨q,hq,rfl⟩)
   simp;omega
  ·rename_i e
   rw[List.filter_cons_of_pos (by simpa using e),ih hn.2]
theorem j4.del(h:j4 key val m L)(k:Int):j4 key val (oB m k) (j6 key L k):=by
 refine⟨?_,MJ h.2 k⟩
 rw[ai7 h.nodup,UZ h.2]
 have:=h.1.filter λp=>decide (p.1≠k)
 rwa [List.filter_map]at this
theorem awi{k:Int}(hn:gS m k=none)(v:β):iZ m k v=m++[(k,v)]:=by
 induction m with
 | nil=>rfl
 | cons p m ih=>
  unfold gS at hn
  split at hn
  ·cases hn
  ·rename_i e
   unfold iZ
   rw[if_neg e,ih hn];rfl
theorem j4.add(h:j4 key val m L){x:α}(hn:fS key L (key x)=false):j4 key val (iZ m (key x) (val x)) (iO key L x):=by
 refine⟨?_,GB h.2 x⟩
 have hg:dP key L (key x)=none:=(Er h.2).2 (FZ h.2 hn)
 rw[awi (by rw[h.get,hg];rfl)]
 have h1:=(RN h.2 hn).map λx=>(key x,val x)
 refine (List.perm_append_comm.trans ?_).trans h1.symm
 rw[List.map_cons]
 exact h.1.cons _
theorem j4.rr(h:j4 key val m L){i:Nat}(hi:i<L.length){x:α}(h1:key x=key L[i])(h2:val x=val L[i]):j4 key val m (L.set i x):=by
 refine⟨?_,Sy h.2 hi h1⟩
 have e:(L.set i x).map (λx=>(key x,val x))=L.map λx=>(key x,val x):=by
  rw[List.map_set,h1,h2]
  refine List.ext_getElem? λj=>?_
  rw[List.getElem?_set]
  split
  ·rename_i rW;subst rW
   rw[if_pos (by simpa using hi),List.getElem?_map,List.getElem?_eq_getElem hi];rfl
  ·rfl
 rw[e];exact h.1
theorem j4.tB(h:j4 key val m L):tB m=L.map key:=by
 have hp:(m.map (·.1)).Perm (L.map key):=by
  have:=h.1.map (·.1)
  rwa [List.map_map]at this
 have e:YtfenmffiidchcaaGreat.tB m=(L.map key).mergeSort (λx y=>decide (x<=y)):=Go.mergeSort_of_perm_i hp
 rw[e]
 refine List.mergeSort_of_pairwise ?_
 refine List.pairwise_map.2 (List.Pairwise.imp (R:=λa b:α=>key a<key b) (λ{a b} oq=>?_) h.2)
 simp only[decide_eq_true_eq];omega
theorem j4.len(h:j4 key val m L):m.length=L.length:=by simpa using h.1.length_eq
theorem j4.nil:j4 key val [] []:=⟨.refl _,.nil⟩
end
structure PF where
 id:Int
 safe:Nat
 b:List UInt8
def cI(x:UInt8):Value:=.int .u8 (x.toNat:Int)
structure DS where
 R:List PF
 off:Bool
 arm:Int
 ops:Nat
def kK(f:Int):PF:=⟨f,0,[]⟩
def kg(R:List PF)(f:Int)(b:List UInt8):List PF:=iO PF.id R ⟨f,((dP PF.id R f).getD (kK f)).safe,((dP PF.id R f).getD (kK f)).b++b⟩
def kr(R:List PF)(f:Int)(g:PF->PF):List PF:=match dP PF.id R f with
 | some x=>iO PF.id R {g x with id:=f}
 | none=>R
def may(s:DS)(f:Int):Int:=if s.off=true then 8 else if f<0\/16384<=f then 1 else 0
def DS.dB(s:DS):DS:={s with off:=decide (s.arm=1),arm:=if 0<s.arm then s.arm-1 else s.arm,ops:=s.ops+1}
def DS.err(s:DS):Int:=if s.off=true then 8 else 0
def DS.find(s:DS)(f:Int):Int:=if may s f≠0 then may s f else if fS PF.id s.R f=true then 0 else 5
def DS.append(s:DS)(f:Int)(b:List UInt8):DS × Int:=if may s f≠0 then (s,may s f) else ({s.dB with R:=kg s.R f b},s.dB.err)
def DS.sync(s:DS)(f:Int):DS × Int:=if s.find f≠0 then (s,s.find f) else if s.dB.off=true then (s.dB,8) else ({s.dB with R:=kr s.R f λx=>{x with safe:=x.b.length}},0)
def mE(R:List PF)(f:Int):Int:=match dP PF.id R f with
 | some x=>x.b.length
 | none=>-1
def mn(n:Nat)(x:PF):PF:={x with b:=x.b.take n,safe:=min x.safe n}
def DS.cut(s:DS)(f n:Int):DS × Int:=if s.find f≠0 then (s,s.find f) else if n<0\/mE s.R f<n then (s,1) else if s.dB.off=true then (s.dB,8) else ({s.dB with R:=kr s.R f (mn n.toNat)},0)
def DS.remove(s:DS)(f:Int):DS × Int:=if s.find f≠0 then (s,s.find f) else if s.dB.off=true then (s.dB,8) else ({s.dB with R:=j6 PF.id s.R f},0)
structure DS.Ok(s:DS)(N:Nat):Prop where
 sorted:f_ PF.id s.R
 ids:∀x∈s.R,0<=x.id/\x.id<16384
 safe:∀x∈s.R,x.safe<=x.b.length
 len:∀x∈s.R,x.b.length<=N
 n3:0<=s.arm
 n_:s.arm<=9223372036854775807
theorem Cw{R:List PF}{f:Int}{g:PF->PF}{y:PF}(h:y∈kr R f g):y∈R\/∃x∈R,x.id=f/\y={g x with id:=f}:=by
 unfold kr at h
 split at h
 ·rename_i x e
  obtain⟨h1,h2⟩:=pV e
  rcases Az h with h|h
  ·exact .inr ⟨x,h1,h2,h⟩
  ·exact .inl h
 ·exact .inl h
theorem Ep{R:List PF}{f:Int}{N:Nat}(h:∀x∈R,x.b.length<=N):((dP PF.id R f).getD (kK f)).b.length<=N:=by
 cases e:dP PF.id R f with
 | none=>exact Nat.zero_le _
 | some x=>exact h x (pV e).1
theorem VG{R:List PF}{f:Int}(h:∀x∈R,x.safe<=x.b.length):((dP PF.id R f).getD (kK f)).safe<=((dP PF.id R f).getD (kK f)).b.length:=by
 cases e:dP PF.id R f with
 | none=>exact Nat.zero_le _
 | some x=>exact h x (pV e).1
theorem DS.Ok.mono{s:DS}{N M:Nat}(h:s.Ok N)(hm:N<=M):s.Ok M:=⟨h.sorted,h.ids,h.safe,λx hx=>Nat.le_trans (h.len x hx) hm,h.n3,h.n_⟩
theorem DS.Ok.dB{s:DS}{N:Nat}(h:s.Ok N):s.dB.Ok N:=by
 have h0:=h.n3
 have h1:=h.n_
 refine⟨h.sorted,h.ids,h.safe,h.len,?_,?_⟩<;>simp only[DS.dB]<;>split<;>omega
theorem DS.Ok.Hn{s:DS}{N:Nat}(h:s.Ok N){R:List PF}(h1:f_ PF.id R)(h2:∀x∈R,0<=x.id/\x.id<16384)(h3:∀x∈R,x.safe<=x.b.length)(h4:∀x∈R,x.b.length<=N):({s with R:=R}:DS).Ok N:=
 ⟨h1,h2,h3,h4,h.n3,h.n_⟩
theorem sf{s:DS}{f:Int}(h:may s f=0):s.off=false/\0<=f/\f<16384:=by
 unfold may at h
 split at h
 ·cases h
 ·split at h
  ·cases h
  ·rename_i h1 h2
   refine⟨by simpa using h1,by omega,by omega⟩
theorem DS.Ok.append{s:DS}{N:Nat}(h:s.Ok N)(f:Int)(b:List UInt8):(s.append f b).1.Ok (N+b.length):=by
 unfold DS.append
 split
 ·exact h.mono (by omega)
 ·rename_i hm
  have hm:may s f=0:=by simpa using hm
  obtain⟨_,f0,f1⟩:=sf hm
  have hl:=Ep (f:=f) h.len
  have hs:=VG (f:=f) h.safe
  refine (h.dB.mono (Nat.le_add_right N b.length)).Hn (GB h.sorted _) ?_ ?_ ?_
  ·intro x hx
   rcases Az hx with rfl|hx
   ·exact⟨f0,f1⟩
   ·exact h.ids x hx
  ·intro x hx
   rcases Az hx with rfl|hx
   ·simp only[List.length_append];omega
   ·exact h.safe x hx
  ·intro x hx
   rcases Az hx with rfl|hx
   ·simp only[List.length_append];omega
   ·have:=h.len x hx;omega
theorem a_z{R:List PF}(h:f_ PF.id R)(f:Int)(g:PF->PF):f_ PF.id (kr R f g):=by
 unfold kr
 split
 ·exact GB h _
 ·exact h
theorem DS.Ok.rr{s:DS}{N:Nat}(h:s.Ok N)(f:Int)(g:PF->PF)(h1:∀x,x.safe<=x.b.length->(g x).safe<=(g x).b.length)(h2:∀x,(g x).b.length<=x.b.length):({s.dB with R:=kr s.R f g}:DS).Ok N:=by
 refine h.dB.Hn (a_z h.sorted f g) ?_ ?_ ?_
 ·intro x hx
  rcases Cw hx with hx|⟨y,hy,rfl,rfl⟩
  ·exact h.ids x hx
  ·exact h.ids y hy
 ·intro x hx
  rcases Cw hx with hx|⟨y,hy,rfl,rfl⟩
  ·exact h.safe x hx
  ·exact h1 y (h.safe y hy)
 ·intro x hx
  rcases Cw hx with hx|⟨y,hy,rfl,rfl⟩
  ·exact h.len x hx
  ·exact Nat.le_trans (h2 y) (h.len y hy)
theorem DS.Ok.sync{s:DS}{N:Nat}(h:s.Ok N)(f:Int):(s.sync f).1.Ok N:=by
 unfold DS.sync
 split
 ·exact h
 ·split
  ·exact h.dB
  ·exact h.rr f _ (λx _=>Nat.le_refl _) (λx=>Nat.le_refl _)
theorem DS.Ok.cut{s:DS}{N:Nat}(h:s.Ok N)(f n:Int):(s.cut f n).1.Ok N:=by
 unfold DS.cut
 split
 ·exact h
 ·split
  ·exact h
  ·split
   ·exact h.dB
   ·exact h.rr f _ (λx hx=>by simp only[mn,List.length_take];omega) (λx=>by simp only[mn,List.length_take];omega)
theorem DS.Ok.remove{s:DS}{N:Nat}(h:s.Ok N)(f:Int):(s.remove f).1.Ok N:=by
 unfold DS.remove
 split
 ·exact h
 ·split
  ·exact h.dB
  ·exact h.dB.Hn (MJ h.sorted _) (λx hx=>h.ids x (Cv hx)) (λx hx=>h.safe x (Cv hx)) (λx hx=>h.len x (Cv hx))
def ja:DS:=⟨[],false,0,0⟩
theorem GQ(N:Nat):ja.Ok N:=⟨.nil,by simp[ja],by simp[ja],by simp[ja],by simp[ja],by simp[ja]⟩
open Go.RowKit
def u9(a b:Int):Int:=IntKind.u32.wrap ((BitVec.ofInt IntKind.u32.bits a ^^^ BitVec.ofInt IntKind.u32.bits b).toNat)
def LS(a b:Int):Int:=IntKind.u32.wrap ((BitVec.ofInt IntKind.u32.bits a &&& BitVec.ofInt IntKind.u32.bits b).toNat)
def vw(a:Int):Int:=IntKind.u32.wrap ((BitVec.ofInt IntKind.u32.bits IntKind.u32.max ^^^ BitVec.ofInt IntKind.u32.bits a).toNat)
def tV(c:Int):Int:=if LS c 1=1 then u9 (c.fdiv (2 ^ 1)) 3988292384 else c.fdiv (2 ^ 1)
def sJ:Nat->Int->Int
 | 0,c=>c
 | n+1,c=>tV (sJ n c)
def AR(c:Int)(b:UInt8):Int:=sJ 8 (u9 c (b.toNat:Int))
def iY(s:Int)(b:List UInt8):Int:=vw (b.foldl AR (vw s))
def fy(n:Int):UInt8:=UInt8.ofNat (n % 256).toNat
theorem ait(n:Int):cI (fy n)= .int .u8 (IntKind.u8.wrap n):=by
 unfold cI fy
 congr 1
 rw[UInt8.toNat_ofNat']
 simp only[IntKind.wrap,IntKind.bits,IntKind.signed]
 have h1:=Int.emod_nonneg n (show (256:Int)≠0 by omega)
 have h2:=Int.emod_lt_of_pos n (show (0:Int)<256 by omega)
 simp
 omega
def four(x:Int):List UInt8:=[fy (x.fdiv (2 ^ 24)),fy (x.fdiv (2 ^ 16)),fy (x.fdiv (2 ^ 8)),fy x]
theorem o8(x:Int):(four x).length=4:=rfl
def sumOf(p:List UInt8):Int:=iY (iY 0 (four p.length)) p
def dG(p:List UInt8):List UInt8:=four p.length++four (sumOf p)++p
theorem lk(p:List UInt8):(dG p).length=8+p.length:=by simp[dG,o8];omega
def gT(b:List UInt8):Nat:=((b.getD 0 0).toNat*16777216+(b.getD 1 0).toNat*65536)+(b.getD 2 0).toNat*256+(b.getD 3 0).toNat
def gN(b:List UInt8):Except Int (List UInt8 × Nat):=
 if b.length<8 then .error 2
 else if 1048576<gT b then .error 3
 else if b.length<8+gT b then .error 2
 else if four (sumOf ((b.drop 8).take (gT b)))≠(b.drop 4).take 4 then .error 4
 else .ok ((b.drop 8).take (gT b),8+gT b)
def oI:Nat->List UInt8->List (List UInt8) × Nat
 | 0,_=>([],0)
 | f+1,b=>match gN b with
  | .ok (p,n)=>(p::(oI f (b.drop n)).1,n+(oI f (b.drop n)).2)
  | .error _=>([],0)
theorem Rn(b:List UInt8):gT b<4294967296:=by
 unfold gT
 have h:∀i,(b.getD i 0).toNat<256:=λi=>UInt8.toNat_lt _
 have:=h 0;have:=h 1;have:=h 2;have:=h 3
 omega
theorem ta(n:Nat):(fy (n:Int)).toNat=n % 256:=by
 unfold fy
 rw[UInt8.toNat_ofNat']
 omega
theorem oY(n k:Nat)(hk:0<k):(n:Int).fdiv (k:Int)=((n / k:Nat):Int):=by
 rw[Int.fdiv_eq_ediv_of_nonneg _ (by omega)];exact (Int.natCast_ediv n k).symm
theorem awy(n:Nat)(r:List UInt8)(h:n<4294967296):gT (four n++r)=n:=by
 unfold gT four
 have e1:((n:Int).fdiv (2 ^ 24))=((n / 16777216:Nat):Int):=oY n 16777216 (by decide)
 have e2:((n:Int).fdiv (2 ^ 16))=((n / 65536:Nat):Int):=oY n 65536 (by decide)
 have e3:((n:Int).fdiv (2 ^ 8))=((n / 256:Nat):Int):=oY n 256 (by decide)
 rw[e1,e2,e3]
 simp only[List.cons_append,List.nil_append,List.getD_cons_zero,List.getD_cons_succ,ta]
 omega
theorem awz{b:List UInt8}{k:Nat}(h:4<=k):gT (b.take k)=gT b:=by
 unfold gT
 have e:∀i,i<4->(b.take k).getD i 0=b.getD i 0:=λi hi=>by
  rw[List.getD_eq_getElem?_getD,List.getD_eq_getElem?_getD,List.getElem?_take,if_pos (by omega)]
 rw[e 0 (by omega),e 1 (by omega),e 2 (by omega),e 3 (by omega)]
theorem aRu{p r:List UInt8}(h:p.length<=1048576):gT (dG p++r)=p.length:=by
 unfold dG
 rw[List.append_assoc,List.append_assoc]
 exact awy p.length _ (by omega)
theorem SO{p r:List UInt8}(h:p.length<=1048576):gN (dG p++r)= .ok (p,8+p.length):=by
 have hn:=aRu (r:=r) h
 have hl:(dG p++r).length=8+p.length+r.length:=by rw[List.length_append,lk]
 have Wh:((dG p++r).drop 8).take p.length=p:=by
  unfold dG
  rw[show (8:Nat)=(four p.length++four (sumOf p)).length by simp[o8],List.append_assoc (four (p.length:Int)++four (sumOf p)) p r,List.drop_left]
  exact List.take_left
 have Wf:((dG p++r).drop 4).take 4=four (sumOf p):=by
  unfold dG
  rw[List.append_assoc,List.append_assoc,show (4:Nat)=(four (p.length:Int)).length by simp[o8],List.drop_left,show (four (p.length:Int)).length=(four (sumOf p)).length from rfl]
  exact List.take_left
 unfold gN
 rw[hn,if_neg (by omega),if_neg (by omega),if_neg (by omega),Wh,Wf,if_neg (by simp)]
theorem SN:gN []= .error 2:=rfl
theorem CP{f:Nat}{b p:List UInt8}{n:Nat}(h:gN b= .ok (p,n)):oI (f+1) b=(p::(oI f (b.drop n)).1,n+(oI f (b.drop n)).2):=by simp only[oI,h]
theorem CO{f:Nat}{b:List UInt8}{e:Int}(h:gN b= .error e):oI (f+1) b=([],0):=by simp only[oI,h]
def jm(ps:List (List UInt8)):List UInt8:=(ps.map dG).flatten
theorem CG(p:List UInt8)(ps:List (List UInt8)):jm (p::ps)=dG p++jm ps:=by simp[jm]
theorem R0(ps:List (List UInt8))(p:List UInt8):jm (ps++[p])=jm ps++dG p:=by simp[jm]
theorem Sm:∀(ps:List (List UInt8)) (r:List UInt8) (f:Nat),(∀p∈ps,p.length<=1048576)->(∃e,gN r= .error e)->ps.length<f->oI f (jm ps++r)=(ps,(jm ps).length)
 | [],r,f+1,_,⟨e,he⟩,_=>by
  rw[show jm []++r=r from rfl,CO he];rfl
 | p::ps,r,f+1,hp,he,hf=>by
  have Xa:=hp p (.head _)
  have ih:=Sm ps r f (λq hq=>hp q (.tail _ hq)) he (Nat.lt_of_succ_lt_succ hf)
  rw[CG,List.append_assoc,CP (SO Xa),<- lk,List.drop_left,ih,List.length_append]
theorem u0{b p:List UInt8}{n:Nat}(h:gN b= .ok (p,n)):8<=n/\n<=b.length/\p.length<=1048576/\n=8+p.length/\p=(b.drop 8).take p.length:=by
 unfold gN at h
 split at h
 ·cases h
 ·split at h
  ·cases h
  ·split at h
   ·cases h
   ·split at h
    ·cases h
    ·rename_i h1 h2 h3 h4
     have h:=Except.ok.inj h
     generalize gT b=k at *
     cases h
     have:((b.drop 8).take k).length=k:=by rw[List.length_take,List.length_drop];omega
     exact⟨by omega,by omega,by omega,by omega,by rw[this]⟩
theorem CX{b:List UInt8}{e:Int}(h:gN b= .error e):e=2\/e=3\/e=4:=by
 unfold gN at h
 split at h
 ·cases h;simp
 ·split at h
  ·cases h;simp
  ·split at h
   ·cases h;simp
   ·split at h
    ·cases h;simp
    ·cases h
theorem Sl:∀(f g:Nat) (b:List UInt8),b.length<f->b.length<g->oI f b=oI g b
 | f+1,g+1,b,hf,hg=>by
  cases h:gN b with
  | error e=>rw[CO h,CO h]
  | ok x=>
   obtain⟨p,n⟩:=x
   have:=u0 h
   rw[CP h,CP h,Sl f g (b.drop n) (by rw[List.length_drop];omega) (by rw[List.length_drop];omega)]
def ic(b:List UInt8):List (List UInt8) × Nat:=oI (b.length+1) b
theorem CN{b p:List UInt8}{n:Nat}(h:gN b= .ok (p,n)):ic b=(p::(ic (b.drop n)).1,n+(ic (b.drop n)).2):=by
 have:=u0 h
 unfold ic
 rw[CP h,Sl b.length ((b.drop n).length+1) (b.drop n) (by rw[List.length_drop];omega) (by omega)]
theorem AN{b:List UInt8}{e:Int}(h:gN b= .error e):ic b=([],0):=CO h
theorem a7m(f:Nat):∀b:List UInt8,b.length<f->(ic b).2<=b.length:=by
 induction f with
 | zero=>intro b h;omega
 | succ f ih=>
  intro b hb
  cases h:gN b with
  | error e=>rw[AN h];exact Nat.zero_le _
  | ok x=>
   obtain⟨p,n⟩:=x
   have h2:=u0 h
   have:=ih (b.drop n) (by rw[List.length_drop];omega)
   rw[CN h]
   rw[List.length_drop]at this
   show n+_<=_
   omega
theorem RZ:∀ps:List (List UInt8),ps.length*8<=(jm ps).length
 | []=>by simp
 | p::ps=>by
  have:=RZ ps
  rw[CG,List.length_append,lk,List.length_cons]
  omega
theorem a7n(ps:List (List UInt8))(r:List UInt8)(hp:∀p∈ps,p.length<=1048576)(he:∃e,gN r= .error e):ic (jm ps++r)=(ps,(jm ps).length):=by
 refine Sm ps r _ hp he ?_
 have:=RZ ps
 rw[List.length_append];omega
structure dH where
 kind:Int
 n:Int
 s:ByteArray
def ep(x:dH):List Value:=[.int .i64 x.kind,.int .i64 x.n,.string x.s]
def pS:dH:=⟨0,0,⟨#[]⟩⟩
def dS(x:Int):Nat->List UInt8
 | 0=>[]
 | n+1=>fy (x.fdiv (2 ^ (8*n)))::dS x n
theorem i_(x:Int):∀n,(dS x n).length=n
 | 0=>rfl
 | n+1=>by simp[dS,i_ x n]
def jM(x:dH):Bool:=if x.kind=1 then decide (x.s=⟨#[]⟩) else if x.kind=2 then decide (x.n=0) && decide (x.s.size<=4096) else false
def nh(n:Int):Int:=n % 18446744073709551616
def eT(x:dH):List UInt8:=if x.kind=1 then fy x.kind::dS (nh x.n) 8 else fy x.kind::(dS x.s.size 2++x.s.data.toList)
def lC(l:List dH):Except Int (List UInt8):=if 32767<l.length then .error 1 else if l.all jM then .ok (dS l.length 2++(l.map eT).flatten) else .error 1
structure iJ where
 b:List UInt8
 e:Int
def gF(n:Nat)(r:iJ):List UInt8 × iJ:=if r.e≠0 then ([],r) else if r.b.length<n then ([],{r with e:=2}) else (r.b.take n,{r with b:=r.b.drop n})
def fu(b:List UInt8):Nat:=b.foldl (λx c=>(x*256+c.toNat) % 18446744073709551616) 0
def fL(n:Nat)(r:iJ):Nat × iJ:=(fu (gF n r).1,(gF n r).2)
def gf(m:Nat)(r:iJ):Nat × iJ:=if m<(fL 2 r).1 then (0,{(fL 2 r).2 with e:=3}) else fL 2 r
def sig(n:Nat):Int:=if n<9223372036854775808 then n else (n:Int)-18446744073709551616
def gI(r:iJ):dH × iJ:=
 if (fL 1 r).1=1 then (⟨1,sig (fL 8 (fL 1 r).2).1,⟨#[]⟩⟩,(fL 8 (fL 1 r).2).2)
 else if (fL 1 r).1=2 then (⟨2,0,⟨(gF (gf 4096 (fL 1 r).2).1 (gf 4096 (fL 1 r).2).2).1.toArray⟩⟩,(gF (gf 4096 (fL 1 r).2).1 (gf 4096 (fL 1 r).2).2).2)
 else (pS,if (fL 1 r).2.e=0 then {(fL 1 r).2 with e:=3} else (fL 1 r).2)
def gJ:Nat->iJ->List dH × iJ
 | 0,r=>([],r)
 | i+1,r=>if r.e=0 then ((gI r).1::(gJ i (gI r).2).1,(gJ i (gI r).2).2) else ([],r)
def h_(b:List UInt8):Except Int (List dH):=
 let m:=gf 32767 ⟨b,0⟩
 let x:=gJ m.1 m.2
 let e:=if x.2.e=0 then if 0<x.2.b.length then 3 else 0 else x.2.e
 if e=0 then .ok x.1 else .error e
def fw(n:Nat):List UInt8:=[0,1,1]++dS n 8
theorem rR(n:Nat):(fw n).length=11:=by simp[fw,i_]
theorem Ub(x:Nat)(b:List UInt8)(c:UInt8)(h:fu b=x):fu (b++[c])=(x*256+c.toNat) % 18446744073709551616:=by
 unfold fu at *
 rw[List.foldl_append,h];rfl
theorem Rr{n:Nat}(h:n<1152921504606846976):fu (dS n 8)=n:=by
 have f:∀k,((n:Int).fdiv (2 ^ (8*k)))=((n / 2 ^ (8*k):Nat):Int):=λk=>by
  have:=oY n (2 ^ (8*k)) (Nat.two_pow_pos _)
  rw[<- this];push_cast;rfl
 unfold dS dS dS dS dS dS dS dS dS
 simp only[f,fu,List.foldl_cons,List.foldl_nil,ta,show (2:Nat) ^ (8*7)=72057594037927936 from rfl,show (2:Nat) ^ (8*6)=281474976710656 from rfl,show (2:Nat) ^ (8*5)=1099511627776 from rfl,
  show (2:Nat) ^ (8*4)=4294967296 from rfl,show (2:Nat) ^ (8*3)=16777216 from rfl,show (2:Nat) ^ (8*2)=65536 from rfl,show (2:Nat) ^ (8*1)=256 from rfl,show (2:Nat) ^ (8*0)=1 from rfl]
 omega
theorem aws{x y:List UInt8}{n:Nat}(h:x.length=n):gF n ⟨x++y,0⟩=(x,⟨y,0⟩):=by
 subst h
 unfold gF
 rw[if_neg (by simp),if_neg (by simp)]
 simp
theorem Gk{x y:List UInt8}{n:Nat}(h:x.length=n):fL n ⟨x++y,0⟩=(fu x,⟨y,0⟩):=by
 unfold fL;rw[aws h]
theorem UP{n:Nat}(h:n<1152921504606846976):h_ (fw n)= .ok [⟨1,n,⟨#[]⟩⟩]:=by
 have h8:=Rr h
 have hl:=i_ (n:Int) 8
 unfold fw
 generalize dS (n:Int) 8=y at *
 have e1:gf 32767 ⟨[0,1,1]++y,0⟩=(1,⟨[1]++y,0⟩):=by
  have:fL 2 ⟨[0,1]++([1]++y),0⟩=(1,⟨[1]++y,0⟩):=Gk rfl
  unfold gf
  rw[show ([0,1,1]++y:List UInt8)=[0,1]++([1]++y) from rfl,this,if_neg (by show ¬32767<1;omega)]
 have e3:fL 1 ⟨[1]++y,0⟩=(1,⟨y,0⟩):=Gk rfl
 have e4:fL 8 ⟨y,0⟩=(n,⟨[],0⟩):=by
  have:=Gk (x:=y) (y:=[]) hl
  rw[List.append_nil,h8]at this;exact this
 have e2:gI ⟨[1]++y,0⟩=(⟨1,n,⟨#[]⟩⟩,⟨[],0⟩):=by
  unfold gI
  rw[e3,if_pos rfl,e4,sig,if_pos (by omega)]
 have e5:gJ 1 ⟨[1]++y,0⟩=([⟨1,n,⟨#[]⟩⟩],⟨[],0⟩):=by
  show (if (0:Int)=0 then _ else _)=_
  rw[if_pos rfl,e2];rfl
 unfold h_
 simp only[e1,e5]
 rfl
def vO(l:List dH):Option Int:=match l with
 | [f]=>if f.kind=1/\1<=f.n/\f.n<=1099511627776 then some f.n else none
 | _=>none
def l6(b:List UInt8):Option Int:=match h_ b with
 | .ok l=>vO l
 | .error _=>none
theorem Wj{n:Nat}(h1:1<=n)(h:n<=1099511627776):l6 (fw n)=some (n:Int):=by
 unfold l6
 rw[UP (by omega)]
 show (if (1:Int)=1/\1<=(n:Int)/\(n:Int)<=1099511627776 then some (n:Int) else none)=_
 rw[if_pos ⟨rfl,by omega,by omega⟩]
def fp(q:List UInt8):Option (Int × List (List UInt8) × Nat):=match (ic q).1 with
 | []=>none
 | h::l=>(l6 h).map λn=>(n,l,(ic q).2)
theorem Ro(x:Int):dS x 4=four x:=by
 have e:x.fdiv (2 ^ (8*0))=x:=by
  show x.fdiv 1=x
  rw[Int.fdiv_eq_ediv_of_nonneg _ (by decide),Int.ediv_one]
 unfold dS dS dS dS dS four
 rw[e]
theorem Cq(c:UInt8)(n:Nat)(h:n % 256=c.toNat):fy (n:Int)=c:=by
 have:=ta n
 rw[h]at this
 exact UInt8.toNat_inj.1 this
theorem DJ(a b c d:UInt8):fu [a,b,c,d]=((a.toNat*16777216+b.toNat*65536)+c.toNat*256)+d.toNat:=by
 have:=a.toNat_lt;have:=b.toNat_lt;have:=c.toNat_lt;have:=d.toNat_lt
 simp only[fu,List.foldl_cons,List.foldl_nil]
 omega
theorem PM{l:List UInt8}(h:l.length=4):∃a b c d,l=[a,b,c,d]:=by
 match l,h with
 | [a,b,c,d],_=>exact⟨a,b,c,d,rfl⟩
theorem Nv{l:List UInt8}(h:l.length=4):four (fu l:Nat)=l:=by
 obtain⟨a,b,c,d,rfl⟩:=PM h
 rw[DJ]
 have:=a.toNat_lt;have:=b.toNat_lt;have:=c.toNat_lt;have:=d.toNat_lt
 generalize hn:((a.toNat*16777216+b.toNat*65536)+c.toNat*256)+d.toNat=n
 unfold four
 have e1:((n:Int).fdiv (2 ^ 24))=((n / 16777216:Nat):Int):=oY n 16777216 (by decide)
 have e2:((n:Int).fdiv (2 ^ 16))=((n / 65536:Nat):Int):=oY n 65536 (by decide)
 have e3:((n:Int).fdiv (2 ^ 8))=((n / 256:Nat):Int):=oY n 256 (by decide)
 rw[e1,e2,e3,Cq a _ (by omega),Cq b _ (by omega),Cq c _ (by omega),Cq d _ (by omega)]
theorem Uc{n:Nat}(h:n<4294967296):fu (four n)=n:=by
 have e1:((n:Int).fdiv (2 ^ 24))=((n / 16777216:Nat):Int):=oY n 16777216 (by decide)
 have e2:((n:Int).fdiv (2 ^ 16))=((n / 65536:Nat):Int):=oY n 65536 (by decide)
 have e3:((n:Int).fdiv (2 ^ 8))=((n / 256:Nat):Int):=oY n 256 (by decide)
 unfold four
 rw[e1,e2,e3,DJ,ta,ta,ta,ta]
 omega
theorem L_{q:List UInt8}(h:4<=q.length):fu (q.take 4)=gT q:=by
 obtain⟨a,b,c,d,e⟩:=PM (l:=q.take 4) (by rw[List.length_take];omega)
 have h2:gT q=gT (q.take 4):=(awz (Nat.le_refl 4)).symm
 rw[h2,e,DJ]
 rfl
theorem b68(n:Int):0<=IntKind.u32.wrap n/\IntKind.u32.wrap n<4294967296:=by
 simp only[IntKind.wrap,IntKind.bits,IntKind.signed]
 simp
 omega
theorem Gd(s:Int)(b:List UInt8):0<=iY s b/\iY s b<4294967296:=b68 _
theorem a79{q p:List UInt8}(h:8<=q.length)(hp:p.length=gT q):decide (¬iY (iY 0 (q.take 4)) p=((fu ((q.drop 4).take 4):Nat):Int))=decide (four (sumOf p)≠(q.drop 4).take 4):=by
 have h1:(q.take 4).length=4:=by rw[List.length_take];omega
 have h2:((q.drop 4).take 4).length=4:=by rw[List.length_take,List.length_drop];omega
 have e1:q.take 4=four (p.length:Nat):=by rw[hp,<- L_ (by omega),Nv h1]
 have e2:iY (iY 0 (q.take 4)) p=sumOf p:=by rw[e1];rfl
 have hr:=Gd (iY 0 (four (p.length:Nat))) p
 have hs:sumOf p=iY (iY 0 (four (p.length:Nat))) p:=rfl
 rw[<- hs]at hr
 rw[e2]
 congr 1
 refine propext (not_congr ⟨λh=>?_,λh=>?_⟩)
 ·rw[h,Nv h2]
 ·rw[<- h]
  obtain⟨n,hn⟩:∃n:Nat,sumOf p=(n:Int):=⟨(sumOf p).toNat,by omega⟩
  rw[hn,Uc (by omega)]
def lB(l:List dH)(i:Nat)(r:iJ):Except Int (List dH):=
 if (gJ i r).2.e=0 then (if 0<(gJ i r).2.b.length then .error 3 else .ok (l++(gJ i r).1)) else .error (gJ i r).2.e
theorem Vv:∀(i:Nat) (r:iJ),r.e≠0->gJ i r=([],r)
 | 0,r,_=>rfl
 | i+1,r,h=>by rw[gJ,if_neg h]
theorem vx{l:List dH}{i:Nat}{r:iJ}(h:r.e≠0):lB l i r= .error r.e:=by
 unfold lB
 rw[Vv i r h,if_neg h]
theorem MC(l:List dH)(b:List UInt8):lB l 0 ⟨b,0⟩=if 0<b.length then .error 3 else .ok l:=by
 unfold lB gJ
 rw[if_pos rfl,List.append_nil]
theorem Bm(l:List dH)(i:Nat)(b:List UInt8):lB l (i+1) ⟨b,0⟩=lB (l++[(gI ⟨b,0⟩).1]) i (gI ⟨b,0⟩).2:=by
 unfold lB
 have e:gJ (i+1) ⟨b,0⟩=((gI ⟨b,0⟩).1::(gJ i (gI ⟨b,0⟩).2).1,(gJ i (gI ⟨b,0⟩).2).2):=by rw[gJ,if_pos rfl]
 rw[e]
 simp only[List.append_assoc,List.cons_append,List.nil_append]
theorem Ri{b:List UInt8}{n:Nat}(h:n<=b.length):gF n ⟨b,0⟩=(b.take n,⟨b.drop n,0⟩):=by
 unfold gF
 rw[if_neg (by simp),if_neg (by show ¬b.length<n;omega)]
theorem Rj{b:List UInt8}{n:Nat}(h:b.length<n):gF n ⟨b,0⟩=([],⟨b,2⟩):=by
 unfold gF
 rw[if_neg (by simp),if_pos (by show b.length<n;omega)]
theorem wq{b:List UInt8}{n:Nat}(h:n<=b.length):fL n ⟨b,0⟩=(fu (b.take n),⟨b.drop n,0⟩):=by unfold fL;rw[Ri h]
theorem CA{b:List UInt8}{n:Nat}(h:b.length<n):fL n ⟨b,0⟩=(0,⟨b,2⟩):=by unfold fL;rw[Rj h];rfl
theorem UQ{b:List UInt8}(h:b.length<2):h_ b= .error 2:=by
 have e:gf 32767 ⟨b,0⟩=(0,⟨b,2⟩):=by unfold gf;rw[CA h,if_neg (by simp)]
 unfold h_
 simp only[e]
 rfl
theorem UO{b:List UInt8}(h:2<=b.length)(hn:32767<fu (b.take 2)):h_ b= .error 3:=by
 have e:gf 32767 ⟨b,0⟩=(0,⟨b.drop 2,3⟩):=by unfold gf;rw[wq h,if_pos hn]
 unfold h_
 simp only[e]
 rfl
theorem Mx{b:List UInt8}(h:2<=b.length)(hn:fu (b.take 2)<=32767):h_ b=lB [] (fu (b.take 2)) ⟨b.drop 2,0⟩:=by
 have e:gf 32767 ⟨b,0⟩=(fu (b.take 2),⟨b.drop 2,0⟩):=by unfold gf;rw[wq h,if_neg (by show ¬32767<fu (b.take 2);omega)]
 unfold h_ lB
 simp only[e,List.nil_append]
 by_cases h1:(gJ (fu (b.take 2)) ⟨b.drop 2,0⟩).2.e=0
 ·rw[if_pos h1,if_pos h1]
  by_cases h2:0<(gJ (fu (b.take 2)) ⟨b.drop 2,0⟩).2.b.length
  ·rw[if_pos h2,if_pos h2,if_neg (by decide)]
  ·rw[if_neg h2,if_neg h2,if_pos rfl]
 ·rw[if_neg h1,if_neg h1,if_neg h1]
theorem US(l:List dH)(i:Nat):lB l (i+1) ⟨[],0⟩= .error 2:=by
 have e:gI ⟨[],0⟩=(pS,⟨[],2⟩):=by
  unfold gI
  rw[CA (n:=1) (b:=[]) (by decide)]
  rfl
 rw[Bm,e,vx (by decide)]
theorem Gj(k:UInt8)(b:List UInt8):fL 1 ⟨k::b,0⟩=(k.toNat,⟨b,0⟩):=by
 rw[wq (by simp)]
 have:=k.toNat_lt
 simp only[List.take_succ_cons,List.take_zero,List.drop_succ_cons,List.drop_zero,fu,List.foldl_cons,List.foldl_nil]
 rw[show (0*256+k.toNat) % 18446744073709551616=k.toNat by omega]
theorem MA{l:List dH}{i:Nat}{k:UInt8}{b:List UInt8}(hk:k.toNat=1):lB l (i+1) ⟨k::b,0⟩=if b.length<8 then .error 2 else lB (l++[⟨1,sig (fu (b.take 8)),⟨#[]⟩⟩]) i ⟨b.drop 8,0⟩:=by
 rw[Bm]
 unfold gI
 rw[Gj,if_pos hk]
 by_cases h:b.length<8
 ·simp only[CA h]
  rw[if_pos h,vx (by simp)]
 ·simp only[wq (Nat.not_lt.1 h)]
  rw[if_neg h]
theorem MB{l:List dH}{i:Nat}{k:UInt8}{b:List UInt8}(hk:k.toNat=2):lB l (i+1) ⟨k::b,0⟩=if b.length<2 then .error 2 else if 4096<fu (b.take 2) then .error 3 else if b.length-2<fu (b.take 2) then .error 2 else
  lB (l++[⟨2,0,⟨((b.drop 2).take (fu (b.take 2))).toArray⟩⟩]) i ⟨(b.drop 2).drop (fu (b.take 2)),0⟩:=by
 rw[Bm]
 unfold gI
 rw[Gj,if_neg (by omega),if_pos hk]
 by_cases h:b.length<2
 ·have e:gf 4096 ⟨b,0⟩=(0,⟨b,2⟩):=by unfold gf;rw[CA h,if_neg (by simp)]
  have e2:gF 0 ⟨b,2⟩=([],⟨b,2⟩):=by unfold gF;rw[if_pos (by simp)]
  simp only[e,e2]
  rw[if_pos h,vx (by simp)]
 ·rw[if_neg h]
  by_cases h2:4096<fu (b.take 2)
  ·have e:gf 4096 ⟨b,0⟩=(0,⟨b.drop 2,3⟩):=by unfold gf;rw[wq (Nat.not_lt.1 h),if_pos h2]
   have e2:gF 0 ⟨b.drop 2,3⟩=([],⟨b.drop 2,3⟩):=by unfold gF;rw[if_pos (by simp)]
   simp only[e,e2]
   rw[if_pos h2,vx (by simp)]
  ·have e:gf 4096 ⟨b,0⟩=(fu (b.take 2),⟨b.drop 2,0⟩):=by unfold gf;rw[wq (Nat.not_lt.1 h),if_neg h2]
   simp only[e]
   rw[if_neg h2]
   by_cases h3:b.length-2<fu (b.take 2)
   ·rw[Rj (by rw[List.length_drop];exact h3),if_pos h3,vx (by simp)]
   ·rw[Ri (by rw[List.length_drop];omega),if_neg h3]
theorem UR{l:List dH}{i:Nat}{k:UInt8}{b:List UInt8}(h1:k.toNat≠1)(h2:k.toNat≠2):lB l (i+1) ⟨k::b,0⟩= .error 3:=by
 rw[Bm]
 unfold gI
 rw[Gj,if_neg h1,if_neg h2]
 simp only[if_true]
 rw[vx (by simp)]
set_option maxRecDepth 100000
abbrev SP := Spec Tryz.prog
def md(v:Int)(n:Nat):Nat:=((IntKind.u64.wrap v) % (n:Int)).toNat
theorem F7(v:Int)(n:Nat)(hn:0<n):md v n<n:=by
 unfold md
 have h1:=Int.emod_nonneg (IntKind.u64.wrap v) (show (n:Int)≠0 by omega)
 have h2:=Int.emod_lt_of_pos (IntKind.u64.wrap v) (show (0:Int)<n by omega)
 omega
theorem ZX(v:Int)(n:Nat)(h1:0<n)(h2:n<=9223372036854775807):SP 16 [.int .i64 v,.int .i64 (n:Int)] [] (dj (.int .i64 (md v n:Int)) []):=by
 intro W F w hS;apply bFq;unfold ID;(try simp only[app]at hS)
 have hn:IntKind.u64.wrap (n:Int)=n:=by rw[IntKind.wrap_u64];omega
 have hv:0<=IntKind.u64.wrap v:=by rw[IntKind.wrap_u64];omega
 refine zM (zM ?_)
 rw[hn]
 refine Se (by omega) ?_
 have e:(IntKind.u64.wrap v).tmod (n:Int)=(md v n:Int):=by
  rw[Int.tmod_eq_emod_of_nonneg hv];unfold md
  have:=Int.emod_nonneg (IntKind.u64.wrap v) (show (n:Int)≠0 by omega)
  omega
 rw[e]
 have:=F7 v n h1
 refine yx (by omega) ?_
 (exact dq hS)
structure Rq where
 id:Int
 table:Int
 weight:Int
 at_:Int
 dL:Int
 chunks:Int
 done:Bool
deriving DecidableEq
def gX(r:Rq):List Value:=[.int .i64 r.id,.int .i64 r.table,.int .i64 r.weight,.int .i64 r.at_,.int .i64 r.dL,.int .i64 r.chunks,.bool r.done]
theorem jS(r:Rq):(gX r).length=7:=rfl
theorem vC(r:Rq):∀v∈gX r,v.oneCell'=true:=by simp[gX,Value.oneCell']
abbrev kz(H:aW)(v:Value)(L:List Rq):Prop:=dy H 7 v L.length (L.map gX).flatten
def Md(late t:Int):Int:=IntKind.i64.wrap ((BitVec.ofInt IntKind.i64.bits (late.fdiv (2 ^ (min t.toNat IntKind.i64.bits))) &&& BitVec.ofInt IntKind.i64.bits 1).toNat)
theorem aWd{k:IntKind}{a b:Int}{K:Value->Prop}(hb:0<=b)(h:K (.int .i64 (Md a b))):zc .shr (.int .i64 a) (.int k b) λv=>zc .and v (.int .i64 1) K:=by
 refine⟨.int .i64 (a.fdiv (2 ^ (min b.toNat IntKind.i64.bits))),?_,⟨_,?_,h⟩⟩
 ·simp only[jk];rw[if_neg (by omega)]
 ·simp only[jk,if_true];rfl
structure rA where
 kind:Int
 id:Int
 table:Int
 weight:Int
 at_:Int
 dL:Int
 done:Bool
deriving DecidableEq
structure oM where
 aI:Int
 ops:List mf
 notes:List rA
def tY(n:rA):List Value:=[.int .i64 n.kind,.int .i64 n.id,.int .i64 n.table,.int .i64 n.weight,.int .i64 n.at_,.int .i64 n.dL,.bool n.done]
theorem M1(n:rA):(tY n).length=7:=rfl
def emp:ByteArray:=⟨#[]⟩
def iF(n:Int):dH:=⟨1,n,emp⟩
def tF(s:ByteArray):dH:=⟨2,0,s⟩
def nt(b:Bool):Int:=if b=true then 1 else 0
structure cw where
 l:List dH
 bad:Bool
def ld(k:Int)(r:cw):dH × cw:=match r.bad,r.l with
 | false,f::l=>if f.kind=k then (f,⟨l,false⟩) else (pS,⟨f::l,true⟩)
 | _,l=>(pS,⟨l,true⟩)
def fR(r:cw):Int × cw:=((ld 1 r).1.n,(ld 1 r).2)
def eQ(r:cw):ByteArray × cw:=((ld 2 r).1.s,(ld 2 r).2)
def ed(m:Int)(r:cw):Int × cw:=if (fR r).1<0\/m<(fR r).1 then (0,{(fR r).2 with bad:=true}) else fR r
def mL(r:cw):Bool × cw:=(decide ((ed 1 r).1=1),(ed 1 r).2)
def eE{α:Type}(one:cw->α × cw):Nat->cw->List α × cw
 | 0,r=>([],r)
 | i+1,r=>if r.bad=true then ([],r) else ((one r).1::(eE one i (one r).2).1,(eE one i (one r).2).2)
def rl(i:Nat)(r:Rq):Prop:=r.id=(i:Int)+1/\0<=r.table/\r.table<8/\1<=r.weight/\r.weight<=8/\1<=r.at_/\r.at_<=1099511627776/\0<=r.dL/\r.dL<=1099511627776/\0<=r.chunks/\r.chunks<=1099511627776
def sC(L:List Rq)(i:Nat):Prop:=∀h:i<L.length,rl i L[i]/\(∀h0:0<i,L[i-1].at_<=L[i].at_)/\∀k (hk:k<i),¬(L[k].table=L[i].table/\L[k].done=false)
def gn(L:List Rq):Prop:=L.length<=64/\∀i,sC L i
instance (i:Nat) (r:Rq):Decidable (rl i r):=by unfold rl;infer_instance
theorem gn.fin{L:List Rq}:gn L↔L.length<=64/\∀i:Fin L.length,rl i.1 L[i.1]/\(0<i.1->(L[i.1-1]'(by omega)).at_<=L[i.1].at_)/\∀k:Fin i.1,¬((L[k.1]'(by omega)).table=L[i.1].table/\(L[k.1]'(by omega)).done=false):=
 ⟨λh=>⟨h.1,λi=>⟨(h.2 i.1 i.2).1,(h.2 i.1 i.2).2.1,λk=>(h.2 i.1 i.2).2.2 k.1 k.2⟩⟩,
  λh=>⟨h.1,λi hi=>⟨(h.2 ⟨i,hi⟩).1,(h.2 ⟨i,hi⟩).2.1,λk hk=>(h.2 ⟨i,hi⟩).2.2 ⟨k,hk⟩⟩⟩⟩
instance (L:List Rq):Decidable (gn L):=decidable_of_iff _ gn.fin.symm
theorem aR6(L:List Rq):∀v∈(L.map gX).flatten,v.oneCell'=true:=m_ vC L
def AE(L:List Rq)(t w a:Int):Rq:=⟨((L.length+1:Nat):Int),t,w,a,0,0,false⟩
def nZ(L:List Rq)(t w a:Int):Option (List Rq):=if gn L/\gn (L++[AE L t w a]) then some (L++[AE L t w a]) else none
def ml(L:List Rq)(id c:Int)(dn:Bool):Option (List Rq):=
 if gn L/\1<=id/\id<=L.length then match L[(id-1).toNat]? with
  | some r=>if r.done=true\/c<r.dL\/1099511627776<c\/1099511627776<=r.chunks then none else some (L.set (id-1).toNat {r with dL:=c,chunks:=r.chunks+1,done:=dn})
  | none=>none
 else none
theorem Mp{L:List Rq}(hM:gn L){j:Nat}(hj:j<L.length)(c:Int)(dn:Bool):ml L ((j+1:Nat):Int) c dn =
  if L[j].done=true\/c<L[j].dL\/1099511627776<c\/1099511627776<=L[j].chunks then none else some (L.set j {L[j] with dL:=c,chunks:=L[j].chunks+1,done:=dn}):=by
 unfold ml
 have e:(((j+1:Nat):Int)-1).toNat=j:=by omega
 rw[if_pos ⟨hM,by omega,by omega⟩,e,List.getElem?_eq_getElem hj]
theorem Uz{L:List Rq}{id c:Int}{dn:Bool}(h:¬(gn L/\1<=id/\id<=L.length)):ml L id c dn=none:=if_neg h
theorem LI{L L':List Rq}{t w a:Int}(h:nZ L t w a=some L'):gn L':=by
 unfold nZ at h
 split at h
 ·rename_i hm;cases h;exact hm.2
 ·cases h
theorem Uy{L L':List Rq}{id c:Int}{dn:Bool}(h:ml L id c dn=some L'):gn L':=by
 unfold ml at h
 split at h
 ·rename_i hm
  obtain⟨hM,h1,h2⟩:=hm
  split at h
  ·rename_i r hr
   split at h
   ·cases h
   ·rename_i hc
    cases h
    generalize (id-1).toNat=j at *
    obtain⟨hj,hr⟩:=List.getElem?_eq_some_iff.1 hr
    refine⟨by rw[List.length_set];exact hM.1,λi hi=>?_⟩
    rw[List.length_set]at hi
    have fD:∀k (hk:k<L.length),((L.set j {r with dL:=c,chunks:=r.chunks+1,done:=dn})[k]'(by rw[List.length_set];exact hk)).at_=L[k].at_/\((L.set j {r with dL:=c,chunks:=r.chunks+1,done:=dn})[k]'(by rw[List.length_set];exact hk)).table=L[k].table:=λk hk=>by
     rw[List.getElem_set];split
     ·rename_i e;subst e;rw[hr];exact⟨rfl,rfl⟩
     ·exact⟨rfl,rfl⟩
    obtain⟨k1,k2,k3⟩:=hM.2 i hi
    refine⟨?_,λh0=>?_,λk hk=>?_⟩
    ·rw[List.getElem_set];split
     ·rename_i e;subst e
      rw[hr]at k1
      unfold rl at k1 ⊢
      simp only
      omega
     ·exact k1
    ·rw[(fD (i-1) (by omega)).1,(fD i hi).1];exact k2 h0
    ·rw[(fD k (by omega)).2,(fD i hi).2]
     rintro ⟨e1,e2⟩
     rw[List.getElem_set]at e2
     split at e2
     ·rename_i e;subst e
      refine k3 j hk ⟨e1,?_⟩
      rw[hr]
      cases hd:r.done with
      | false=>rfl
      | true=>exact absurd (.inl hd) hc
     ·exact k3 k hk ⟨e1,e2⟩
  ·cases h
 ·cases h
def dC(v:Value)(t:TypeId)(sz n:Nat)(cells:List Value):zC:=jQ λx:Option (Nat × List Value × Nat × List Value)=>match x with
 | none=>zP ((∃a,v= .slice a 0 0)/\n=0/\cells=[]) []
 | some (b,pre,cap,rest)=>zP (v= .slice (some ⟨b,pre.length,none⟩) n cap/\n<=cap/\cells.length=n*sz/\rest.length=(cap-n)*sz) [.pt b (pre++(cells++rest)) t]
section
variable {W w:World} {l:List Chunk} {v:Value} {t:TypeId} {sz n:Nat} {cells:List Value}
theorem dC.open(h:SL W (.ob (dC v t sz n cells)::l) w):
  ((∃a,v= .slice a 0 0)/\n=0/\cells=[]/\SL W l w)\/∃b pre cap rest,v= .slice (some ⟨b,pre.length,none⟩) n cap/\n<=cap/\cells.length=n*sz/\rest.length=(cap-n)*sz/\SL W (.pt b (pre++(cells++rest)) t::l) w:=by
 unfold dC at h
 obtain⟨x,h⟩:=SL.ex.1 h
 match x,h with
 | none,h=>
  obtain⟨⟨h1,h2,h3⟩,h⟩:=SL.fact.1 h
  exact .inl ⟨h1,h2,h3,h⟩
 | some (b,pre,cap,rest),h=>
  obtain⟨⟨h1,h2,h3,h4⟩,h⟩:=SL.fact.1 h
  exact .inr ⟨b,pre,cap,rest,h1,h2,h3,h4,h⟩
theorem dC.nK{a:Option Addr}(h:SL W l w):SL W (.ob (dC (.slice a 0 0) t sz 0 [])::l) w:=by
 unfold dC
 exact SL.ex.2 ⟨none,SL.fact.2 ⟨⟨⟨_,rfl⟩,rfl,rfl⟩,h⟩⟩
theorem dC.mk{b cap o:Nat}{pre rest:List Value}(h1:n<=cap)(h2:cells.length=n*sz)(h3:rest.length=(cap-n)*sz)(ho:pre.length=o)(h:SL W (.pt b (pre++(cells++rest)) t::l) w):
  SL W (.ob (dC (.slice (some ⟨b,o,none⟩) n cap) t sz n cells)::l) w:=by
 subst ho
 unfold dC
 exact SL.ex.2 ⟨some (b,pre,cap,rest),SL.fact.2 ⟨⟨rfl,h1,h2,h3⟩,h⟩⟩
theorem dC.of(h:SL W (.ob (a7 v t sz n cells)::l) w):SL W (.ob (dC v t sz n cells)::l) w:=by
 rcases a7.open h with ⟨⟨a,rfl⟩,rfl,rfl,hS⟩|⟨b,cap,rest,rfl,hc,hl,hr,hS⟩
 ·exact dC.nK hS
 ·exact dC.mk (pre:=[]) hc hl hr rfl (by simpa using hS)
theorem dC.at(h:SL W l w)(m:Has (.ob (dC v t sz n cells)) l):∃a cap,v= .slice a n cap/\n<=cap/\cells.length=n*sz:=by
 obtain⟨l2,r⟩:=m.rem
 rcases dC.open (h.perm r.perm) with ⟨⟨a,rfl⟩,rfl,rfl,_⟩|⟨b,pre,cap,rest,rfl,hc,hl,_⟩
 ·exact⟨a,0,rfl,Nat.le_refl _,by simp⟩
 ·exact⟨_,cap,rfl,hc,hl⟩
theorem dC.one(h:SL W l w)(m:Has (.ob (dC v t sz n cells)) l):v.oneCell'=true:=by
 obtain⟨a,cap,rfl,_⟩:=dC.at h m;rfl
theorem zT{K:Value->Prop}(h:SL W l w)(m:Has (.ob (dC v t sz n cells)) l)(k:K (.int .i64 n)):zd v K:=by
 obtain⟨a,cap,rfl,_⟩:=dC.at h m
 exact yk k
theorem yC{j:Nat}{k:IntKind}{K:Value->Prop}(h:SL W l w)(m:Has (.ob (dC v t sz n cells)) l)(hj:j<n)
  (hK:∀b o,(∀i u,i<sz->cells[j*sz+i]?=some u->w.cell? ⟨b,o+i,none⟩=some u)->K (.pointer (some ⟨b,o,none⟩))):zh sz v (.int k (j:Int)) K:=by
 obtain⟨l2,r⟩:=m.rem
 rcases dC.open (h.perm r.perm) with ⟨⟨a,rfl⟩,rfl,rfl,_⟩|⟨b,pre,cap,rest,rfl,hc,hl,hr,hS⟩
 ·omega
 ·refine zB hj (hK b (pre.length+j*sz) λi u hi hu=>hS.cell .hd ?_)
  rw[Nat.add_assoc,List.getElem?_append_right (by omega),Nat.add_sub_cancel_left,List.getElem?_append_left (List.getElem?_eq_some_iff.1 hu).1]
  exact hu
theorem Qi{k:Nat}{kk:IntKind}{K:Value->Prop}(hS:SL W (.ob (dC v t sz n cells)::l) w)(hk:k<=n)(hK:∀u,SL W (.ob (dC u t sz (n-k) (cells.drop (k*sz)))::l) w->K u):eG sz v (some (.int kk (k:Int))) none none K:=by
 rcases dC.open hS with ⟨⟨a,rfl⟩,rfl,rfl,gx⟩|⟨b,pre,cap,rest,rfl,hc,hl,hr,gx⟩
 ·obtain rfl:k=0:=by omega
  refine⟨a,0,0,0,0,0,rfl,rfl,rfl,⟨kk,rfl⟩,Nat.le_refl _,Nat.le_refl _,Nat.le_refl _,?_⟩
  rw[if_pos rfl]
  exact hK _ (by simpa using dC.nK (t:=t) (sz:=sz) (a:=a) gx)
 ·refine⟨_,n,cap,k,n,cap,rfl,rfl,rfl,⟨kk,rfl⟩,hk,hc,Nat.le_refl _,hK _ ?_⟩
  by_cases e:cap=k
  ·obtain rfl:n=k:=by omega
   rw[if_pos e,Nat.sub_self,show cap-n=0 by omega,List.drop_eq_nil_of_le (by omega)]
   exact dC.nK gx.drop
  ·rw[if_neg e]
   have dZ:k*sz<=cells.length:=by rw[hl];exact Nat.mul_le_mul_right _ hk
   have e1:(some (⟨b,pre.length,none⟩:Addr)).map (·.add (k*sz))=some ⟨b,pre.length+k*sz,none⟩:=by simp[Addr.add_lit]
   rw[e1]
   refine dC.mk (pre:=pre++cells.take (k*sz)) (rest:=rest) (by omega) (by rw[List.length_drop,hl,Nat.mul_sub_right_distrib]) (by rw[hr];congr 1;omega) (by rw[List.length_append,List.length_take];omega) ?_
   rw[List.append_assoc,<- List.append_assoc (cells.take (k*sz)),List.take_append_drop]
   exact gx
theorem y7{x y:Value}{iC m:Nat}{z cs:List Value}{F:List Chunk}{K:Value->World->Prop}(hS:SL W l w)(hr:gB (.ob (dC x t sz n cells)) l F)(g7:jy w sz y m cs)
  (hl:cs.length=m*sz) (hz:z.length=sz) (h1:∀v∈cs,v.oneCell'=true) (hb:(n+m)*iC<=140737488355328) (hn:n+m<=140737488355328)
  (h:∀v' w',SL W (.ob (dC v' t sz (n+m) (cells++cs))::F) w'->K v' w'):zt sz iC z t x y w K:=by
 rcases dC.open (hS.perm hr.perm) with ⟨⟨a,rfl⟩,rfl,rfl,gx⟩|⟨b,pre,cap,rest,rfl,hc,hlen,jW,gx⟩
 ·refine⟨a,0,0,m,cs,rfl,g7,hb,hn,λh0=>?_,λh0=>⟨[],(by cases a with|none=>exact⟨rfl,rfl⟩|some p=>exact⟨rfl,by simp,λj v e=>by simp at e⟩),λc fW jl=>?_⟩⟩
  ·have hm:m=0:=by omega
   subst hm
   have:cs=[]:=List.eq_nil_of_length_eq_zero (by simpa using hl)
   subst this
   cases a with
   | none=>exact h _ _ (dC.nK gx)
   | some p=>exact h _ _ (dC.nK gx)
  ·refine h _ _ ?_
   have:=dC.mk (sz:=sz) (n:=0+m) (cells:=cs) (pre:=[]) (rest:=db z (c-(0+m))) (cap:=c) fW (by simpa using hl) (by rw[ku,hz]) rfl (SL.new (cs:=[]++(cs++db z (c-(0+m)))) (t:=t) (gx.drew))
   simpa using this
 ·refine⟨some ⟨b,pre.length,none⟩,n,cap,m,cs,rfl,g7,hb,hn,λh0=>?_,λh0=>?_⟩
  ·have nE:cs.length<=rest.length:=by
    rw[hl,jW];exact Nat.mul_le_mul_right _ (by omega)
   show rm (Addr.add ⟨b,pre.length,none⟩ (n*sz)) 0 cs w _
   rw[Addr.add_lit]
   refine wF (t:=t) cs (pre.length+n*sz) 0 (pre++(cells++rest)) w (.pt b (pre++(cells++rest)) t::F) _ gx .hd (by simp[hlen];omega) h1 (λw' nB=>h _ _ ?_)
   have e:nM (pre++(cells++rest)) (pre.length+n*sz+0) cs=pre++((cells++cs)++rest.drop cs.length):=by
    rw[show pre.length+n*sz+0=(pre++cells).length by rw[List.length_append];omega,<- List.append_assoc,RJ nE]
    simp
   rw[e]at nB
   exact dC.mk (n:=n+m) (cells:=cells++cs) (rest:=rest.drop cs.length) h0 (by simp[hlen,hl,Nat.add_mul]) (by
    rw[List.length_drop,jW,hl,<- Nat.mul_sub_right_distrib];congr 1;omega) rfl nB
  ·refine⟨cells,⟨rfl,hlen,λj v e=>?_⟩,λc fW jl=>h _ _ ?_⟩
   ·rw[Addr.add_lit]
    refine gx.cell .hd ?_
    rw[List.getElem?_append_right (by omega),Nat.add_sub_cancel_left,List.getElem?_append_left (List.getElem?_eq_some_iff.1 e).1];exact e
   ·have:=dC.mk (sz:=sz) (n:=n+m) (cells:=cells++cs) (pre:=[]) (rest:=db z (c-(n+m))) (cap:=c) fW (by simp[hlen,hl,Nat.add_mul]) (by rw[ku,hz]) rfl (SL.new (cs:=[]++((cells++cs)++db z (c-(n+m)))) (t:=t) (gx.drop.drew))
    simpa using this
theorem dC.block(hS:SL W (.ob (dC v t sz n cells)::l) w)(hn:0<n):∃b pre cap rest,v= .slice (some ⟨b,pre.length,none⟩) n cap/\n<=cap/\cells.length=n*sz/\rest.length=(cap-n)*sz/\SL W (.pt b (pre++(cells++rest)) t::l) w:=by
 rcases dC.open hS with ⟨_,h0,_⟩|h
 ·omega
 ·exact h
end
set_option maxRecDepth 100000
open Go.RowKit Go.Maps Go.Sort Go.Shelf
theorem a7z(m:Nat):AnyZI.SortsIn Tryz.prog Sw Fence.wide m:=
 ⟨λrF off cap ss W hH V8 kH=>callsIn_wide.2 (AnyM.slices_Sort_int Sv rF off cap ss W hH V8 kH),
  λp cap W=>callsIn_wide.2 (AnyM.slices_Sort_int_none Sv p cap W)⟩
section
variable {W w:World} {l:List Chunk} {b:Nat} {α:Type} {val:α->Value} {m:List (Int × α)}
theorem aWw(hS:SL W l w)(hm:Has (.ob (fC (Value.int .i64) val b m)) l)(hlen:m.length*8<=140737488355328)(uL:∀p∈m,(Lit.int .i64 p.1).wf=true){K:Value->World->Prop}
  (h:∀v w',SL W (.ob (a7 v 3 1 m.length ((tB m).map (Value.int .i64)))::l) w'->K v w') :
  aw 155 [.map (some b)] w λv1 w1=>aw 154 [v1] w1 K:=
 Z' Y' a7x a7z (enters_of Tryz.func234 (by kernel_rfl) rfl) (enters_of Tryz.func235 (by kernel_rfl) rfl) Tryz.underlying3 hS hm hlen uL h
end
set_option maxRecDepth 100000
open Go.RowKit
section
variable {W w:World} {l:List Chunk}
theorem zf.perm{α:Type}{A:α->zC}{xs ys:List α}(h:SL W (.ob (zf A xs)::l) w)(p:xs.Perm ys):SL W (.ob (zf A ys)::l) w:=
 zf.iff.2 ((zf.iff.1 h).perm ((p.map _).append_right l))
theorem SL.kL{v:Value}{t:TypeId}{sz n:Nat}{cells:List Value}(h:SL W l w)(m:Has (.ob (a7 v t sz n cells)) l):v.oneCell'=true:=by
 obtain⟨a,cap,rfl,_⟩:=a7.at h m;rfl
theorem Sa{t:TypeId}{a:Option Addr}{n c:Nat}{K:Value->Prop}(h:K (.bool a.isNone)):HEq (.slice t) false (.slice a n c) (.slice none 0 0) K:=⟨a.isNone,by cases a<;>rfl,h⟩
end
theorem xq{α β:Type}{key:α->Int}{kb:β->Int}{f:β->α}(hf:∀b,key (f b)=kb b)(L:List β)(k:Int):dP key (L.map f) k=(dP kb L k).map f:=by
 unfold dP
 rw[wc hf,tW hf]
 split
 ·rw[List.getElem?_map]
 ·rfl
theorem sR{α:Type}{key:α->Int}{L:List α}{k:Int}{x:α}(h:dP key L k=some x):L[eD key L k]?=some x/\eD key L k<L.length/\key x=k:=by
 unfold dP at h
 split at h
 ·rename_i hi
  obtain⟨hl,e⟩:=oA hi
  refine⟨h,hl,?_⟩
  rw[List.getElem?_eq_getElem hl]at h
  cases h;exact e
 ·cases h
theorem xo{α:Type}{key:α->Int}{L:List α}{k:Int}:(dP key L k).isSome=fS key L k:=by
 cases h:fS key L k with
 | true=>
  obtain⟨hl,_⟩:=oA h
  unfold dP;rw[if_pos h,List.getElem?_eq_getElem hl];rfl
 | false=>unfold dP;rw[if_neg (by rw[h];decide)];rfl
def gU(b:Nat):Value:=.pointer (some ⟨b,0,none⟩)
abbrev EF:=PF × Nat
def gy(x:EF):Int:=x.1.id
theorem Cd(x:EF):PF.id (Prod.fst x)=gy x:=rfl
abbrev Hs(x:EF)(v:Value):List Chunk:=[.pt x.2 [v,.int .i64 x.1.safe] 142,.ob (a7 v 5 1 x.1.b.length (x.1.b.map cI))]
def fM(x:EF):zC:=jQ λv:Value=>zP True (Hs x v)
theorem fM.iff{W w:World}{x:EF}{l:List Chunk}:SL W (.ob (fM x)::l) w↔∃v,SL W (.pt x.2 [v,.int .i64 x.1.safe] 142::.ob (a7 v 5 1 x.1.b.length (x.1.b.map cI))::l) w:=by
 unfold fM Hs
 simp only[SL.ex,SL.fact,List.cons_append,List.nil_append,true_and]
abbrev iT(mb:Nat)(s:DS):List Value:=[.map (some mb),.bool s.off,.int .i64 s.arm,.int .i64 s.ops]
abbrev Hr(dp:Nat)(s:DS)(mb:Nat)(m:List (Int × Nat)):List Chunk:=[.pt dp (iT mb s) 129,.ob (fC (Value.int .i64) gU mb m)]
structure kx(m:List (Int × Nat))(L:List EF)(R:List PF):Prop where
 rel:j4 gy Prod.snd m L
 eq:L.map Prod.fst=R
def b_(dp:Nat)(s:DS):zC:=jQ λx:Nat × List (Int × Nat) × List EF=>zP (kx x.2.1 x.2.2 s.R) [.pt dp (iT x.1 s) 129,.ob (fC (Value.int .i64) gU x.1 x.2.1),.ob (zf fM x.2.2)]
theorem b_.iff{W w:World}{dp:Nat}{s:DS}{l:List Chunk}:SL W (.ob (b_ dp s)::l) w↔∃mb m L,kx m L s.R/\SL W (.pt dp (iT mb s) 129::.ob (fC (Value.int .i64) gU mb m)::.ob (zf fM L)::l) w:=by
 unfold b_
 simp only[SL.ex,SL.fact,List.cons_append,List.nil_append]
 exact⟨λ⟨x,h1,h2⟩=>⟨x.1,x.2.1,x.2.2,h1,h2⟩,λ⟨mb,m,L,h1,h2⟩=>⟨(mb,m,L),h1,h2⟩⟩
theorem kx.get{m:List (Int × Nat)}{L:List EF}{R:List PF}(h:kx m L R)(f:Int):gS m f=(dP gy L f).map Prod.snd:=h.rel.get f
theorem kx.fe{m:List (Int × Nat)}{L:List EF}{R:List PF}(h:kx m L R)(f:Int):dP PF.id R f=(dP gy L f).map Prod.fst:=by
 rw[<- h.eq];exact xq Cd L f
theorem kx.len{m:List (Int × Nat)}{L:List EF}{R:List PF}(h:kx m L R):L.length=R.length:=by rw[<- h.eq,List.length_map]
theorem kx.set{m:List (Int × Nat)}{L:List EF}{R:List PF}(h:kx m L R){f:Int}{x:EF}(hx:dP gy L f=some x){y:PF}(hy:y.id=f):kx m (L.set (eD gy L f) (y,x.2)) (iO PF.id R y):=by
 obtain⟨h1,h2,h3⟩:=sR hx
 obtain⟨h4,h5⟩:=List.getElem?_eq_some_iff.1 h1
 refine⟨h.rel.rr h2 (by rw[h5,h3];exact hy) (by rw[h5]),?_⟩
 have hi:fS PF.id R y.id=true:=by
  rw[<- xo,hy,h.fe,hx];rfl
 rw[CE hi,hy,<- h.eq,tW Cd,List.map_set]
theorem kx.new{m:List (Int × Nat)}{L:List EF}{R:List PF}(h:kx m L R){f:Int}(hx:dP gy L f=none){y:PF}(hy:y.id=f)(p:Nat):kx (iZ m f p) (iO gy L (y,p)) (iO PF.id R y):=by
 have hi:fS gy L (gy (y,p))=false:=by
  rw[<- xo,show gy (y,p)=f from hy,hx];rfl
 have:=h.rel.add (x:=(y,p)) hi
 refine⟨by rw[<- hy];exact this,?_⟩
 rw[<- h.eq]
 exact aF5 Cd L (y,p)
theorem kx.del{m:List (Int × Nat)}{L:List EF}{R:List PF}(h:kx m L R)(f:Int):kx (oB m f) (j6 gy L f) (j6 PF.id R f):=by
 refine⟨h.rel.del f,?_⟩
 rw[<- h.eq]
 exact MI Cd L f
theorem QX:SP 11 [] [] (λv post=>∃dp:Nat,v= .pointer (some ⟨dp,0,none⟩)/\post=[.ob (b_ dp ja)]):=by
 intro W F w hS;apply bwn;delta HR ai;(try simp only[app]at hS)
 refine yr rfl ?_
 refine⟨_,rfl,zI (cs:=[.map (some w.heap.size),.bool false,.int .i64 0,.int .i64 0]) (SL.P1 (key:=Value.int .i64) (val:=gU) hS) ?_⟩
 intro dp w' gx
 refine⟨_,⟨dp,rfl,rfl⟩,b_.iff.2 ⟨w.heap.size,[],[],⟨j4.nil,rfl⟩,?_⟩⟩
 have nB:SL W (.pt dp (iT w.heap.size ja) 129::.ob (fC (Value.int .i64) gU w.heap.size [])::F) w':=gx
 have h2:=zf.nil (A:=fM) nB
 exact SL.b6 h2 Xi
theorem Yn(dp mb:Nat)(s:DS)(f:Int):SP 96 [.pointer (some ⟨dp,0,none⟩),.int .i64 f] [.pt dp (iT mb s) 129] (dj (.int .i64 (may s f)) [.pt dp (iT mb s) 129]):=by
 intro W F w hS;apply b6w;delta LB aF bw ai;(try simp only[app]at hS)
 refine Gp ?_
 unfold may
 refine y0 (λh=>?_) (λh=>?_)
 ·rw[if_pos h];(exact dq hS)
 ·rw[if_neg (by rw[h];decide)]
  refine bR (λh2=>?_) (λh2=>?_)
  ·rw[if_pos (.inl h2)];(exact dq hS)
  ·refine bR (λh3=>?_) (λh3=>?_)
   ·rw[if_pos (.inr h3)];(exact dq hS)
   ·rw[if_neg (by omega)];(exact dq hS)
def xk(s:DS)(m:List (Int × Nat))(f:Int):Value:=if may s f≠0 then .tuple #[.pointer none,.int .i64 (may s f)] else match gS m f with
 | none=>.tuple #[.pointer none,.int .i64 5]
 | some p=>.tuple #[gU p,.int .i64 0]
theorem Zd(dp mb:Nat)(s:DS)(m:List (Int × Nat))(f:Int):SP 232 [.pointer (some ⟨dp,0,none⟩),.int .i64 f] (Hr dp s mb m) (dj (xk s m f) (Hr dp s mb m)):=by
 intro W F w hS;apply bRd;delta JD aF bw ai dk;(try simp only[app]at hS)
 refine Cg (Yn dp mb s f) λw hS=>?_
 unfold xk
 refine za (λh=>?_) (λh=>?_)
 ·rw[if_pos h];(exact dq hS)
 ·rw[if_neg h]
  refine Gp ?_
  refine Zr hS Xh (s_ .i64) Tryz.underlying127 Tryz.underlying3 (λ_=>rfl) ?_
  cases hm:gS m f with
  | none=>
   simp only[Option.map_none,Option.getD_none]
   refine Z7 (zw ?_)
   (exact dq hS)
  | some p=>
   simp only[Option.map_some,Option.getD_some]
   unfold gU
   refine Z7 (zq ?_)
   (exact dq hS)
theorem yp(dp mb:Nat)(s:DS)(h0:s.off=false)(h1:0<=s.arm)(h2:s.arm<=9223372036854775807)(h3:s.ops<=100000):SP 97 [.pointer (some ⟨dp,0,none⟩)] [.pt dp (iT mb s) 129]
  (dj (.int .i64 s.dB.err) [.pt dp (iT mb s.dB) 129]):=by
 intro W F w hS;apply b6x;delta LC aF bw dx ai;(try simp only[app]at hS)
 refine Gn λw hS=>?_
 refine za (λh=>?_) (λh=>?_)
 ·refine Gn λw hS=>?_
  have e:decide (s.arm-1=0)=decide (s.arm=1):=by congr 1;exact propext ⟨λ_=>by omega,λ_=>by omega⟩
  rw[e]
  rw[e]at hS
  have hS:SL W (.pt dp (iT mb s.dB) 129::F) w:=by
   simp only[iT,DS.dB,if_pos h]
   exact hS
  unfold DS.err
  refine za (λh4=>?_) (λh4=>?_)
  ·rw[if_pos (by simp[DS.dB,h4])];(exact dq hS)
  ·rw[if_neg (by simp[DS.dB,h4])];(exact dq hS)
 ·refine Gp ?_
  have ha:¬s.arm=1:=by omega
  have hS:SL W (.pt dp (iT mb s.dB) 129::F) w:=by
   simp only[iT,DS.dB,if_neg h,ha,decide_false]
   rw[h0]at hS
   exact hS
  rw[h0]
  refine zq ?_
  have:s.dB.err=0:=by simp[DS.err,DS.dB,ha]
  rw[this]
  (exact dq hS)
theorem El{α:Type}{enc:α->List Value}{n:Nat}(hn:∀x,(enc x).length=n):∀(xs:List α) (j k:Nat) (hj:j<xs.length) (x:α) (v:Value),k<n->(enc xs[j]).set k v=enc x->((xs.map enc).flatten).set (j*n+k) v=((xs.set j x).map enc).flatten
 | y::xs,0,k,_,x,v,hk,h=>by
  simp only[List.map_cons,List.flatten_cons,List.set_cons_zero,Nat.zero_mul,Nat.zero_add]
  rw[List.set_append_left _ _ (by rw[hn];exact hk)]
  rw[show (enc y).set k v=enc x from h]
 | y::xs,j+1,k,hj,x,v,hk,h=>by
  simp only[List.map_cons,List.flatten_cons,List.set_cons_succ]
  rw[List.set_append_right _ _ (by rw[hn,Nat.add_mul];omega),hn,show (j+1)*n+k-n=j*n+k by rw[Nat.add_mul];omega,El hn xs j k (by simpa using hj) x v hk (by simpa using h)]
def A_(sz iC:Nat)(z:List Value)(t ts:TypeId)(v0:Value)(w:World)(R:Value->World->Prop):Prop:=
 HEq (.slice ts) false v0 (.slice Option.none 0 0) λv4=>
 dO v4
 (R (.slice Option.none 0 0) w)
 (zn (db z 0) [] t 0 w λv5 su=>
 zt sz iC z t v5 v0 su λv7 u6=>
 R v7 u6)
theorem Mr{W w:World}{F:List Chunk}{sz iC n:Nat}{z cs:List Value}{t ts:TypeId}{v:Value}{K:Value->World->Prop}(hv:∃a c,v= .slice a n c)(g7:∀w' c,SL W (c::F) w'->jy w' sz v n cs)(hl:cs.length=n*sz)(hz:z.length=sz)(h0:0<sz)(h1:∀v∈cs,v.oneCell'=true)(hb:n*iC<=140737488355328)(hn:n<=140737488355328)
  (hS:SL W F w) (h:∀u w',SL W (.ob (a7 u t sz n cs)::F) w'->K u w'):A_ sz iC z t ts v w K:=by
 obtain⟨a,c,rfl⟩:=hv
 unfold A_
 refine Sa ?_
 cases a with
 | none=>
  refine zw ?_
  have hs:=g7 _ _ (a7.nil (t:=t) (sz:=sz) hS)
  obtain rfl:cs=[]:=hs.2
  obtain rfl:n=0:=by
   rw[List.length_nil]at hl
   rcases Nat.mul_eq_zero.1 hl.symm with h|h
   ·exact h
   ·omega
  exact h _ _ (a7.nil hS)
 | some p=>
  refine zq ?_
  refine zy hS rfl ?_
  intro b w' gx
  have nB:SL W (.ob (a7 (.slice (some ⟨b,0,none⟩) 0 0) t sz 0 [])::F) w':=a7.full (by simp) (by simpa [db] using gx)
  refine zx nB .hd (g7 _ _ nB) hl hz h1 (by rw[Nat.zero_add];exact hb) (by omega) ?_
  intro u w2 sW
  rw[Nat.zero_add,List.nil_append]at sW
  exact h u w2 sW
section
variable {P:Program} {f:FuncId} {sz iC n:Nat} {z cs:List Value} {t ts:TypeId}
theorem Mq(vc:∀v0 w R,A_ sz iC z t ts v0 w R->zU P f [v0] w R)(hz:z.length=sz)(h0:0<sz){H:aW}{v:Value}(hv:dy H sz v n cs)(h1:∀v∈cs,v.oneCell'=true)(hb:n*iC<=140737488355328)(hn:n<=140737488355328):
  Spec P f [v] [.mem H] (λu post=>post=[.ob (a7 u t sz n cs),.mem H]):=by
 intro W F w hS
 have hS:SL W (.mem H::F) w:=hS
 exact vc _ _ _ (Mr (let ⟨_,a,c,e,_⟩:=hv;⟨a,c,e⟩) (λw' c h=>nQ h (.tl .hd) hv) hv.1 hz h0 h1 hb hn hS λu w' hS=>⟨_,rfl,hS⟩)
end
section
variable {W w:World} {l F:List Chunk} {α:Type} {enc:α->List Value} {t:TypeId} {sz:Nat}
theorem zK{cs:List Value}{K:Value->World->Prop}(hS:SL W l w)(h:∀b w,SL W (.pt b cs t::l) w->K (.pointer (some ⟨b,0,none⟩)) w):∃ny:List Value,Value.agg cs.toArray= .agg ny.toArray/\zk ny t w K:=⟨cs,rfl,zI hS h⟩
theorem aWt{v:Value}{n j:Nat}{k:IntKind}{xs:List α}{x:α}{K:Value->Prop}(h:SL W l w)(m:Has (.ob (dC v t sz n (xs.map enc).flatten)) l)(hn:∀x,(enc x).length=sz)(hx:xs[j]?=some x)(hj:j<n)(hK:K (agg (enc x))):
  zh sz v (.int k (j:Int)) λp=>zj sz p w K:=by
 refine yC h m hj λb o hb=>⟨⟨b,o,none⟩,enc x,rfl,hn x,λi u hu=>?_,hK⟩
 rw[Addr.add_lit]
 have hi:i<sz:=by rw[<- hn x];exact (List.getElem?_eq_some_iff.1 hu).1
 exact hb i u hi (nz hn xs j i x u hx hu)
theorem yu{x:Value}{iC n b:Nat}{z:List Value}{xs:List α}{y:α}{K:Value->World->Prop}(hS:SL W l w)(hr:gB (.ob (a7 x t sz n (xs.map enc).flatten)) l F)(hm:Has (.pt b (enc y) t) l)(hn:∀x,(enc x).length=sz)(h1:∀x,∀v∈enc x,v.oneCell'=true)(hz:z.length=sz)(hb:(n+1)*iC<=140737488355328)(W1:n+1<=140737488355328)
  (h:∀v' w',SL W (.ob (a7 v' t sz (n+1) ((xs++[y]).map enc).flatten)::F) w'->K v' w'):zt sz iC z t x (.slice (some ⟨b,0,none⟩) 1 1) w K:=
 zx hS hr (iP hS hm (by rw[hn,Nat.one_mul])) (by rw[hn,Nat.one_mul]) hz (h1 y) hb W1 λv' w' hS=>h v' w' (by rw[Nr];exact hS)
theorem SL.oJ{v:Value}{cs:List Value}{xs:List α}{x:α}(hS:SL W (.ob (a7 v t sz (xs.length+1) cs)::l) w):SL W (.ob (a7 v t sz (xs++[x]).length cs)::l) w:=by
 rw[List.length_append,List.length_singleton];exact hS
theorem SL.AJ{H:aW}{b n:Nat}{cs:List Value}(hS:SL W l w)(hp:gq [.mem H,.pt b cs t] l F)(hl:cs.length=n*sz):∃H',H.le H'/\dy H' sz (.slice (some ⟨b,0,none⟩) n n) n cs/\SL W (.mem H'::F) w:=by
 have hS:=hS.pick hp
 exact a7.freeze ((a7.full hl (hS.perm (.swap _ _ _))).perm (.swap _ _ _))
end
structure pF where
 aI:Int
 ov:Value
 nv:Value
def kC(x:pF):List Value:=[.int .i64 x.aI,x.ov,x.nv]
abbrev Tp(H:aW)(v:Value)(l:List mf):Prop:=dy H 5 v l.length (l.map pQ).flatten
abbrev To(H:aW)(v:Value)(l:List rA):Prop:=dy H 7 v l.length (l.map tY).flatten
structure rz(H:aW)(x:pF)(t:oM):Prop where
 aI:x.aI=t.aI
 ops:Tp H x.ov t.ops
 Gi:To H x.nv t.notes
theorem rz.mono{H H':aW}(hh:H.le H'){x:pF}{t:oM}(h:rz H x t):rz H' x t:=⟨h.aI,h.ops.mono hh,h.Gi.mono hh⟩
theorem Va(n:rA):∀v∈tY n,v.oneCell'=true:=by simp[tY,Value.oneCell']
theorem M3(o:mf):(pQ o).length=5:=rfl
theorem rJ{H:aW}{x:pF}{t:oM}(h:rz H x t):∀v∈kC x,v.oneCell'=true:=by
 intro v hv
 simp only[kC,List.mem_cons,List.not_mem_nil,or_false]at hv
 rcases hv with rfl|rfl|rfl
 ·rfl
 ·exact h.ops.one
 ·exact h.Gi.one
theorem j3(b:List UInt8):∀v∈b.map cI,v.oneCell'=true:=λv hv=>by
 obtain⟨x,_,rfl⟩:=List.mem_map.1 hv;rfl
section
variable {W w:World} {l:List Chunk}
theorem Zq{F:List Chunk}{a:Option Addr}{k cap:Nat}{cs:List Value}{K:Value->World->Prop}(hS:SL W F w)(g7:∀w' c,SL W (c::F) w'->jy w' 1 (.slice a k cap) k cs)(hl:cs.length=k)(h1:∀v∈cs,v.oneCell'=true)(hb:k<=140737488355328)
  (h:∀u w',SL W (.ob (a7 u 5 1 k cs)::F) w'->(a.isSome=true->u≠.slice none 0 0\/k=0)->K u w'):aw 156 [.slice a k cap] w K:=by
 apply bFm;delta Iz bF
 refine Sa ?_
 cases a with
 | none=>
  refine zw ?_
  have hs:=g7 _ _ (a7.nil (t:=5) (sz:=1) hS)
  obtain rfl:cs=[]:=hs.2
  obtain rfl:k=0:=by simpa using hl.symm
  exact h _ _ (a7.nil hS) (λh=>by cases h)
 | some p=>
  refine zq ?_
  refine zy hS rfl ?_
  intro b w' gx
  have nB:SL W (.ob (a7 (.slice (some ⟨b,0,none⟩) 0 0) 5 1 0 [])::F) w':=a7.full rfl gx
  refine zx nB .hd (g7 _ _ nB) (by rw[hl];omega) rfl h1 (by omega) (by omega) ?_
  intro u w2 sW
  rw[Nat.zero_add,List.nil_append]at sW
  refine h u w2 sW λ_=>?_
  rcases Nat.eq_zero_or_pos k with hk|hk
  ·exact .inr hk
  ·refine .inl λe=>?_
   subst e
   rcases a7.open sW with ⟨_,h2,_⟩|⟨b,cap,rest,h2,_⟩
   ·omega
   ·cases h2
theorem GY{v:Value}{t:TypeId}{sz n k:Nat}{kk:IntKind}{cells:List Value}{K:Value->Prop}(h:SL W l w)(m:Has (.ob (a7 v t sz n cells)) l)(hk:k<=n)
  (hK:∀a cap,(∀w' l',SL W l' w'->Has (.ob (a7 v t sz n cells)) l'->jy w' sz (.slice a k cap) k (cells.take (k*sz)))->K (.slice a k cap)):eG sz v none (some (.int kk (k:Int))) none K:=by
 obtain⟨a,cap,rfl,hl,hx⟩:=a7.at h m
 have sX:n<=cap:=by
  obtain⟨l2,r⟩:=m.rem
  rcases a7.open (h.perm r.perm) with ⟨⟨a',e⟩,rfl,rfl,_⟩|⟨b,pM,rest,e,hc,_⟩
  ·cases e;omega
  ·cases e;exact hc
 refine⟨a,n,cap,0,k,cap,rfl,rfl,⟨kk,rfl⟩,rfl,Nat.zero_le _,by omega,Nat.le_refl _,?_⟩
 rw[Nat.sub_zero,Nat.sub_zero]
 have e:(if cap=0 then a else a.map (·.add (0*sz)))=a:=by
  split
  ·rfl
  ·cases a<;>simp[Addr.add]
 rw[e]
 refine hK a cap λw' l' h' m'=>?_
 have hs:=nc h' m'
 cases a with
 | none=>
  obtain⟨e1,e2⟩:=hs
  subst e2
  have e1:n=n:=e1
  have hn:n*sz=0:=by simpa using hl.symm
  refine⟨rfl,by simp⟩
 | some p=>
  obtain⟨_,e2,e3⟩:=hs
  refine⟨rfl,by rw[List.length_take,e2];exact Nat.min_eq_left (Nat.mul_le_mul_right _ hk),λj v e=>?_⟩
  rw[List.getElem?_take]at e
  split at e
  ·exact e3 j v e
  ·cases e
end
theorem TU(X:Chunk)(dp:Nat)(s:DS)(N:Nat)(b5:s.Ok N)(eJ:s.ops<=100000)(f:Int)(bv:Value)(b:List UInt8)(hX:∀{W:World} {l:List Chunk} {w:World},SL W l w->Has X l->jy w 1 bv b.length (b.map cI))(hN:((dP PF.id s.R f).getD (kK f)).b.length+b.length<=140737488355328):
  SP 34 [.pointer (some ⟨dp,0,none⟩),.int .i64 f,bv] [.ob (b_ dp s),X] (dj (.int .i64 (s.append f b).2) [.ob (b_ dp (s.append f b).1),X]):=by
 intro W F w hS;apply b5b;delta KG aF bw dx ai dk bF;(try simp only[app]at hS)
 obtain⟨mb,m,L,hr,hS⟩:=b_.iff.1 hS
 refine Cg (Yn dp mb s f) λw hS=>?_
 unfold DS.append
 refine za (λh=>?_) (λh=>?_)
 ·rw[if_pos h]
  exact⟨_,⟨rfl,rfl⟩,b_.iff.2 ⟨mb,m,L,hr,aR hS⟩⟩
 ·rw[if_neg h]
  have hm:may s f=0:=by omega
  obtain⟨h0,pa,ur⟩:=sf hm
  refine Gp ?_
  refine Zr hS Xh (s_ .i64) Tryz.underlying127 Tryz.underlying3 (λ_=>rfl) ?_
  rw[hr.get f]
  have b8o:=b5.len
  cases hg:dP gy L f with
  | none=>
   simp only[Option.map_none,Option.getD_none]
   refine Z7 (zw ?_)
   refine yr rfl ?_
   refine⟨_,rfl,zI hS ?_⟩
   clear hS;intro p w hS
   refine Gp ?_
   refine aW3 (key:=Value.int .i64) (val:=gU) (k:=f) (v:=p) hS Xu (s_ .i64) Tryz.underlying127 Tryz.underlying3 ?_
   clear hS;intro _ w hS
   refine Gp ?_
   have hS:=a7.nil (t:=5) (sz:=1) hS
   refine zx (n:=0) (m:=b.length) hS .hd (hX hS Xh) (by simp) rfl (j3 b) (by omega) (by omega) ?_
   clear hS;intro v w hS
   rw[Nat.zero_add,List.nil_append]at hS
   have iN:=hS.kL .hd
   refine Gn λw hS=>?_
   refine Cg (yp dp mb s h0 b5.n3 b5.n_ eJ) λw hS=>?_
   have hS:=(fM.iff (x:=((⟨f,0,b⟩:PF),p))).2 ⟨v,SL.b6 hS (t:=.pt p [v,.int .i64 0] 142::.ob (a7 v 5 1 b.length (b.map cI))::.ob (zf fM L)::.pt dp (iT mb s.dB) 129::.ob (fC (Value.int .i64) gU mb (iZ m f p))::X::F) Xi⟩
   have hS:=zf.snoc (SL.b6 hS (t:=.ob (zf fM L)::.ob (fM ((⟨f,0,b⟩:PF),p))::.pt dp (iT mb s.dB) 129::.ob (fC (Value.int .i64) gU mb (iZ m f p))::X::F) Xi)
   have lL:=hr.new hg (y:=⟨f,0,b⟩) rfl p
   have hS:=zf.perm hS (ys:=iO gy L (⟨f,0,b⟩,p)) (by
    have hi:fS gy L (gy ((⟨f,0,b⟩:PF),p))=false:=by rw[<- xo,show gy ((⟨f,0,b⟩:PF),p)=f from rfl,hg];rfl
    exact List.perm_append_comm.trans (RN hr.rel.2 hi).symm)
   have e:kg s.R f b=iO PF.id s.R ⟨f,0,b⟩:=by
    unfold kg;rw[hr.fe f,hg];rfl
   rw[e]
   exact⟨_,⟨rfl,rfl⟩,b_.iff.2 ⟨mb,_,_,lL,aR hS⟩⟩
  | some x=>
   obtain⟨g1,g2,g3⟩:=sR hg
   have hS:=zf.take (SL.b6 hS (t:=.ob (zf fM L)::.pt dp (iT mb s) 129::.ob (fC (Value.int .i64) gU mb m)::X::F) Xi) g1
   obtain⟨v0,hS⟩:=fM.iff.1 hS
   simp only[Option.map_some,Option.getD_some]
   unfold gU
   refine Z7 (zq ?_)
   refine Gp ?_
   have Pc:x.1.b.length+b.length<=140737488355328:=by rw[hr.fe f,hg]at hN;exact hN
   refine zx (n:=x.1.b.length) (m:=b.length) hS Xr (hX hS Xh) (by simp) rfl (j3 b) (by omega) (by omega) ?_
   clear hS;intro v w hS
   have iN:=hS.kL .hd
   refine Gn λw hS=>?_
   refine Cg (yp dp mb s h0 b5.n3 b5.n_ eJ) λw hS=>?_
   have e1:x.1.b.map cI++b.map cI=(x.1.b++b).map cI:=by rw[List.map_append]
   have e2:x.1.b.length+b.length=(x.1.b++b).length:=by rw[List.length_append]
   rw[e1,e2]at hS
   have hS:=(fM.iff (x:=((⟨f,x.1.safe,x.1.b++b⟩:PF),x.2))).2 ⟨v,SL.b6 hS (t:=.pt x.2 [v,.int .i64 x.1.safe] 142::.ob (a7 v 5 1 (x.1.b++b).length ((x.1.b++b).map cI))::.ob (zf fM (L.eraseIdx (eD gy L f)))::.pt dp (iT mb s.dB) 129::.ob (fC (Value.int .i64) gU mb m)::X::F) Xi⟩
   have hS:=zf.put hS g2
   have e:kg s.R f b=iO PF.id s.R ⟨f,x.1.safe,x.1.b++b⟩:=by
    unfold kg;rw[hr.fe f,hg];rfl
   rw[e]
   exact⟨_,⟨rfl,rfl⟩,b_.iff.2 ⟨mb,_,_,hr.set hg (y:=⟨f,x.1.safe,x.1.b++b⟩) rfl,aR hS⟩⟩
theorem TT(X:Chunk)(dp:Nat)(s:DS)(N:Nat)(b5:s.Ok N)(eJ:s.ops<=100000)(f:Int)(bv:Value)(b:List UInt8)(hX:∀{W:World} {l:List Chunk} {w:World},SL W l w->Has X l->jy w 1 bv b.length (b.map cI))(hN:N+b.length<=140737488355328):
  SP 34 [.pointer (some ⟨dp,0,none⟩),.int .i64 f,bv] [.ob (b_ dp s),X] (dj (.int .i64 (s.append f b).2) [.ob (b_ dp (s.append f b).1),X]):=
 TU X dp s N b5 eJ f bv b hX (by have:=Ep (f:=f) b5.len;omega)
theorem Ei{s:DS}{m:List (Int × Nat)}{L:List EF}(hr:kx m L s.R)(f:Int):
  (s.find f≠0/\xk s m f= .tuple #[.pointer none,.int .i64 (s.find f)])\/(s.find f=0/\may s f=0/\∃x,dP gy L f=some x/\xk s m f= .tuple #[gU x.2,.int .i64 0]):=by
 unfold DS.find xk
 by_cases h:may s f=0
 ·have h':¬may s f≠0:=λe=>e h
  rw[if_neg h',if_neg h',hr.get f]
  have hi:fS PF.id s.R f=(dP gy L f).isSome:=by rw[<- xo,hr.fe f,Option.isSome_map]
  rw[hi]
  cases hg:dP gy L f with
  | none=>exact .inl ⟨by simp,by simp⟩
  | some x=>exact .inr ⟨by simp,h,x,rfl,rfl⟩
 ·rw[if_pos h,if_pos h]
  exact .inl ⟨h,rfl⟩
theorem vG{W w:World}{L:List EF}{f:Int}{x:EF}{l:List Chunk}(hg:dP gy L f=some x)(hS:SL W (.ob (zf fM L)::l) w):SL W (.ob (fM x)::.ob (zf fM (L.eraseIdx (eD gy L f)))::l) w:=zf.take hS (sR hg).1
theorem Ef{W w:World}{L:List EF}{f:Int}{x y:EF}{l:List Chunk}(hg:dP gy L f=some x)(hS:SL W (.ob (fM y)::.ob (zf fM (L.eraseIdx (eD gy L f)))::l) w):SL W (.ob (zf fM (L.set (eD gy L f) y))::l) w:=zf.put hS (sR hg).2.1
theorem Eg{W w:World}{L:List EF}{f:Int}{x:EF}{l:List Chunk}(hg:dP gy L f=some x)(hS:SL W (.ob (fM x)::.ob (zf fM (L.eraseIdx (eD gy L f)))::l) w):SL W (.ob (zf fM L)::l) w:=by
 have h:=Ef hg hS
 have e:L.set (eD gy L f) x=L:=by
  obtain⟨h1,h2⟩:=List.getElem?_eq_some_iff.1 (sR hg).1
  rw[<- h2];simp
 rwa [e]at h
theorem C0{R:List PF}{f:Int}{x:PF}(h:dP PF.id R f=some x)(g:PF->PF):kr R f g=iO PF.id R {g x with id:=f}:=by
 unfold kr;rw[h]
theorem Qn(dp:Nat)(s:DS)(N:Nat)(b5:s.Ok N)(eJ:s.ops<=100000)(f:Int):
  SP 151 [.pointer (some ⟨dp,0,none⟩),.int .i64 f] [.ob (b_ dp s)] (dj (.int .i64 (s.sync f).2) [.ob (b_ dp (s.sync f).1)]):=by
 intro W F w hS;apply bFj;delta Iw aF bw dx ai;(try simp only[app]at hS)
 obtain⟨mb,m,L,hr,hS⟩:=b_.iff.1 hS
 refine Cc (Zd dp mb s m f) ?_;clear hS
 rintro v post ⟨rfl,rfl⟩ w hS
 try simp only[app]at hS
 unfold DS.sync
 rcases Ei hr f with ⟨h1,e⟩|⟨h1,h2,x,hg,e⟩
 ·rw[e,if_pos h1]
  refine Gp ?_
  refine za (λh=>absurd h h1) (λ_=>?_)
  refine Gp ?_
  refine za (λh=>absurd h h1) (λ_=>?_)
  exact⟨_,⟨rfl,rfl⟩,b_.iff.2 ⟨mb,m,L,hr,aR hS⟩⟩
 ·obtain⟨h0,pa,ur⟩:=sf h2
  rw[e,if_neg (λh=>h h1)]
  unfold gU
  refine Gp ?_
  refine za (λ_=>?_) (λh=>absurd rfl h)
  refine Cg (yp dp mb s h0 b5.n3 b5.n_ eJ) λw hS=>?_
  by_cases hc:s.dB.off=true
  ·have he:s.dB.err=8:=by unfold DS.err;rw[if_pos hc]
   rw[he,if_pos hc]
   refine za (λh=>by cases h) (λ_=>?_)
   exact⟨_,⟨rfl,rfl⟩,b_.iff.2 ⟨mb,m,L,hr,aR hS⟩⟩
  ·have he:s.dB.err=0:=by unfold DS.err;rw[if_neg hc]
   rw[he,if_neg hc]
   refine za (λ_=>?_) (λh=>absurd rfl h)
   have hS:=vG hg (SL.b6 hS (t:=.ob (zf fM L)::.pt dp (iT mb s.dB) 129::.ob (fC (Value.int .i64) gU mb m)::F) Xi)
   obtain⟨v0,hS⟩:=fM.iff.1 hS
   refine Gp ?_
   refine zr hS (t:=5) (sz:=1) (n:=x.1.b.length) (cells:=x.1.b.map cI) Xh ?_
   refine Gn λw hS=>?_
   have hS:=Ef hg ((fM.iff (x:=((⟨f,x.1.b.length,x.1.b⟩:PF),x.2))).2 ⟨v0,SL.b6 hS (t:=.pt x.2 [v0,.int .i64 (x.1.b.length:Int)] 142::.ob (a7 v0 5 1 x.1.b.length (x.1.b.map cI))::.ob (zf fM (L.eraseIdx (eD gy L f)))::.pt dp (iT mb s.dB) 129::.ob (fC (Value.int .i64) gU mb m)::F) Xi⟩)
   have eR:=C0 (f:=f) (x:=x.1) (by rw[hr.fe f,hg];rfl) λx=>{x with safe:=x.b.length}
   rw[eR]
   exact⟨_,⟨rfl,rfl⟩,b_.iff.2 ⟨mb,_,_,hr.set hg (y:=⟨f,x.1.b.length,x.1.b⟩) rfl,aR hS⟩⟩
theorem QG(x:EF)(n:Nat)(hn:n<=x.1.b.length)(hb:n<=140737488355328):SP 68 [gU x.2,.int .i64 (n:Int)] [.ob (fM x)] (dj (.tuple #[]) [.ob (fM (mn n x.1,x.2))]):=by
 intro W F w hS;apply b59;delta Le bw dx;(try simp only[app]at hS)
 obtain⟨v0,hS⟩:=fM.iff.1 hS
 unfold gU
 refine Gp ?_
 refine GY hS (t:=5) (sz:=1) (n:=x.1.b.length) (cells:=x.1.b.map cI) Xh hn ?_
 intro a cap g7
 refine Zq (cs:=(x.1.b.map cI).take (n*1)) hS (λw' c gx=>g7 w' _ gx (.tl Xh)) (by simp;omega) (λv hv=>j3 _ v (List.mem_of_mem_take hv)) (by omega) ?_
 clear hS;intro u w hS _
 have iN:=hS.kL .hd
 refine Gn λw hS=>?_
 have e1:(x.1.b.map cI).take (n*1)=(mn n x.1).b.map cI:=by rw[Nat.mul_one,<- List.map_take];rfl
 have e2:(mn n x.1).b.length=n:=by simp only[mn,List.length_take];omega
 have e3:min (x.1.safe:Int) (n:Int)=(((mn n x.1).safe:Nat):Int):=by simp only[mn];omega
 rw[e1,e3]at hS
 refine⟨_,⟨rfl,rfl⟩,fM.iff.2 ⟨u,?_⟩⟩
 rw[e2]
 exact aR hS
theorem aid{s:DS}{m:List (Int × Nat)}{L:List EF}(hr:kx m L s.R){f:Int}{x:EF}(hg:dP gy L f=some x):mE s.R f=x.1.b.length:=by
 unfold mE;rw[hr.fe f,hg];rfl
theorem Yj(dp:Nat)(s:DS)(N:Nat)(b5:s.Ok N)(hN:N<=140737488355328)(eJ:s.ops<=100000)(f n:Int):
  SP 150 [.pointer (some ⟨dp,0,none⟩),.int .i64 f,.int .i64 n] [.ob (b_ dp s)] (dj (.int .i64 (s.cut f n).2) [.ob (b_ dp (s.cut f n).1)]):=by
 intro W F w hS;apply bFi;delta Iv aF bw ai;(try simp only[app]at hS)
 obtain⟨mb,m,L,hr,hS⟩:=b_.iff.1 hS
 refine Cc (Zd dp mb s m f) ?_;clear hS
 rintro v post ⟨rfl,rfl⟩ w hS
 try simp only[app]at hS
 unfold DS.cut
 rcases Ei hr f with ⟨h1,e⟩|⟨h1,h2,x,hg,e⟩
 ·rw[e,if_pos h1]
  refine Gp ?_
  refine⟨λus w=>us=[.int .i64 (s.find f)]/\SL W (.pt dp (iT mb s) 129::.ob (fC (Value.int .i64) gU mb m)::.ob (zf fM L)::F) w,?_,?_⟩
  ·refine Gp ?_
   refine za (λh=>absurd h h1) (λ_=>?_)
   exact⟨rfl,aR hS⟩
  ·clear hS
   rintro v8 w ⟨da,hS⟩
   cases da
   refine Gp ?_
   refine za (λh=>absurd h h1) (λ_=>?_)
   refine Gp ?_
   refine za (λh=>absurd h h1) (λ_=>?_)
   exact⟨_,⟨rfl,rfl⟩,b_.iff.2 ⟨mb,m,L,hr,aR hS⟩⟩
 ·obtain⟨h0,pa,ur⟩:=sf h2
  rw[e,if_neg (λh=>h h1)]
  unfold gU
  refine Gp ?_
  rw[aid hr hg]
  have Pc:x.1.b.length<=N:=b5.len _ (by rw[<- hr.eq];exact List.mem_map.2 ⟨x,List.mem_of_getElem? (sR hg).1,rfl⟩)
  refine⟨λus w=>us=[.int .i64 (if n<0\/(x.1.b.length:Int)<n then 1 else 0)]/\SL W (.pt dp (iT mb s) 129::.ob (fC (Value.int .i64) gU mb m)::.ob (zf fM L)::F) w,?_,?_⟩
  ·refine Gp ?_
   refine za (λ_=>?_) (λh=>absurd rfl h)
   refine bR (λh=>?_) (λh=>?_)
   ·rw[if_pos (.inl h)]
    exact⟨rfl,aR hS⟩
   ·have hS:=vG hg (SL.b6 hS (t:=.ob (zf fM L)::.pt dp (iT mb s) 129::.ob (fC (Value.int .i64) gU mb m)::F) Xi)
    obtain⟨v0,hS⟩:=fM.iff.1 hS
    refine Gp ?_
    refine zr hS (t:=5) (sz:=1) (n:=x.1.b.length) (cells:=x.1.b.map cI) Xh ?_
    refine Gp ?_
    have hS:=Eg hg (fM.iff.2 ⟨v0,hS⟩)
    refine za (λh3=>?_) (λh3=>?_)
    ·rw[if_pos (.inr h3)]
     exact⟨rfl,aR hS⟩
    ·rw[if_neg (by omega)]
     exact⟨rfl,aR hS⟩
  ·clear hS
   rintro v8 w ⟨da,hS⟩
   cases da
   refine Gp ?_
   by_cases hn:n<0\/(x.1.b.length:Int)<n
   ·rw[if_pos hn,if_pos hn]
    refine za (λh=>by cases h) (λ_=>?_)
    refine Gp ?_
    refine za (λh=>by cases h) (λ_=>?_)
    exact⟨_,⟨rfl,rfl⟩,b_.iff.2 ⟨mb,m,L,hr,aR hS⟩⟩
   ·rw[if_neg hn,if_neg hn]
    refine za (λ_=>?_) (λh=>absurd rfl h)
    refine Cg (yp dp mb s h0 b5.n3 b5.n_ eJ) λw hS=>?_
    by_cases hc:s.dB.off=true
    ·have he:s.dB.err=8:=by unfold DS.err;rw[if_pos hc]
     rw[he,if_pos hc]
     refine za (λh=>by cases h) (λ_=>?_)
     exact⟨_,⟨rfl,rfl⟩,b_.iff.2 ⟨mb,m,L,hr,aR hS⟩⟩
    ·have he:s.dB.err=0:=by unfold DS.err;rw[if_neg hc]
     rw[he,if_neg hc]
     refine za (λ_=>?_) (λh=>absurd rfl h)
     have hS:=vG hg (SL.b6 hS (t:=.ob (zf fM L)::.pt dp (iT mb s.dB) 129::.ob (fC (Value.int .i64) gU mb m)::F) Xi)
     obtain⟨k,rfl⟩:∃k:Nat,n=(k:Int):=⟨n.toNat,by omega⟩
     have hC:=QG x k (by omega) (by omega)
     unfold gU at hC
     refine Cg (hC) λw hS=>?_
     have hS:=Ef hg (y:=({mn k x.1 with id:=f},x.2)) (SL.b6 hS (t:=.ob (fM ({mn k x.1 with id:=f},x.2))::.ob (zf fM (L.eraseIdx (eD gy L f)))::.pt dp (iT mb s.dB) 129::.ob (fC (Value.int .i64) gU mb m)::F) (by
      have:(mn k x.1,x.2)=(({mn k x.1 with id:=f}:PF),x.2):=by
       have:=(sR hg).2.2
       unfold gy at this
       rw[<- this];rfl
      rw[this]
      exact Xi))
     have eR:=C0 (f:=f) (x:=x.1) (by rw[hr.fe f,hg];rfl) (mn (k:Int).toNat)
     rw[eR,Int.toNat_natCast]
     exact⟨_,⟨rfl,rfl⟩,b_.iff.2 ⟨mb,_,_,hr.set hg (y:={mn k x.1 with id:=f}) rfl,aR hS⟩⟩
theorem Zn(dp:Nat)(s:DS)(N:Nat)(b5:s.Ok N)(eJ:s.ops<=100000)(f:Int):
  SP 153 [.pointer (some ⟨dp,0,none⟩),.int .i64 f] [.ob (b_ dp s)] (dj (.int .i64 (s.remove f).2) [.ob (b_ dp (s.remove f).1)]):=by
 intro W F w hS;apply bFl;delta Iy aF bw ai;(try simp only[app]at hS)
 obtain⟨mb,m,L,hr,hS⟩:=b_.iff.1 hS
 refine Cc (Zd dp mb s m f) ?_;clear hS
 rintro v post ⟨rfl,rfl⟩ w hS
 try simp only[app]at hS
 unfold DS.remove
 rcases Ei hr f with ⟨h1,e⟩|⟨h1,h2,x,hg,e⟩
 ·rw[e,if_pos h1]
  refine Gp ?_
  refine za (λh=>absurd h h1) (λ_=>?_)
  refine Gp ?_
  refine za (λh=>absurd h h1) (λ_=>?_)
  exact⟨_,⟨rfl,rfl⟩,b_.iff.2 ⟨mb,m,L,hr,aR hS⟩⟩
 ·obtain⟨h0,pa,ur⟩:=sf h2
  rw[e,if_neg (λh=>h h1)]
  unfold gU
  refine Gp ?_
  refine za (λ_=>?_) (λh=>absurd rfl h)
  refine Cg (yp dp mb s h0 b5.n3 b5.n_ eJ) λw hS=>?_
  by_cases hc:s.dB.off=true
  ·have he:s.dB.err=8:=by unfold DS.err;rw[if_pos hc]
   rw[he,if_pos hc]
   refine za (λh=>by cases h) (λ_=>?_)
   exact⟨_,⟨rfl,rfl⟩,b_.iff.2 ⟨mb,m,L,hr,aR hS⟩⟩
  ·have he:s.dB.err=0:=by unfold DS.err;rw[if_neg hc]
   rw[he,if_neg hc]
   refine za (λ_=>?_) (λh=>absurd rfl h)
   refine Gp ?_
   refine aW1 (key:=Value.int .i64) (val:=gU) (k:=f) hS Xu (s_ .i64) Tryz.underlying127 Tryz.underlying3 ?_
   clear hS;intro _ w hS
   have hS:=vG hg (SL.b6 hS (t:=.ob (zf fM L)::.pt dp (iT mb s.dB) 129::.ob (fC (Value.int .i64) gU mb (oB m f))::F) Xi)
   have eL:j6 gy L f=L.eraseIdx (eD gy L f):=by
    unfold j6;rw[if_pos (by rw[<- xo,hg];rfl)]
   have hd:=hr.del f
   rw[eL]at hd
   exact⟨_,⟨rfl,rfl⟩,b_.iff.2 ⟨mb,_,_,hd,aR hS⟩⟩
def wY(dp:Nat)(s:DS)(f:Int)(v:Value)(post:List Chunk):Prop:=match dP PF.id s.R f with
 | none=>v= .tuple #[.slice none 0 0,.bool false]/\post=[.ob (b_ dp s)]
 | some x=>∃u,v= .tuple #[u,.bool true]/\post=[.ob (b_ dp s),.ob (a7 u 5 1 x.b.length (x.b.map cI))]
theorem Z5(dp:Nat)(s:DS)(N:Nat)(b5:s.Ok N)(hN:N<=140737488355328)(f:Int):
  SP 103 [.pointer (some ⟨dp,0,none⟩),.int .i64 f] [.ob (b_ dp s)] (wY dp s f):=by
 intro W F w hS;apply bwm;delta HQ bw dk bF;(try simp only[app]at hS)
 obtain⟨mb,m,L,hr,hS⟩:=b_.iff.1 hS
 refine Gp ?_
 refine Zr hS Xh (s_ .i64) Tryz.underlying127 Tryz.underlying3 (λ_=>rfl) ?_
 rw[hr.get f]
 cases hg:dP gy L f with
 | none=>
  simp only[Option.map_none,Option.getD_none]
  refine Z7 (zw ?_)
  exact⟨[.ob (b_ dp s)],by unfold wY;rw[hr.fe f,hg];exact⟨rfl,rfl⟩,b_.iff.2 ⟨mb,m,L,hr,aR hS⟩⟩
 | some x=>
  simp only[Option.map_some,Option.getD_some]
  unfold gU
  refine Z7 (zq ?_)
  have Pc:x.1.b.length<=N:=b5.len _ (by rw[<- hr.eq];exact List.mem_map.2 ⟨x,List.mem_of_getElem? (sR hg).1,rfl⟩)
  have hS:=vG hg (SL.b6 hS (t:=.ob (zf fM L)::.pt dp (iT mb s) 129::.ob (fC (Value.int .i64) gU mb m)::F) Xi)
  obtain⟨v0,hS⟩:=fM.iff.1 hS
  refine Gp ?_
  obtain⟨a,cap,rfl,hl,_⟩:=a7.at hS (t:=5) (sz:=1) (n:=x.1.b.length) (cells:=x.1.b.map cI) Xh
  refine Zq (cs:=x.1.b.map cI) hS (λw' c gx=>nc gx (.tl Xh)) (by simp) (j3 _) (by omega) ?_
  clear hS;intro u w hS _
  have hS:=Eg hg ((fM.iff (x:=x)).2 ⟨_,SL.b6 hS (t:=.pt x.2 [.slice a x.1.b.length cap,.int .i64 x.1.safe] 142::.ob (a7 (.slice a x.1.b.length cap) 5 1 x.1.b.length (x.1.b.map cI))::.ob (zf fM (L.eraseIdx (eD gy L f)))::.ob (a7 u 5 1 x.1.b.length (x.1.b.map cI))::.pt dp (iT mb s) 129::.ob (fC (Value.int .i64) gU mb m)::F) Xi⟩)
  exact⟨[.ob (b_ dp s),.ob (a7 u 5 1 x.1.b.length (x.1.b.map cI))],by unfold wY;rw[hr.fe f,hg];exact⟨u,rfl,rfl⟩,b_.iff.2 ⟨mb,m,L,hr,aR hS⟩⟩
theorem QR(dp:Nat)(s:DS)(f:Int):
  SP 149 [.pointer (some ⟨dp,0,none⟩),.int .i64 f] [.ob (b_ dp s)] (dj (.int .i64 (mE s.R f)) [.ob (b_ dp s)]):=by
 intro W F w hS;apply bFh;delta Iu bw ai dk;(try simp only[app]at hS)
 obtain⟨mb,m,L,hr,hS⟩:=b_.iff.1 hS
 unfold mE
 rw[hr.fe f]
 refine Gp ?_
 refine Zr hS Xh (s_ .i64) Tryz.underlying127 Tryz.underlying3 (λ_=>rfl) ?_
 rw[hr.get f]
 cases hg:dP gy L f with
 | none=>
  simp only[Option.map_none,Option.getD_none]
  refine GW (zq ?_)
  exact⟨_,⟨rfl,rfl⟩,b_.iff.2 ⟨mb,m,L,hr,aR hS⟩⟩
 | some x=>
  simp only[Option.map_some,Option.getD_some]
  unfold gU
  refine GW (zw ?_)
  have hS:=vG hg (SL.b6 hS (t:=.ob (zf fM L)::.pt dp (iT mb s) 129::.ob (fC (Value.int .i64) gU mb m)::F) Xi)
  obtain⟨v0,hS⟩:=fM.iff.1 hS
  refine Gp ?_
  refine zr hS (t:=5) (sz:=1) (n:=x.1.b.length) (cells:=x.1.b.map cI) Xh ?_
  have hS:=Eg hg ((fM.iff (x:=x)).2 ⟨_,hS⟩)
  exact⟨_,⟨rfl,rfl⟩,b_.iff.2 ⟨mb,m,L,hr,aR hS⟩⟩
theorem wf_i64{n:Int}(h : -9223372036854775808<=n/\n<=9223372036854775807):(Lit.int .i64 n).wf=true:=by
 simpa [Lit.wf,IntKind.min,IntKind.max,IntKind.signed,IntKind.bits] using h
theorem YZ(dp:Nat)(s:DS)(N:Nat)(b5:s.Ok N)(hR:s.R.length<=100000):
  SP 67 [.pointer (some ⟨dp,0,none⟩)] [.ob (b_ dp s)] (λv post=>post=[.ob (b_ dp s),.ob (a7 v 3 1 s.R.length (s.R.map λx=>.int .i64 x.id))]):=by
 intro W F w hS;apply b58;delta Ld bw;(try simp only[app]at hS)
 obtain⟨mb,m,L,hr,hS⟩:=b_.iff.1 hS
 refine Gp ?_
 have s7:m.length=s.R.length:=by rw[hr.rel.len,hr.len]
 refine aWw hS Xh (by omega) (λp hp=>?_) ?_
 ·obtain⟨x,hx,rfl⟩:=List.mem_map.1 (hr.rel.1.subset hp)
  have:=b5.ids x.1 (by rw[<- hr.eq];exact List.mem_map.2 ⟨x,hx,rfl⟩)
  exact wf_i64 (by show -9223372036854775808<=gy x/\_;unfold gy;omega)
 ·clear hS;intro v w hS
  have e:(tB m).map (Value.int .i64)=s.R.map λx=>.int .i64 x.id:=by
   rw[hr.rel.tB,<- hr.eq,List.map_map,List.map_map];rfl
  rw[e,s7]at hS
  exact⟨_,rfl,b_.iff.2 ⟨mb,m,L,hr,aR hS⟩⟩
theorem Zc(dp:Nat)(s:DS):
  SP 64 [.pointer (some ⟨dp,0,none⟩)] [.ob (b_ dp s)] (dj (.bool s.off) [.ob (b_ dp s)]):=by
 intro W F w hS;apply b57;delta Lc bw;(try simp only[app]at hS)
 obtain⟨mb,m,L,hr,hS⟩:=b_.iff.1 hS
 refine Gp ?_
 exact⟨_,⟨rfl,rfl⟩,b_.iff.2 ⟨mb,m,L,hr,aR hS⟩⟩
end Go.Proofs.YtfenmffiidchcaaGreat
