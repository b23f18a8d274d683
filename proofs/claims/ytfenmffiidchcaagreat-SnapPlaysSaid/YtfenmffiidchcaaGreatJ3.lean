/-
  Texts of the proof, joined: Keys, KMod, DMod, RecM, RecM2, FldM, R01P, ModS, ReqM, ItemM, RqP, Sl8, KeysC, DiskS, CloneG, Sl9, ItemV, DiskS2, DiskS3, DiskS4.
-/
import Derived.Test.YtfenmffiidchcaaGreatJ2
import Derived.Shelf.SlIterI.Nil
import Derived.Shelf.SortM.Plain
import Derived.Shelf.SortM.SortNone
import Derived.WideShapes
import Derived.Test.YtfenmffiidchcaaGreatQVcG
import Derived.Test.YtfenmffiidchcaaGreatQLay
import Derived.Test.YtfenmffiidchcaaGreatQTab
namespace Go.Proofs.YtfenmffiidchcaaGreat
set_option linter.unusedVariables false
open Go.RowKit Go.Maps Go.Sort Go.Shelf
def wU{α:Type}(m:List (Int × α)):List Int:=(m.map (·.1)).mergeSort (λx y=>decide (x<=y))
section
variable {W w:World} {l:List Chunk} {P:Program} {ρ σ:Ren} {b:Nat} {α:Type} {val:α->Value} {m:List (Int × α)}
theorem SL.kept{w':World}(h:SL W l w)(hb:Below w.heap.size w w'):SL W l w':=by
 obtain⟨a1,a2,a3,k,s,x⟩:=h
 refine⟨hb.os.trans a1,hb.tape.trans a2,hb.output.trans a3,k,s,λb o e=>?_⟩
 have e1:=x b o e
 rw[hb.block b (Array.getElem?_eq_some_iff.1 e1).1];exact e1
theorem SL.bF2{w':World}{g:Nat}{cs:List Value}{t:TypeId}(h:SL W l w)(hb:Below w.heap.size w w')(hg:w.heap.size<=g)(he:w'.heap[g]?=some (.cells cs.toArray t (0,0))):SL W (.pt g cs t::l) w':=by
 obtain⟨a1,a2,a3,k,s,x⟩:=h
 have hk:k g=none:=by
  cases hx:k g with
  | none=>rfl
  | some y=>have:=(Array.getElem?_eq_some_iff.1 (x g y hx)).1;omega
 refine⟨hb.os.trans a1,hb.tape.trans a2,hb.output.trans a3,λy=>if y=g then some (.cells cs.toArray t (0,0)) else k y,⟨bw.one g (.cells cs.toArray t (0,0)),k,λy=>?_,⟨(0,0),.inl rfl,rfl⟩,s⟩,λy o e=>?_⟩
 ·by_cases hy:y=g
  ·subst hy;exact .inr ⟨hk,by simp[bw.one]⟩
  ·exact .inl ⟨by simp[bw.one,hy],by simp[hy]⟩
 ·by_cases hy:y=g
  ·subst hy;simp at e;rw[he,e]
  ·simp[hy]at e
   have e1:=x y o e
   rw[hb.block y (Array.getElem?_eq_some_iff.1 e1).1];exact e1
theorem SL.bF3{w':World}{v:Value}{n:Nat}{t:TypeId}{xs:List Value}(h:SL W l w)(hb:Below w.heap.size w w')(hr:w'.ownsRow w.heap.size t 1 v n xs):SL W (.ob (bI v t 1 n xs)::l) w':=by
 obtain⟨hx,h2⟩:=hr
 rcases h2 with ⟨rfl,rfl⟩|⟨g,cap,cur,rfl,hg,he,h3,h4,h5,h6⟩
 ·obtain rfl:xs=[]:=List.eq_nil_of_length_eq_zero (by simpa using hx)
  exact bI.nil (h.kept hb)
 ·refine bI.mk (rest:=cur.toList.drop (n*1)) h3 hx ?_ (h.bF2 hb hg ?_)
  ·rw[List.length_drop,Array.length_toList,h5,Nat.mul_sub_right_distrib]
  ·rw[<- h6,List.take_append_drop];exact he
theorem bWw{H:Type}{kt:TypeId}(Hq:P.underlying kt=some (.int .i64))(hS:SL W l w)(hm:Has (.ob (j4 (Value.int .i64) val b m)) l)(hlen:m.length<=maxLen)(xY:∀p∈m,(Lit.int .i64 p.1).wf=true):
  ∃D:DataW H,w.ownsMap P kt (λ_=>some (.nil,[])) b m.length D/\(intKeys D).Perm (m.map (·.1))/\Maps.size D=m.length:=by
 obtain⟨es,c,e1,e2,hb⟩:=hS.Ba hm
 have hl:es.length=m.length:=by simpa using congrArg List.length e1
 have xO:∀x∈es,∃p∈m,x.key= .int .i64 p.1:=λx hx=>by
  have:kv x∈es.map kv:=List.mem_map.2 ⟨x,hx,rfl⟩
  rw[e1]at this
  obtain⟨p,hp,hq⟩:=List.mem_map.1 this
  exact⟨p,hp,(Prod.mk.inj hq).1.symm⟩
 have iA:∀x∈es,∀a,x.key= .int .i64 a->WideElems.rd P kt (λ_=>some ((.nil:DataW H),[])) x=some (.int .i64 a,.nil):=λx hx a ha=>by
  obtain⟨p,hp,hq⟩:=xO x hx
  rw[ha]at hq;cases hq
  have hw:=xY p hp
  simp[WideElems.rd,keyOf,Hq,mapKey,ha,hw]
 refine⟨_,⟨es.toArray,c,hb,⟨by simpa [hl] using hlen,e2,λx hx=>?_⟩,by simp[hl],rfl⟩,?_,?_⟩
 ·obtain⟨p,hp,hq⟩:=xO x (by simpa using hx)
  exact⟨_,iA x (by simpa using hx) _ hq⟩
 ·show (List.map (λp:Lit × DataW H=>Go.intOf p.1) _).Perm _
  refine ((WideShapes.sorted_perm _).map _).trans ?_
  rw[List.map_map]
  have:es.map ((λp:Lit × DataW H=>Go.intOf p.1)∘WideElems.rg P kt (λ_=>some ((.nil:DataW H),[])))=m.map (·.1):=by
   have h1:es.map ((λp:Lit × DataW H=>Go.intOf p.1)∘WideElems.rg P kt (λ_=>some ((.nil:DataW H),[])))=(es.map kv).map λq=>match q.1 with | .int _ a=>a|_=>0:=by
    rw[List.map_map]
    refine List.map_congr_left λx hx=>?_
    obtain⟨p,hp,hq⟩:=xO x hx
    simp[WideElems.rg_of (iA x hx _ hq),kv,hq,Go.intOf]
   rw[h1,e1,List.map_map]
   rfl
  simpa using this▸List.Perm.refl _
 ·rw[Maps.size_eq,(WideShapes.sorted_perm _).length_eq];simp[hl]
theorem bF6(L7:SlLaysZI.n7 P ρ)(L6:SlLaysZI.n6 P σ)(a_u:∀m,AnyZI.SortsIn P σ Fence.wide m)(e9:∀args w,(callFunc (σ.f 9) args).run P w= .ok (.enter (σ.f 9) args) w)(GD:∀args w,(callFunc (ρ.f 10) args).run P w= .ok (.enter (ρ.f 10) args) w)
  (Hq:P.underlying (ρ.t 26)=some (.int .i64)) (hS:SL W l w) (hm:Has (.ob (j4 (Value.int .i64) val b m)) l) (hlen:m.length*8<=140737488355328) (xY:∀p∈m,(Lit.int .i64 p.1).wf=true) {K:Value->World->Prop}
  (h:∀v w',SL W (.ob (bI v (σ.t 26) 1 m.length ((wU m).map (Value.int .i64)))::l) w'->K v w') :
  zV P (ρ.f 7) [.map (some b)] w λv1 w1=>zV P (σ.f 6) [v1] w1 K:=by
 obtain⟨D,Sn,a_c,nM⟩:=bWw (H:=Unit) Hq hS hm (by unfold maxLen;omega) xY
 refine (callsIn_wide (n:=5)).1 ((AnyZI.keys_in L7 Fence.wide 5 trivial rfl (some b) w).mono ?_)
 rintro e w1 ⟨rfl,rfl⟩
 refine⟨_,rfl,?_⟩
 have vx:=Sn.lt
 have CR:SeqGives Fence.wide 2 P (ρ.f 10) #[.pointer (some ⟨w.heap.size,0,none⟩)] encZ (λss=>ss.Perm (intKeys D)) (Maps.size D) (w.alloc (.cells #[.map (some b)] (ρ.t 23))):=
  AnyZI.keys_gives (ρ:=ρ) {L7 with} Fence.wide _ trivial rfl (by omega) w.heap.size b m.length D _ (by simp) (by simp) (by
   obtain⟨es,clock,hb,Ft,hs,hD⟩:=Sn
   exact⟨es,clock,(Below.heap_alloc _ _ b vx).trans hb,Ft,hs,hD⟩)
 have cS:=AnyZI.sorted_in L6 Fence.wide 5 trivial trivial trivial trivial rfl (by omega) (a_u _) e9 (ρ.f 10) #[.pointer (some ⟨w.heap.size,0,none⟩)] trivial GD _ _ (by rw[nM];unfold maxLen;omega) (by rw[nM];exact hlen) _ CR
 refine (callsIn_wide (n:=5)).1 (cS.mono ?_)
 rintro e w' ⟨v,ss,rfl,EP,rY,CG,hb⟩
 refine⟨v,rfl,h v w' ?_⟩
 have hp:=EP.trans a_c
 have aWt:ss.length=m.length:=by simpa using hp.length_eq
 have vH:ss.mergeSort (λx y=>decide (x<=y))=wU m:=mergeSort_of_perm_i hp
 rw[aWt,vH]at rY
 have rQ:Below w.heap.size w w':=((Below.refl _ w).alloc (Nat.le_refl _) _).trans (hb.mono (by simp))
 exact hS.bF3 rQ (ownsRow_base_a rY (by simp))
end
section
variable {α:Type} (key:α->Int)
def ky(L:List α):Prop:=L.Pairwise λa b=>key a<key b
def iW(L:List α)(k:Int):Nat:=(L.filter λx=>decide (key x<k)).length
variable {key}
theorem Au(L:List α)(k:Int):iW key L k<=L.length:=List.length_filter_le _ _
theorem Gs{L:List α}(hs:ky key L)(k:Int):∀j (h:j<L.length),key L[j]<k↔j<iW key L k:=by
 unfold ky at hs
 unfold iW
 induction L with
 | nil=>intro j h;simp at h
 | cons x L ih=>
  rw[List.pairwise_cons]at hs
  intro j h
  by_cases hx:key x<k
  ·rw[List.filter_cons_of_pos (by simpa using hx)]
   cases j with
   | zero=>simp[hx]
   | succ j=>simpa using ih hs.2 j (by simpa using h)
  ·have e:L.filter (λr=>decide (key r<k))=[]:=by
    rw[List.filter_eq_nil_iff];intro y hy;have:=hs.1 y hy;simp;omega
   rw[List.filter_cons_of_neg (by simpa using hx),e]
   cases j with
   | zero=>simpa using hx
   | succ j=>
    have hm:L[j]'(by simpa using h)∈L:=List.getElem_mem _
    have:=hs.1 _ hm
    simp;omega
theorem Gr{L:List α}(hs:ky key L)(k:Int){i:Nat}(hi:i<=L.length)(h1:∀j (h:j<L.length),j<i->key L[j]<k)(h2:∀h:i<L.length,¬key L[i]<k):iW key L k=i:=by
 have hle:=Au (key:=key) L k
 rcases Nat.lt_trichotomy (iW key L k) i with h|h|h
 ·have:=(Gs hs k _ (by omega)).1 (h1 (iW key L k) (by omega) h)
  omega
 ·exact h
 ·have:=h2 (by omega)
  have h3:=(Gs hs k i (by omega)).2 h
  exact absurd h3 this
theorem Gq{L:List α}(hs:ky key L){k:Int}{j:Nat}(hj:j<L.length)(h:key L[j]=k):iW key L k=j:=by
 refine Gr hs k (by omega) (λi hi vC=>?_) (λ_=>by omega)
 have:=List.pairwise_iff_getElem.1 hs i j hi hj vC
 omega
def kq(key:α->Int)(L:List α)(k:Int):Bool:=match L[iW key L k]? with
 | some x=>decide (key x=k)
 | none=>false
theorem E6{L:List α}(hs:ky key L){k:Int}:kq key L k=true↔∃x∈L,key x=k:=by
 unfold kq
 constructor
 ·intro h
  split at h
  ·rename_i x e
   exact⟨x,List.mem_of_getElem? e,of_decide_eq_true h⟩
  ·cases h
 ·rintro ⟨x,hx,rfl⟩
  obtain⟨j,hj,rfl⟩:=List.mem_iff_getElem.1 hx
  rw[Gq hs hj rfl,List.getElem?_eq_getElem hj]
  simp
theorem th{L:List α}{k:Int}(h:kq key L k=true):∃hl:iW key L k<L.length,key L[iW key L k]=k:=by
 unfold kq at h
 split at h
 ·rename_i x e
  obtain⟨hl,rfl⟩:=List.getElem?_eq_some_iff.1 e
  exact⟨hl,of_decide_eq_true h⟩
 ·cases h
theorem Io{L:List α}(hs:ky key L){k:Int}(h:kq key L k=false):∀x∈L,key x≠k:=λx hx e=>by
 have:=(E6 hs).2 ⟨x,hx,e⟩
 rw[h]at this;cases this
def iz(key:α->Int)(L:List α)(k:Int):Option α:=if kq key L k then L[iW key L k]? else none
def mo(key:α->Int)(L:List α)(x:α):List α:=L.take (iW key L (key x))++[x]++L.drop (if kq key L (key x) then iW key L (key x)+1 else iW key L (key x))
def nI(key:α->Int)(L:List α)(k:Int):List α:=if kq key L k then L.eraseIdx (iW key L k) else L
theorem Fq{L:List α}{x:α}(h:kq key L (key x)=true):mo key L x=L.set (iW key L (key x)) x:=by
 obtain⟨hl,_⟩:=th h
 unfold mo
 rw[if_pos h,List.set_eq_take_append_cons_drop,if_pos hl];simp
theorem uJ{L:List α}{k:Int}{x:α}(h:iz key L k=some x):x∈L/\key x=k:=by
 unfold iz at h
 split at h
 ·rename_i hi
  obtain⟨hl,e⟩:=th hi
  rw[List.getElem?_eq_getElem hl]at h
  cases h
  exact⟨List.getElem_mem hl,e⟩
 ·cases h
theorem AJ{L:List α}(hs:ky key L){x:α}(h:x∈L):iz key L (key x)=some x:=by
 unfold iz
 rw[if_pos ((E6 hs).2 ⟨x,h,rfl⟩)]
 obtain⟨j,hj,rfl⟩:=List.mem_iff_getElem.1 h
 rw[Gq hs hj rfl,List.getElem?_eq_getElem hj]
theorem GZ{L:List α}(hs:ky key L){k:Int}:iz key L k=none↔∀x∈L,key x≠k:=by
 constructor
 ·intro h x hx e
  subst e
  rw[AJ hs hx]at h;cases h
 ·intro h
  cases hg:iz key L k with
  | none=>rfl
  | some x=>obtain⟨h1,h2⟩:=uJ hg;exact absurd h2 (h x h1)
theorem U1{L:List α}(hs:ky key L){i:Nat}(hi:i<L.length){x:α}(hx:key x=key L[i]):ky key (L.set i x):=by
 unfold ky at *
 rw[List.pairwise_iff_getElem]at *
 intro a b ha hb vv
 rw[List.length_set]at ha hb
 rw[List.getElem_set,List.getElem_set]
 have h1:=hs a b ha hb vv
 split<;>split
 ·omega
 ·rename_i e _;subst e;omega
 ·rename_i e;subst e;omega
 ·exact h1
theorem Uc{L:List α}(hs:ky key L){x:α}(h:kq key L (key x)=false):(mo key L x).Perm (x::L):=by
 unfold mo
 rw[if_neg (by rw[h];decide)]
 have:L=L.take (iW key L (key x))++L.drop (iW key L (key x)):=by simp
 conv=>rhs;rw[this]
 rw[List.append_assoc]
 exact List.perm_middle
theorem IT{L:List α}(hs:ky key L)(x:α):ky key (mo key L x):=by
 cases h:kq key L (key x) with
 | true=>
  rw[Fq h]
  obtain⟨hl,e⟩:=th h
  exact U1 hs hl e.symm
 | false=>
  have hn:=Io hs h
  unfold mo
  rw[if_neg (by rw[h];decide)]
  have iZ:=Gs hs (key x)
  have hle:=Au (key:=key) L (key x)
  unfold ky at *
  rw[List.append_assoc,List.pairwise_append]
  refine⟨hs.sublist (List.take_sublist _ _),?_,λa ha b hb=>?_⟩
  ·rw[List.singleton_append,List.pairwise_cons]
   refine⟨λb hb=>?_,hs.sublist (List.drop_sublist _ _)⟩
   obtain⟨j,hj,rfl⟩:=List.mem_iff_getElem.1 hb
   rw[List.getElem_drop]
   have rh:iW key L (key x)+j<L.length:=by simp at hj;omega
   have h1:=(not_congr (iZ _ rh)).2 (by omega)
   have h2:=hn _ (List.getElem_mem rh)
   omega
  ·obtain⟨j,hj,rfl⟩:=List.mem_iff_getElem.1 ha
   rw[List.getElem_take]
   have rh:j<iW key L (key x)/\j<L.length:=by simp at hj;omega
   have h1:=(iZ j rh.2).2 rh.1
   rcases List.mem_append.1 hb with hb|hb
   ·simp at hb;subst hb;exact h1
   ·obtain⟨i,hi,rfl⟩:=List.mem_iff_getElem.1 hb
    rw[List.getElem_drop]
    have vB:iW key L (key x)+i<L.length:=by simp at hi;omega
    have h3:=(not_congr (iZ _ vB)).2 (by omega)
    omega
theorem PH{L:List α}(hs:ky key L)(k:Int):ky key (nI key L k):=by
 unfold nI
 split
 ·exact hs.sublist (List.eraseIdx_sublist _ _)
 ·exact hs
theorem bRw{L:List α}(hs:ky key L):(L.map key).Nodup:=by
 refine List.pairwise_map.2 (List.Pairwise.imp (R:=λa b=>key a<key b) (λ{a b} vv=>?_) hs)
 omega
theorem XG{L:List α}(hs:ky key L)(k:Int):nI key L k=L.filter λx=>decide (key x≠k):=by
 unfold nI
 split
 ·rename_i h
  obtain⟨hl,e⟩:=th h
  generalize iW key L k=i at *
  have nZ:=hs
  unfold ky at nZ
  clear h hs
  induction L generalizing i with
  | nil=>simp at hl
  | cons y L ih=>
   rw[List.pairwise_cons]at nZ
   cases i with
   | zero=>
    simp only[List.getElem_cons_zero]at e
    rw[List.eraseIdx_cons_zero,List.filter_cons_of_neg (by simp[e])]
    symm
    rw[List.filter_eq_self]
    intro z hz
    have:=nZ.1 z hz
    simp;omega
   | succ i=>
    have uS:i<L.length:=by simpa using hl
    have e':key L[i]=k:=by simpa using e
    have:=nZ.1 _ (List.getElem_mem uS)
    rw[List.eraseIdx_cons_succ,List.filter_cons_of_pos (by simp;omega),ih i uS e' nZ.2]
 ·rename_i h
  have hn:=Io hs (by simpa using h)
  symm
  rw[List.filter_eq_self]
  intro x hx;simpa using hn x hx
theorem xl{β:Type}{kb:β->Int}{f:β->α}(hf:∀b,key (f b)=kb b)(L:List β)(k:Int):iW key (L.map f) k=iW kb L k:=by
 unfold iW
 rw[List.filter_map,List.length_map]
 congr 2
 funext b
 simp[hf]
theorem cw2{β:Type}{kb:β->Int}{f:β->α}(hf:∀b,key (f b)=kb b){L:List β}:ky key (L.map f)↔ky kb L:=by
 unfold ky
 rw[List.pairwise_map]
 simp only[hf]
theorem A'{β:Type}{kb:β->Int}{f:β->α}(hf:∀b,key (f b)=kb b)(L:List β)(k:Int):kq key (L.map f) k=kq kb L k:=by
 unfold kq
 rw[xl hf,List.getElem?_map]
 cases L[iW kb L k]? with
 | none=>rfl
 | some b=>simp[hf]
theorem b8h{β:Type}{kb:β->Int}{f:β->α}(hf:∀b,key (f b)=kb b)(L:List β)(b:β):(mo kb L b).map f=mo key (L.map f) (f b):=by
 unfold mo
 rw[A' hf,xl hf,hf]
 simp
theorem Tr{α β:Type}(f:β->α):∀(L:List β) (i:Nat),(L.eraseIdx i).map f=(L.map f).eraseIdx i
 | [],_=>rfl
 | x::L,0=>rfl
 | x::L,i+1=>by simp only[List.eraseIdx_cons_succ,List.map_cons,Tr f L i]
theorem PG{β:Type}{kb:β->Int}{f:β->α}(hf:∀b,key (f b)=kb b)(L:List β)(k:Int):(nI kb L k).map f=nI key (L.map f) k:=by
 unfold nI
 rw[A' hf,xl hf]
 split
 ·exact Tr f L _
 ·rfl
theorem C9{L:List α}{x y:α}(h:y∈mo key L x):y=x\/y∈L:=by
 unfold mo at h
 rcases List.mem_append.1 h with h|h
 ·rcases List.mem_append.1 h with h|h
  ·exact .inr (List.mem_of_mem_take h)
  ·exact .inl (by simpa using h)
 ·exact .inr (List.mem_of_mem_drop h)
theorem Ff{L:List α}{k:Int}{y:α}(h:y∈nI key L k):y∈L:=by
 unfold nI at h
 split at h
 ·exact List.mem_of_mem_eraseIdx h
 ·exact h
end
section
variable {α β:Type} {key:α->Int} {val:α->β} {m:List (Int × β)} {L:List α}
def nG(key:α->Int)(val:α->β)(m:List (Int × β))(L:List α):Prop:=m.Perm (L.map λx=>(key x,val x))/\ky key L
theorem nG.nodup(h:nG key val m L):(m.map (·.1)).Nodup:=by
 have:=h.1.map (·.1)
 rw[List.map_map]at this
 exact this.nodup_iff.2 (bRw h.2)
theorem TG(hn:(m.map (·.1)).Nodup)(k:Int)(v:β):lx m k=some v↔(k,v)∈m:=by
 induction m with
 | nil=>simp[lx]
 | cons p m ih=>
  rw[List.map_cons,List.nodup_cons]at hn
  obtain⟨a,b⟩:=p
  by_cases ha:a=k
  ·subst ha
   simp only[lx,if_true,Option.some.injEq,List.mem_cons,Prod.mk.injEq,true_and]
   constructor
   ·rintro rfl;exact .inl rfl
   ·rintro (h|h)
    ·exact h.symm
    ·exact absurd (List.mem_map.2 ⟨_,h,rfl⟩) hn.1
  ·have Ii:=ih hn.2
   have jJ:¬(k=a):=λe=>ha e.symm
   simp only[lx,ha,if_false,Ii,List.mem_cons,Prod.mk.injEq,jJ,false_and,false_or]
theorem nG.get(h:nG key val m L)(k:Int):lx m k=(iz key L k).map val:=by
 cases hg:iz key L k with
 | some x=>
  obtain⟨hx,rfl⟩:=uJ hg
  exact (TG h.nodup _ _).2 (h.1.symm.subset (List.mem_map.2 ⟨x,hx,rfl⟩))
 | none=>
  cases hm:lx m k with
  | none=>rfl
  | some v=>
   obtain⟨x,hx,e⟩:=List.mem_map.1 (h.1.subset ((TG h.nodup _ _).1 hm))
   cases e
   exact absurd rfl ((GZ h.2).1 hg x hx)
theorem bI5(hn:(m.map (·.1)).Nodup)(k:Int):tj m k=m.filter λp=>decide (p.1≠k):=by
 induction m with
 | nil=>rfl
 | cons p m ih=>
  rw[List.map_cons,List.nodup_cons]at hn
  unfold tj
  split
  ·rename_i e
   rw[List.filter_cons_of_neg (by simp[e])]
   symm
   rw[List.filter_eq_self]
   intro q hq
   have:q.1≠p.1:=λe2=>hn.1 (by rw[<- e2];exact List.mem_map.2 ⟨q,hq,rfl⟩)
   simp;omega
  ·rename_i e
   rw[List.filter_cons_of_pos (by simpa using e),ih hn.2]
theorem nG.del(h:nG key val m L)(k:Int):nG key val (tj m k) (nI key L k):=by
 refine⟨?_,PH h.2 k⟩
 rw[bI5 h.nodup,XG h.2]
 have:=h.1.filter λp=>decide (p.1≠k)
 rwa [List.filter_map]at this
theorem bRi{k:Int}(hn:lx m k=none)(v:β):mD m k v=m++[(k,v)]:=by
 induction m with
 | nil=>rfl
 | cons p m ih=>
  unfold lx at hn
  split at hn
  ·cases hn
  ·rename_i e
   unfold mD
   rw[if_neg e,ih hn];rfl
theorem nG.add(h:nG key val m L){x:α}(hn:kq key L (key x)=false):nG key val (mD m (key x) (val x)) (mo key L x):=by
 refine⟨?_,IT h.2 x⟩
 have hg:iz key L (key x)=none:=(GZ h.2).2 (Io h.2 hn)
 rw[bRi (by rw[h.get,hg];rfl)]
 have h1:=(Uc h.2 hn).map λx=>(key x,val x)
 refine (List.perm_append_comm.trans ?_).trans h1.symm
 rw[List.map_cons]
 exact h.1.cons _
theorem nG.u7(h:nG key val m L){i:Nat}(hi:i<L.length){x:α}(h1:key x=key L[i])(h2:val x=val L[i]):nG key val m (L.set i x):=by
 refine⟨?_,U1 h.2 hi h1⟩
 have e:(L.set i x).map (λx=>(key x,val x))=L.map λx=>(key x,val x):=by
  rw[List.map_set,h1,h2]
  refine List.ext_getElem? λj=>?_
  rw[List.getElem?_set]
  split
  ·rename_i vC;subst vC
   rw[if_pos (by simpa using hi),List.getElem?_map,List.getElem?_eq_getElem hi];rfl
  ·rfl
 rw[e];exact h.1
theorem nG.wU(h:nG key val m L):wU m=L.map key:=by
 have hp:(m.map (·.1)).Perm (L.map key):=by
  have:=h.1.map (·.1)
  rwa [List.map_map]at this
 have e:YtfenmffiidchcaaGreat.wU m=(L.map key).mergeSort (λx y=>decide (x<=y)):=Go.mergeSort_of_perm_i hp
 rw[e]
 refine List.mergeSort_of_pairwise ?_
 refine List.pairwise_map.2 (List.Pairwise.imp (R:=λa b:α=>key a<key b) (λ{a b} vv=>?_) h.2)
 simp only[decide_eq_true_eq];omega
theorem nG.len(h:nG key val m L):m.length=L.length:=by simpa using h.1.length_eq
theorem nG.nil:nG key val [] []:=⟨.refl _,.nil⟩
end
structure PF where
 id:Int
 safe:Nat
 b:List UInt8
def fI(x:UInt8):Value:=.int .u8 (x.toNat:Int)
structure DS where
 R:List PF
 off:Bool
 arm:Int
 ops:Nat
def oD(f:Int):PF:=⟨f,0,[]⟩
def nV(R:List PF)(f:Int)(b:List UInt8):List PF:=mo PF.id R ⟨f,((iz PF.id R f).getD (oD f)).safe,((iz PF.id R f).getD (oD f)).b++b⟩
def oh(R:List PF)(f:Int)(g:PF->PF):List PF:=match iz PF.id R f with
 | some x=>mo PF.id R {g x with id:=f}
 | none=>R
def may(s:DS)(f:Int):Int:=if s.off=true then 8 else if f<0\/16384<=f then 1 else 0
def DS.g7(s:DS):DS:={s with off:=decide (s.arm=1),arm:=if 0<s.arm then s.arm-1 else s.arm,ops:=s.ops+1}
def DS.err(s:DS):Int:=if s.off=true then 8 else 0
def DS.find(s:DS)(f:Int):Int:=if may s f≠0 then may s f else if kq PF.id s.R f=true then 0 else 5
def DS.append(s:DS)(f:Int)(b:List UInt8):DS × Int:=if may s f≠0 then (s,may s f) else ({s.g7 with R:=nV s.R f b},s.g7.err)
def DS.sync(s:DS)(f:Int):DS × Int:=if s.find f≠0 then (s,s.find f) else if s.g7.off=true then (s.g7,8) else ({s.g7 with R:=oh s.R f λx=>{x with safe:=x.b.length}},0)
def rn(R:List PF)(f:Int):Int:=match iz PF.id R f with
 | some x=>x.b.length
 | none=>-1
def p5(n:Nat)(x:PF):PF:={x with b:=x.b.take n,safe:=min x.safe n}
def DS.cut(s:DS)(f n:Int):DS × Int:=if s.find f≠0 then (s,s.find f) else if n<0\/rn s.R f<n then (s,1) else if s.g7.off=true then (s.g7,8) else ({s.g7 with R:=oh s.R f (p5 n.toNat)},0)
def DS.remove(s:DS)(f:Int):DS × Int:=if s.find f≠0 then (s,s.find f) else if s.g7.off=true then (s.g7,8) else ({s.g7 with R:=nI PF.id s.R f},0)
def DS.pX(s:DS)(n:Int):DS:={s with arm:=max n 0}
structure DS.Ok(s:DS)(N:Nat):Prop where
 sorted:ky PF.id s.R
 ids:∀x∈s.R,0<=x.id/\x.id<16384
 safe:∀x∈s.R,x.safe<=x.b.length
 len:∀x∈s.R,x.b.length<=N
 sZ:0<=s.arm
 s5:s.arm<=9223372036854775807
theorem Fg{R:List PF}{f:Int}{g:PF->PF}{y:PF}(h:y∈oh R f g):y∈R\/∃x∈R,x.id=f/\y={g x with id:=f}:=by
 unfold oh at h
 split at h
 ·rename_i x e
  obtain⟨h1,h2⟩:=uJ e
  rcases C9 h with h|h
  ·exact .inr ⟨x,h1,h2,h⟩
  ·exact .inl h
 ·exact .inl h
theorem GY{R:List PF}{f:Int}{N:Nat}(h:∀x∈R,x.b.length<=N):((iz PF.id R f).getD (oD f)).b.length<=N:=by
 cases e:iz PF.id R f with
 | none=>exact Nat.zero_le _
 | some x=>exact h x (uJ e).1
theorem aFi{R:List PF}{f:Int}(h:∀x∈R,x.safe<=x.b.length):((iz PF.id R f).getD (oD f)).safe<=((iz PF.id R f).getD (oD f)).b.length:=by
 cases e:iz PF.id R f with
 | none=>exact Nat.zero_le _
 | some x=>exact h x (uJ e).1
theorem DS.Ok.mono{s:DS}{N M:Nat}(h:s.Ok N)(hm:N<=M):s.Ok M:=⟨h.sorted,h.ids,h.safe,λx hx=>Nat.le_trans (h.len x hx) hm,h.sZ,h.s5⟩
theorem DS.Ok.g7{s:DS}{N:Nat}(h:s.Ok N):s.g7.Ok N:=by
 have h0:=h.sZ
 have h1:=h.s5
 refine⟨h.sorted,h.ids,h.safe,h.len,?_,?_⟩<;>simp only[DS.g7]<;>split<;>omega
theorem DS.Ok.JD{s:DS}{N:Nat}(h:s.Ok N){R:List PF}(h1:ky PF.id R)(h2:∀x∈R,0<=x.id/\x.id<16384)(h3:∀x∈R,x.safe<=x.b.length)(h4:∀x∈R,x.b.length<=N):({s with R:=R}:DS).Ok N:=
 ⟨h1,h2,h3,h4,h.sZ,h.s5⟩
theorem vN{s:DS}{f:Int}(h:may s f=0):s.off=false/\0<=f/\f<16384:=by
 unfold may at h
 split at h
 ·cases h
 ·split at h
  ·cases h
  ·rename_i h1 h2
   refine⟨by simpa using h1,by omega,by omega⟩
theorem DS.Ok.append{s:DS}{N:Nat}(h:s.Ok N)(f:Int)(b:List UInt8):(s.append f b).1.Ok (N+b.length):=by
 unfold DS.append
 split
 ·exact h.mono (by omega)
 ·rename_i hm
  have hm:may s f=0:=by simpa using hm
  obtain⟨_,f0,f1⟩:=vN hm
  have hl:=GY (f:=f) h.len
  have hs:=aFi (f:=f) h.safe
  refine (h.g7.mono (Nat.le_add_right N b.length)).JD (IT h.sorted _) ?_ ?_ ?_
  ·intro x hx
   rcases C9 hx with rfl|hx
   ·exact⟨f0,f1⟩
   ·exact h.ids x hx
  ·intro x hx
   rcases C9 hx with rfl|hx
   ·simp only[List.length_append];omega
   ·exact h.safe x hx
  ·intro x hx
   rcases C9 hx with rfl|hx
   ·simp only[List.length_append];omega
   ·have:=h.len x hx;omega
theorem cF8{R:List PF}(h:ky PF.id R)(f:Int)(g:PF->PF):ky PF.id (oh R f g):=by
 unfold oh
 split
 ·exact IT h _
 ·exact h
theorem DS.Ok.u7{s:DS}{N:Nat}(h:s.Ok N)(f:Int)(g:PF->PF)(h1:∀x,x.safe<=x.b.length->(g x).safe<=(g x).b.length)(h2:∀x,(g x).b.length<=x.b.length):({s.g7 with R:=oh s.R f g}:DS).Ok N:=by
 refine h.g7.JD (cF8 h.sorted f g) ?_ ?_ ?_
 ·intro x hx
  rcases Fg hx with hx|⟨y,hy,rfl,rfl⟩
  ·exact h.ids x hx
  ·exact h.ids y hy
 ·intro x hx
  rcases Fg hx with hx|⟨y,hy,rfl,rfl⟩
  ·exact h.safe x hx
  ·exact h1 y (h.safe y hy)
 ·intro x hx
  rcases Fg hx with hx|⟨y,hy,rfl,rfl⟩
  ·exact h.len x hx
  ·exact Nat.le_trans (h2 y) (h.len y hy)
theorem DS.Ok.sync{s:DS}{N:Nat}(h:s.Ok N)(f:Int):(s.sync f).1.Ok N:=by
 unfold DS.sync
 split
 ·exact h
 ·split
  ·exact h.g7
  ·exact h.u7 f _ (λx _=>Nat.le_refl _) (λx=>Nat.le_refl _)
theorem DS.Ok.cut{s:DS}{N:Nat}(h:s.Ok N)(f n:Int):(s.cut f n).1.Ok N:=by
 unfold DS.cut
 split
 ·exact h
 ·split
  ·exact h
  ·split
   ·exact h.g7
   ·exact h.u7 f _ (λx hx=>by simp only[p5,List.length_take];omega) (λx=>by simp only[p5,List.length_take];omega)
theorem DS.Ok.remove{s:DS}{N:Nat}(h:s.Ok N)(f:Int):(s.remove f).1.Ok N:=by
 unfold DS.remove
 split
 ·exact h
 ·split
  ·exact h.g7
  ·exact h.g7.JD (PH h.sorted _) (λx hx=>h.ids x (Ff hx)) (λx hx=>h.safe x (Ff hx)) (λx hx=>h.len x (Ff hx))
theorem DS.Ok.pX{s:DS}{N:Nat}(h:s.Ok N){n:Int}(hn:n<=9223372036854775807):(s.pX n).Ok N:=⟨h.sorted,h.ids,h.safe,h.len,by simp only[DS.pX];omega,by simp only[DS.pX];omega⟩
def mF:DS:=⟨[],false,0,0⟩
theorem I3(N:Nat):mF.Ok N:=⟨.nil,by simp[mF],by simp[mF],by simp[mF],by simp[mF],by simp[mF]⟩
open Go.RowKit
def Ac(a b:Int):Int:=IntKind.u32.wrap ((BitVec.ofInt IntKind.u32.bits a ^^^ BitVec.ofInt IntKind.u32.bits b).toNat)
def OU(a b:Int):Int:=IntKind.u32.wrap ((BitVec.ofInt IntKind.u32.bits a &&& BitVec.ofInt IntKind.u32.bits b).toNat)
def Ax(a:Int):Int:=IntKind.u32.wrap ((BitVec.ofInt IntKind.u32.bits IntKind.u32.max ^^^ BitVec.ofInt IntKind.u32.bits a).toNat)
def xk(c:Int):Int:=if OU c 1=1 then Ac (c.fdiv (2 ^ 1)) 3988292384 else c.fdiv (2 ^ 1)
def wm:Nat->Int->Int
 | 0,c=>c
 | n+1,c=>xk (wm n c)
def Dm(c:Int)(b:UInt8):Int:=wm 8 (Ac c (b.toNat:Int))
def mC(s:Int)(b:List UInt8):Int:=Ax (b.foldl Dm (Ax s))
def j9(n:Int):UInt8:=UInt8.ofNat (n % 256).toNat
theorem bIt(n:Int):fI (j9 n)= .int .u8 (IntKind.u8.wrap n):=by
 unfold fI j9
 congr 1
 rw[UInt8.toNat_ofNat']
 simp only[IntKind.wrap,IntKind.bits,IntKind.signed]
 have h1:=Int.emod_nonneg n (show (256:Int)≠0 by omega)
 have h2:=Int.emod_lt_of_pos n (show (0:Int)<256 by omega)
 simp
 omega
def four(x:Int):List UInt8:=[j9 (x.fdiv (2 ^ 24)),j9 (x.fdiv (2 ^ 16)),j9 (x.fdiv (2 ^ 8)),j9 x]
theorem tP(x:Int):(four x).length=4:=rfl
def sumOf(p:List UInt8):Int:=mC (mC 0 (four p.length)) p
def ic(p:List UInt8):List UInt8:=four p.length++four (sumOf p)++p
theorem o7(p:List UInt8):(ic p).length=8+p.length:=by simp[ic,tP];omega
def ly(b:List UInt8):Nat:=((b.getD 0 0).toNat*16777216+(b.getD 1 0).toNat*65536)+(b.getD 2 0).toNat*256+(b.getD 3 0).toNat
def lj(b:List UInt8):Except Int (List UInt8 × Nat):=
 if b.length<8 then .error 2
 else if 1048576<ly b then .error 3
 else if b.length<8+ly b then .error 2
 else if four (sumOf ((b.drop 8).take (ly b)))≠(b.drop 4).take 4 then .error 4
 else .ok ((b.drop 8).take (ly b),8+ly b)
def tz:Nat->List UInt8->List (List UInt8) × Nat
 | 0,_=>([],0)
 | f+1,b=>match lj b with
  | .ok (p,n)=>(p::(tz f (b.drop n)).1,n+(tz f (b.drop n)).2)
  | .error _=>([],0)
theorem TO(b:List UInt8):ly b<4294967296:=by
 unfold ly
 have h:∀i,(b.getD i 0).toNat<256:=λi=>UInt8.toNat_lt _
 have:=h 0;have:=h 1;have:=h 2;have:=h 3
 omega
theorem wL(n:Nat):(j9 (n:Int)).toNat=n % 256:=by
 unfold j9
 rw[UInt8.toNat_ofNat']
 omega
theorem tM(n k:Nat)(hk:0<k):(n:Int).fdiv (k:Int)=((n / k:Nat):Int):=by
 rw[Int.fdiv_eq_ediv_of_nonneg _ (by omega)];exact (Int.natCast_ediv n k).symm
theorem bRy(n:Nat)(r:List UInt8)(h:n<4294967296):ly (four n++r)=n:=by
 unfold ly four
 have e1:((n:Int).fdiv (2 ^ 24))=((n / 16777216:Nat):Int):=tM n 16777216 (by decide)
 have e2:((n:Int).fdiv (2 ^ 16))=((n / 65536:Nat):Int):=tM n 65536 (by decide)
 have e3:((n:Int).fdiv (2 ^ 8))=((n / 256:Nat):Int):=tM n 256 (by decide)
 rw[e1,e2,e3]
 simp only[List.cons_append,List.nil_append,List.getD_cons_zero,List.getD_cons_succ,wL]
 omega
theorem bRz{b:List UInt8}{k:Nat}(h:4<=k):ly (b.take k)=ly b:=by
 unfold ly
 have e:∀i,i<4->(b.take k).getD i 0=b.getD i 0:=λi hi=>by
  rw[List.getD_eq_getElem?_getD,List.getD_eq_getElem?_getD,List.getElem?_take,if_pos (by omega)]
 rw[e 0 (by omega),e 1 (by omega),e 2 (by omega),e 3 (by omega)]
theorem b9z{p r:List UInt8}(h:p.length<=1048576):ly (ic p++r)=p.length:=by
 unfold ic
 rw[List.append_assoc,List.append_assoc]
 exact bRy p.length _ (by omega)
theorem Vb{p r:List UInt8}(h:p.length<=1048576):lj (ic p++r)= .ok (p,8+p.length):=by
 have hn:=b9z (r:=r) h
 have hl:(ic p++r).length=8+p.length+r.length:=by rw[List.length_append,o7]
 have hd8:((ic p++r).drop 8).take p.length=p:=by
  unfold ic
  rw[show (8:Nat)=(four p.length++four (sumOf p)).length by simp[tP],List.append_assoc (four (p.length:Int)++four (sumOf p)) p r,List.drop_left]
  exact List.take_left
 have hd4:((ic p++r).drop 4).take 4=four (sumOf p):=by
  unfold ic
  rw[List.append_assoc,List.append_assoc,show (4:Nat)=(four (p.length:Int)).length by simp[tP],List.drop_left,show (four (p.length:Int)).length=(four (sumOf p)).length from rfl]
  exact List.take_left
 unfold lj
 rw[hn,if_neg (by omega),if_neg (by omega),if_neg (by omega),hd8,hd4,if_neg (by simp)]
theorem Va:lj []= .error 2:=rfl
theorem FA{f:Nat}{b p:List UInt8}{n:Nat}(h:lj b= .ok (p,n)):tz (f+1) b=(p::(tz f (b.drop n)).1,n+(tz f (b.drop n)).2):=by simp only[tz,h]
theorem Fz{f:Nat}{b:List UInt8}{e:Int}(h:lj b= .error e):tz (f+1) b=([],0):=by simp only[tz,h]
def mR(ps:List (List UInt8)):List UInt8:=(ps.map ic).flatten
theorem Fu(p:List UInt8)(ps:List (List UInt8)):mR (p::ps)=ic p++mR ps:=by simp[mR]
theorem Up(ps:List (List UInt8))(p:List UInt8):mR (ps++[p])=mR ps++ic p:=by simp[mR]
theorem UR:∀(ps:List (List UInt8)) (r:List UInt8) (f:Nat),(∀p∈ps,p.length<=1048576)->(∃e,lj r= .error e)->ps.length<f->tz f (mR ps++r)=(ps,(mR ps).length)
 | [],r,f+1,_,⟨e,he⟩,_=>by
  rw[show mR []++r=r from rfl,Fz he];rfl
 | p::ps,r,f+1,hp,he,hf=>by
  have EJ:=hp p (.head _)
  have ih:=UR ps r f (λq hq=>hp q (.tail _ hq)) he (Nat.lt_of_succ_lt_succ hf)
  rw[Fu,List.append_assoc,FA (Vb EJ),<- o7,List.drop_left,ih,List.length_append]
theorem Aa{b p:List UInt8}{n:Nat}(h:lj b= .ok (p,n)):8<=n/\n<=b.length/\p.length<=1048576/\n=8+p.length/\p=(b.drop 8).take p.length:=by
 unfold lj at h
 split at h
 ·cases h
 ·split at h
  ·cases h
  ·split at h
   ·cases h
   ·split at h
    ·cases h
    ·rename_i h1 h2 h3 h4
     have h:=Except.ok.inj h
     generalize ly b=k at *
     cases h
     have:((b.drop 8).take k).length=k:=by rw[List.length_take,List.length_drop];omega
     exact⟨by omega,by omega,by omega,by omega,by rw[this]⟩
theorem FG{b:List UInt8}{e:Int}(h:lj b= .error e):e=2\/e=3\/e=4:=by
 unfold lj at h
 split at h
 ·cases h;simp
 ·split at h
  ·cases h;simp
  ·split at h
   ·cases h;simp
   ·split at h
    ·cases h;simp
    ·cases h
theorem UQ:∀(f g:Nat) (b:List UInt8),b.length<f->b.length<g->tz f b=tz g b
 | f+1,g+1,b,hf,hg=>by
  cases h:lj b with
  | error e=>rw[Fz h,Fz h]
  | ok x=>
   obtain⟨p,n⟩:=x
   have:=Aa h
   rw[FA h,FA h,UQ f g (b.drop n) (by rw[List.length_drop];omega) (by rw[List.length_drop];omega)]
def lN(b:List UInt8):List (List UInt8) × Nat:=tz (b.length+1) b
theorem Fy{b p:List UInt8}{n:Nat}(h:lj b= .ok (p,n)):lN b=(p::(lN (b.drop n)).1,n+(lN (b.drop n)).2):=by
 have:=Aa h
 unfold lN
 rw[FA h,UQ b.length ((b.drop n).length+1) (b.drop n) (by rw[List.length_drop];omega) (by omega)]
theorem Di{b:List UInt8}{e:Int}(h:lj b= .error e):lN b=([],0):=Fz h
theorem cwo(f:Nat):∀b:List UInt8,b.length<f->(lN b).2<=b.length:=by
 induction f with
 | zero=>intro b h;omega
 | succ f ih=>
  intro b hb
  cases h:lj b with
  | error e=>rw[Di h];exact Nat.zero_le _
  | ok x=>
   obtain⟨p,n⟩:=x
   have h2:=Aa h
   have:=ih (b.drop n) (by rw[List.length_drop];omega)
   rw[Fy h]
   rw[List.length_drop]at this
   show n+_<=_
   omega
theorem Uo:∀ps:List (List UInt8),ps.length*8<=(mR ps).length
 | []=>by simp
 | p::ps=>by
  have:=Uo ps
  rw[Fu,List.length_append,o7,List.length_cons]
  omega
theorem cwp(ps:List (List UInt8))(r:List UInt8)(hp:∀p∈ps,p.length<=1048576)(he:∃e,lj r= .error e):lN (mR ps++r)=(ps,(mR ps).length):=by
 refine UR ps r _ hp he ?_
 have:=Uo ps
 rw[List.length_append];omega
structure ie where
 kind:Int
 n:Int
 s:ByteArray
def iR(x:ie):List Value:=[.int .i64 x.kind,.int .i64 x.n,.string x.s]
def uG:ie:=⟨0,0,⟨#[]⟩⟩
def iI(x:Int):Nat->List UInt8
 | 0=>[]
 | n+1=>j9 (x.fdiv (2 ^ (8*n)))::iI x n
theorem mE(x:Int):∀n,(iI x n).length=n
 | 0=>rfl
 | n+1=>by simp[iI,mE x n]
def nm(x:ie):Bool:=if x.kind=1 then decide (x.s=⟨#[]⟩) else if x.kind=2 then decide (x.n=0) && decide (x.s.size<=4096) else false
def r_(n:Int):Int:=n % 18446744073709551616
def jL(x:ie):List UInt8:=if x.kind=1 then j9 x.kind::iI (r_ x.n) 8 else j9 x.kind::(iI x.s.size 2++x.s.data.toList)
def po(l:List ie):Except Int (List UInt8):=if 32767<l.length then .error 1 else if l.all nm then .ok (iI l.length 2++(l.map jL).flatten) else .error 1
structure mg where
 b:List UInt8
 e:Int
def kY(n:Nat)(r:mg):List UInt8 × mg:=if r.e≠0 then ([],r) else if r.b.length<n then ([],{r with e:=2}) else (r.b.take n,{r with b:=r.b.drop n})
def j5(b:List UInt8):Nat:=b.foldl (λx c=>(x*256+c.toNat) % 18446744073709551616) 0
def kj(n:Nat)(r:mg):Nat × mg:=(j5 (kY n r).1,(kY n r).2)
def kF(m:Nat)(r:mg):Nat × mg:=if m<(kj 2 r).1 then (0,{(kj 2 r).2 with e:=3}) else kj 2 r
def sig(n:Nat):Int:=if n<9223372036854775808 then n else (n:Int)-18446744073709551616
def k9(r:mg):ie × mg:=
 if (kj 1 r).1=1 then (⟨1,sig (kj 8 (kj 1 r).2).1,⟨#[]⟩⟩,(kj 8 (kj 1 r).2).2)
 else if (kj 1 r).1=2 then (⟨2,0,⟨(kY (kF 4096 (kj 1 r).2).1 (kF 4096 (kj 1 r).2).2).1.toArray⟩⟩,(kY (kF 4096 (kj 1 r).2).1 (kF 4096 (kj 1 r).2).2).2)
 else (uG,if (kj 1 r).2.e=0 then {(kj 1 r).2 with e:=3} else (kj 1 r).2)
def k_:Nat->mg->List ie × mg
 | 0,r=>([],r)
 | i+1,r=>if r.e=0 then ((k9 r).1::(k_ i (k9 r).2).1,(k_ i (k9 r).2).2) else ([],r)
def lL(b:List UInt8):Except Int (List ie):=
 let m:=kF 32767 ⟨b,0⟩
 let x:=k_ m.1 m.2
 let e:=if x.2.e=0 then if 0<x.2.b.length then 3 else 0 else x.2.e
 if e=0 then .ok x.1 else .error e
def j6(n:Nat):List UInt8:=[0,1,1]++iI n 8
theorem vy(n:Nat):(j6 n).length=11:=by simp[j6,mE]
theorem WA(x:Nat)(b:List UInt8)(c:UInt8)(h:j5 b=x):j5 (b++[c])=(x*256+c.toNat) % 18446744073709551616:=by
 unfold j5 at *
 rw[List.foldl_append,h];rfl
theorem TR{n:Nat}(h:n<1152921504606846976):j5 (iI n 8)=n:=by
 have f:∀k,((n:Int).fdiv (2 ^ (8*k)))=((n / 2 ^ (8*k):Nat):Int):=λk=>by
  have:=tM n (2 ^ (8*k)) (Nat.two_pow_pos _)
  rw[<- this];push_cast;rfl
 unfold iI iI iI iI iI iI iI iI iI
 simp only[f,j5,List.foldl_cons,List.foldl_nil,wL,show (2:Nat) ^ (8*7)=72057594037927936 from rfl,show (2:Nat) ^ (8*6)=281474976710656 from rfl,show (2:Nat) ^ (8*5)=1099511627776 from rfl,
  show (2:Nat) ^ (8*4)=4294967296 from rfl,show (2:Nat) ^ (8*3)=16777216 from rfl,show (2:Nat) ^ (8*2)=65536 from rfl,show (2:Nat) ^ (8*1)=256 from rfl,show (2:Nat) ^ (8*0)=1 from rfl]
 omega
theorem bRs{x y:List UInt8}{n:Nat}(h:x.length=n):kY n ⟨x++y,0⟩=(x,⟨y,0⟩):=by
 subst h
 unfold kY
 rw[if_neg (by simp),if_neg (by simp)]
 simp
theorem IE{x y:List UInt8}{n:Nat}(h:x.length=n):kj n ⟨x++y,0⟩=(j5 x,⟨y,0⟩):=by
 unfold kj;rw[bRs h]
theorem Xw{n:Nat}(h:n<1152921504606846976):lL (j6 n)= .ok [⟨1,n,⟨#[]⟩⟩]:=by
 have h8:=TR h
 have hl:=mE (n:Int) 8
 unfold j6
 generalize iI (n:Int) 8=y at *
 have e1:kF 32767 ⟨[0,1,1]++y,0⟩=(1,⟨[1]++y,0⟩):=by
  have:kj 2 ⟨[0,1]++([1]++y),0⟩=(1,⟨[1]++y,0⟩):=IE rfl
  unfold kF
  rw[show ([0,1,1]++y:List UInt8)=[0,1]++([1]++y) from rfl,this,if_neg (by show ¬32767<1;omega)]
 have e3:kj 1 ⟨[1]++y,0⟩=(1,⟨y,0⟩):=IE rfl
 have e4:kj 8 ⟨y,0⟩=(n,⟨[],0⟩):=by
  have:=IE (x:=y) (y:=[]) hl
  rw[List.append_nil,h8]at this;exact this
 have e2:k9 ⟨[1]++y,0⟩=(⟨1,n,⟨#[]⟩⟩,⟨[],0⟩):=by
  unfold k9
  rw[e3,if_pos rfl,e4,sig,if_pos (by omega)]
 have e5:k_ 1 ⟨[1]++y,0⟩=([⟨1,n,⟨#[]⟩⟩],⟨[],0⟩):=by
  show (if (0:Int)=0 then _ else _)=_
  rw[if_pos rfl,e2];rfl
 unfold lL
 simp only[e1,e5]
 rfl
def AR(l:List ie):Option Int:=match l with
 | [f]=>if f.kind=1/\1<=f.n/\f.n<=1099511627776 then some f.n else none
 | _=>none
def pO(b:List UInt8):Option Int:=match lL b with
 | .ok l=>AR l
 | .error _=>none
theorem aR1{n:Nat}(h1:1<=n)(h:n<=1099511627776):pO (j6 n)=some (n:Int):=by
 unfold pO
 rw[Xw (by omega)]
 show (if (1:Int)=1/\1<=(n:Int)/\(n:Int)<=1099511627776 then some (n:Int) else none)=_
 rw[if_pos ⟨rfl,by omega,by omega⟩]
def kf(q:List UInt8):Option (Int × List (List UInt8) × Nat):=match (lN q).1 with
 | []=>none
 | h::l=>(pO h).map λn=>(n,l,(lN q).2)
theorem TP(x:Int):iI x 4=four x:=by
 have e:x.fdiv (2 ^ (8*0))=x:=by
  show x.fdiv 1=x
  rw[Int.fdiv_eq_ediv_of_nonneg _ (by decide),Int.ediv_one]
 unfold iI iI iI iI iI four
 rw[e]
theorem E_(c:UInt8)(n:Nat)(h:n % 256=c.toNat):j9 (n:Int)=c:=by
 have:=wL n
 rw[h]at this
 exact UInt8.toNat_inj.1 this
theorem Gc(a b c d:UInt8):j5 [a,b,c,d]=((a.toNat*16777216+b.toNat*65536)+c.toNat*256)+d.toNat:=by
 have:=a.toNat_lt;have:=b.toNat_lt;have:=c.toNat_lt;have:=d.toNat_lt
 simp only[j5,List.foldl_cons,List.foldl_nil]
 omega
theorem Tc{l:List UInt8}(h:l.length=4):∃a b c d,l=[a,b,c,d]:=by
 match l,h with
 | [a,b,c,d],_=>exact⟨a,b,c,d,rfl⟩
theorem Rh{l:List UInt8}(h:l.length=4):four (j5 l:Nat)=l:=by
 obtain⟨a,b,c,d,rfl⟩:=Tc h
 rw[Gc]
 have:=a.toNat_lt;have:=b.toNat_lt;have:=c.toNat_lt;have:=d.toNat_lt
 generalize hn:((a.toNat*16777216+b.toNat*65536)+c.toNat*256)+d.toNat=n
 unfold four
 have e1:((n:Int).fdiv (2 ^ 24))=((n / 16777216:Nat):Int):=tM n 16777216 (by decide)
 have e2:((n:Int).fdiv (2 ^ 16))=((n / 65536:Nat):Int):=tM n 65536 (by decide)
 have e3:((n:Int).fdiv (2 ^ 8))=((n / 256:Nat):Int):=tM n 256 (by decide)
 rw[e1,e2,e3,E_ a _ (by omega),E_ b _ (by omega),E_ c _ (by omega),E_ d _ (by omega)]
theorem WB{n:Nat}(h:n<4294967296):j5 (four n)=n:=by
 have e1:((n:Int).fdiv (2 ^ 24))=((n / 16777216:Nat):Int):=tM n 16777216 (by decide)
 have e2:((n:Int).fdiv (2 ^ 16))=((n / 65536:Nat):Int):=tM n 65536 (by decide)
 have e3:((n:Int).fdiv (2 ^ 8))=((n / 256:Nat):Int):=tM n 256 (by decide)
 unfold four
 rw[e1,e2,e3,Gc,wL,wL,wL,wL]
 omega
theorem O7{q:List UInt8}(h:4<=q.length):j5 (q.take 4)=ly q:=by
 obtain⟨a,b,c,d,e⟩:=Tc (l:=q.take 4) (by rw[List.length_take];omega)
 have h2:ly q=ly (q.take 4):=(bRz (Nat.le_refl 4)).symm
 rw[h2,e,Gc]
 rfl
theorem dW5(n:Int):0<=IntKind.u32.wrap n/\IntKind.u32.wrap n<4294967296:=by
 simp only[IntKind.wrap,IntKind.bits,IntKind.signed]
 simp
 omega
theorem IA(s:Int)(b:List UInt8):0<=mC s b/\mC s b<4294967296:=dW5 _
theorem cFh{q p:List UInt8}(h:8<=q.length)(hp:p.length=ly q):decide (¬mC (mC 0 (q.take 4)) p=((j5 ((q.drop 4).take 4):Nat):Int))=decide (four (sumOf p)≠(q.drop 4).take 4):=by
 have h1:(q.take 4).length=4:=by rw[List.length_take];omega
 have h2:((q.drop 4).take 4).length=4:=by rw[List.length_take,List.length_drop];omega
 have e1:q.take 4=four (p.length:Nat):=by rw[hp,<- O7 (by omega),Rh h1]
 have e2:mC (mC 0 (q.take 4)) p=sumOf p:=by rw[e1];rfl
 have hr:=IA (mC 0 (four (p.length:Nat))) p
 have hs:sumOf p=mC (mC 0 (four (p.length:Nat))) p:=rfl
 rw[<- hs]at hr
 rw[e2]
 congr 1
 refine propext (not_congr ⟨λh=>?_,λh=>?_⟩)
 ·rw[h,Rh h2]
 ·rw[<- h]
  obtain⟨n,hn⟩:∃n:Nat,sumOf p=(n:Int):=⟨(sumOf p).toNat,by omega⟩
  rw[hn,WB (by omega)]
def pk(l:List ie)(i:Nat)(r:mg):Except Int (List ie):=
 if (k_ i r).2.e=0 then (if 0<(k_ i r).2.b.length then .error 3 else .ok (l++(k_ i r).1)) else .error (k_ i r).2.e
theorem aii:∀(i:Nat) (r:mg),r.e≠0->k_ i r=([],r)
 | 0,r,_=>rfl
 | i+1,r,h=>by rw[k_,if_neg h]
theorem Ay{l:List ie}{i:Nat}{r:mg}(h:r.e≠0):pk l i r= .error r.e:=by
 unfold pk
 rw[aii i r h,if_neg h]
theorem PA(l:List ie)(b:List UInt8):pk l 0 ⟨b,0⟩=if 0<b.length then .error 3 else .ok l:=by
 unfold pk k_
 rw[if_pos rfl,List.append_nil]
theorem DX(l:List ie)(i:Nat)(b:List UInt8):pk l (i+1) ⟨b,0⟩=pk (l++[(k9 ⟨b,0⟩).1]) i (k9 ⟨b,0⟩).2:=by
 unfold pk
 have e:k_ (i+1) ⟨b,0⟩=((k9 ⟨b,0⟩).1::(k_ i (k9 ⟨b,0⟩).2).1,(k_ i (k9 ⟨b,0⟩).2).2):=by rw[k_,if_pos rfl]
 rw[e]
 simp only[List.append_assoc,List.cons_append,List.nil_append]
theorem TL{b:List UInt8}{n:Nat}(h:n<=b.length):kY n ⟨b,0⟩=(b.take n,⟨b.drop n,0⟩):=by
 unfold kY
 rw[if_neg (by simp),if_neg (by show ¬b.length<n;omega)]
theorem TM{b:List UInt8}{n:Nat}(h:b.length<n):kY n ⟨b,0⟩=([],⟨b,2⟩):=by
 unfold kY
 rw[if_neg (by simp),if_pos (by show b.length<n;omega)]
theorem Be{b:List UInt8}{n:Nat}(h:n<=b.length):kj n ⟨b,0⟩=(j5 (b.take n),⟨b.drop n,0⟩):=by unfold kj;rw[TL h]
theorem Fm{b:List UInt8}{n:Nat}(h:b.length<n):kj n ⟨b,0⟩=(0,⟨b,2⟩):=by unfold kj;rw[TM h];rfl
theorem Xx{b:List UInt8}(h:b.length<2):lL b= .error 2:=by
 have e:kF 32767 ⟨b,0⟩=(0,⟨b,2⟩):=by unfold kF;rw[Fm h,if_neg (by simp)]
 unfold lL
 simp only[e]
 rfl
theorem Xv{b:List UInt8}(h:2<=b.length)(hn:32767<j5 (b.take 2)):lL b= .error 3:=by
 have e:kF 32767 ⟨b,0⟩=(0,⟨b.drop 2,3⟩):=by unfold kF;rw[Be h,if_pos hn]
 unfold lL
 simp only[e]
 rfl
theorem Pv{b:List UInt8}(h:2<=b.length)(hn:j5 (b.take 2)<=32767):lL b=pk [] (j5 (b.take 2)) ⟨b.drop 2,0⟩:=by
 have e:kF 32767 ⟨b,0⟩=(j5 (b.take 2),⟨b.drop 2,0⟩):=by unfold kF;rw[Be h,if_neg (by show ¬32767<j5 (b.take 2);omega)]
 unfold lL pk
 simp only[e,List.nil_append]
 by_cases h1:(k_ (j5 (b.take 2)) ⟨b.drop 2,0⟩).2.e=0
 ·rw[if_pos h1,if_pos h1]
  by_cases h2:0<(k_ (j5 (b.take 2)) ⟨b.drop 2,0⟩).2.b.length
  ·rw[if_pos h2,if_pos h2,if_neg (by decide)]
  ·rw[if_neg h2,if_neg h2,if_pos rfl]
 ·rw[if_neg h1,if_neg h1,if_neg h1]
theorem Xz(l:List ie)(i:Nat):pk l (i+1) ⟨[],0⟩= .error 2:=by
 have e:k9 ⟨[],0⟩=(uG,⟨[],2⟩):=by
  unfold k9
  rw[Fm (n:=1) (b:=[]) (by decide)]
  rfl
 rw[DX,e,Ay (by decide)]
theorem ID(k:UInt8)(b:List UInt8):kj 1 ⟨k::b,0⟩=(k.toNat,⟨b,0⟩):=by
 rw[Be (by simp)]
 have:=k.toNat_lt
 simp only[List.take_succ_cons,List.take_zero,List.drop_succ_cons,List.drop_zero,j5,List.foldl_cons,List.foldl_nil]
 rw[show (0*256+k.toNat) % 18446744073709551616=k.toNat by omega]
theorem Py{l:List ie}{i:Nat}{k:UInt8}{b:List UInt8}(hk:k.toNat=1):pk l (i+1) ⟨k::b,0⟩=if b.length<8 then .error 2 else pk (l++[⟨1,sig (j5 (b.take 8)),⟨#[]⟩⟩]) i ⟨b.drop 8,0⟩:=by
 rw[DX]
 unfold k9
 rw[ID,if_pos hk]
 by_cases h:b.length<8
 ·simp only[Fm h]
  rw[if_pos h,Ay (by simp)]
 ·simp only[Be (Nat.not_lt.1 h)]
  rw[if_neg h]
theorem Pz{l:List ie}{i:Nat}{k:UInt8}{b:List UInt8}(hk:k.toNat=2):pk l (i+1) ⟨k::b,0⟩=if b.length<2 then .error 2 else if 4096<j5 (b.take 2) then .error 3 else if b.length-2<j5 (b.take 2) then .error 2 else
  pk (l++[⟨2,0,⟨((b.drop 2).take (j5 (b.take 2))).toArray⟩⟩]) i ⟨(b.drop 2).drop (j5 (b.take 2)),0⟩:=by
 rw[DX]
 unfold k9
 rw[ID,if_neg (by omega),if_pos hk]
 by_cases h:b.length<2
 ·have e:kF 4096 ⟨b,0⟩=(0,⟨b,2⟩):=by unfold kF;rw[Fm h,if_neg (by simp)]
  have e2:kY 0 ⟨b,2⟩=([],⟨b,2⟩):=by unfold kY;rw[if_pos (by simp)]
  simp only[e,e2]
  rw[if_pos h,Ay (by simp)]
 ·rw[if_neg h]
  by_cases h2:4096<j5 (b.take 2)
  ·have e:kF 4096 ⟨b,0⟩=(0,⟨b.drop 2,3⟩):=by unfold kF;rw[Be (Nat.not_lt.1 h),if_pos h2]
   have e2:kY 0 ⟨b.drop 2,3⟩=([],⟨b.drop 2,3⟩):=by unfold kY;rw[if_pos (by simp)]
   simp only[e,e2]
   rw[if_pos h2,Ay (by simp)]
  ·have e:kF 4096 ⟨b,0⟩=(j5 (b.take 2),⟨b.drop 2,0⟩):=by unfold kF;rw[Be (Nat.not_lt.1 h),if_neg h2]
   simp only[e]
   rw[if_neg h2]
   by_cases h3:b.length-2<j5 (b.take 2)
   ·rw[TM (by rw[List.length_drop];exact h3),if_pos h3,Ay (by simp)]
   ·rw[TL (by rw[List.length_drop];omega),if_neg h3]
theorem Xy{l:List ie}{i:Nat}{k:UInt8}{b:List UInt8}(h1:k.toNat≠1)(h2:k.toNat≠2):pk l (i+1) ⟨k::b,0⟩= .error 3:=by
 rw[DX]
 unfold k9
 rw[ID,if_neg h1,if_neg h2]
 simp only[if_true]
 rw[Ay (by simp)]
set_option maxRecDepth 100000
abbrev SP := Spec Tryz.prog
def md(v:Int)(n:Nat):Nat:=((IntKind.u64.wrap v) % (n:Int)).toNat
theorem oa(v:Int)(n:Nat)(hn:0<n):md v n<n:=by
 unfold md
 have h1:=Int.emod_nonneg (IntKind.u64.wrap v) (show (n:Int)≠0 by omega)
 have h2:=Int.emod_lt_of_pos (IntKind.u64.wrap v) (show (0:Int)<n by omega)
 omega
theorem yI(v:Int)(n:Nat)(h1:0<n)(h2:n<=9223372036854775807):SP 16 [.int .i64 v,.int .i64 (n:Int)] [] (eW (.int .i64 (md v n:Int)) []):=by
 intro W F w hS;apply cWa;unfold KT;(try simp only[app]at hS)
 have hn:IntKind.u64.wrap (n:Int)=n:=by rw[IntKind.wrap_u64];omega
 have hv:0<=IntKind.u64.wrap v:=by rw[IntKind.wrap_u64];omega
 refine zO (zO ?_)
 rw[hn]
 refine YP (by omega) ?_
 have e:(IntKind.u64.wrap v).tmod (n:Int)=(md v n:Int):=by
  rw[Int.tmod_eq_emod_of_nonneg hv];unfold md
  have:=Int.emod_nonneg (IntKind.u64.wrap v) (show (n:Int)≠0 by omega)
  omega
 rw[e]
 have:=oa v n h1
 refine yl (by omega) ?_
 (exact fw hS)
theorem yj(v:Int)(n:Nat)(h1:0<n)(h2:n<=9223372036854775807):SP 33 [.int .i64 v,.int .i64 (n:Int)] [] (eW (.int .i64 (md v n:Int)) []):=by
 intro W F w hS;apply dIv;unfold Nv;(try simp only[app]at hS)
 have hn:IntKind.u64.wrap (n:Int)=n:=by rw[IntKind.wrap_u64];omega
 have hv:0<=IntKind.u64.wrap v:=by rw[IntKind.wrap_u64];omega
 refine zO (zO ?_)
 rw[hn]
 refine YP (by omega) ?_
 have e:(IntKind.u64.wrap v).tmod (n:Int)=(md v n:Int):=by
  rw[Int.tmod_eq_emod_of_nonneg hv];unfold md
  have:=Int.emod_nonneg (IntKind.u64.wrap v) (show (n:Int)≠0 by omega)
  omega
 rw[e]
 have:=oa v n h1
 refine yl (by omega) ?_
 (exact fw hS)
structure Rq where
 id:Int
 table:Int
 weight:Int
 at_:Int
 iJ:Int
 chunks:Int
 done:Bool
deriving DecidableEq
def ka(r:Rq):List Value:=[.int .i64 r.id,.int .i64 r.table,.int .i64 r.weight,.int .i64 r.at_,.int .i64 r.iJ,.int .i64 r.chunks,.bool r.done]
theorem kU(r:Rq):(ka r).length=7:=rfl
theorem uE(r:Rq):∀v∈ka r,v.oneCell'=true:=by simp[ka,Value.oneCell']
abbrev mh(H:bw)(v:Value)(L:List Rq):Prop:=fW H 7 v L.length (L.map ka).flatten
def O_(late t:Int):Int:=IntKind.i64.wrap ((BitVec.ofInt IntKind.i64.bits (late.fdiv (2 ^ (min t.toNat IntKind.i64.bits))) &&& BitVec.ofInt IntKind.i64.bits 1).toNat)
theorem Uz{k:IntKind}{a b:Int}{K:Value->Prop}(hb:0<=b)(h:K (.int .i64 (O_ a b))):zc .shr (.int .i64 a) (.int k b) λv=>zc .and v (.int .i64 1) K:=by
 refine⟨.int .i64 (a.fdiv (2 ^ (min b.toNat IntKind.i64.bits))),?_,⟨_,?_,h⟩⟩
 ·simp only[mK];rw[if_neg (by omega)]
 ·simp only[mK,if_true];rfl
structure rF where
 kind:Int
 id:Int
 table:Int
 weight:Int
 at_:Int
 iJ:Int
 done:Bool
deriving DecidableEq
structure si where
 aI:Int
 ops:List pU
 notes:List rF
def sx(n:rF):List Value:=[.int .i64 n.kind,.int .i64 n.id,.int .i64 n.table,.int .i64 n.weight,.int .i64 n.at_,.int .i64 n.iJ,.bool n.done]
theorem BU(n:rF):(sx n).length=7:=rfl
def emp:ByteArray:=⟨#[]⟩
def iF(n:Int):ie:=⟨1,n,emp⟩
def tF(s:ByteArray):ie:=⟨2,0,s⟩
def so(b:Bool):Int:=if b=true then 1 else 0
structure e_ where
 l:List ie
 bad:Bool
def oZ(k:Int)(r:e_):ie × e_:=match r.bad,r.l with
 | false,f::l=>if f.kind=k then (f,⟨l,false⟩) else (uG,⟨f::l,true⟩)
 | _,l=>(uG,⟨l,true⟩)
def ko(r:e_):Int × e_:=((oZ 1 r).1.n,(oZ 1 r).2)
def jF(r:e_):ByteArray × e_:=((oZ 2 r).1.s,(oZ 2 r).2)
def iN(m:Int)(r:e_):Int × e_:=if (ko r).1<0\/m<(ko r).1 then (0,{(ko r).2 with bad:=true}) else ko r
def rJ(r:e_):Bool × e_:=(decide ((iN 1 r).1=1),(iN 1 r).2)
def iX{α:Type}(one:e_->α × e_):Nat->e_->List α × e_
 | 0,r=>([],r)
 | i+1,r=>if r.bad=true then ([],r) else ((one r).1::(iX one i (one r).2).1,(iX one i (one r).2).2)
def ui(i:Nat)(r:Rq):Prop:=r.id=(i:Int)+1/\0<=r.table/\r.table<8/\1<=r.weight/\r.weight<=8/\1<=r.at_/\r.at_<=1099511627776/\0<=r.iJ/\r.iJ<=1099511627776/\0<=r.chunks/\r.chunks<=1099511627776
def wa(L:List Rq)(i:Nat):Prop:=∀h:i<L.length,ui i L[i]/\(∀h0:0<i,L[i-1].at_<=L[i].at_)/\∀k (hk:k<i),¬(L[k].table=L[i].table/\L[k].done=false)
def kW(L:List Rq):Prop:=L.length<=64/\∀i,wa L i
instance (i:Nat) (r:Rq):Decidable (ui i r):=by unfold ui;infer_instance
theorem kW.fin{L:List Rq}:kW L↔L.length<=64/\∀i:Fin L.length,ui i.1 L[i.1]/\(0<i.1->(L[i.1-1]'(by omega)).at_<=L[i.1].at_)/\∀k:Fin i.1,¬((L[k.1]'(by omega)).table=L[i.1].table/\(L[k.1]'(by omega)).done=false):=
 ⟨λh=>⟨h.1,λi=>⟨(h.2 i.1 i.2).1,(h.2 i.1 i.2).2.1,λk=>(h.2 i.1 i.2).2.2 k.1 k.2⟩⟩,
  λh=>⟨h.1,λi hi=>⟨(h.2 ⟨i,hi⟩).1,(h.2 ⟨i,hi⟩).2.1,λk hk=>(h.2 ⟨i,hi⟩).2.2 ⟨k,hk⟩⟩⟩⟩
instance (L:List Rq):Decidable (kW L):=decidable_of_iff _ kW.fin.symm
theorem I2(L:List Rq):∀v∈(L.map ka).flatten,v.oneCell'=true:=pD uE L
def Fl(L:List Rq)(t w a:Int):Rq:=⟨((L.length+1:Nat):Int),t,w,a,0,0,false⟩
def sn(L:List Rq)(t w a:Int):Option (List Rq):=if kW L/\kW (L++[Fl L t w a]) then some (L++[Fl L t w a]) else none
def oA(L:List Rq)(id c:Int)(dn:Bool):Option (List Rq):=
 if kW L/\1<=id/\id<=L.length then match L[(id-1).toNat]? with
  | some r=>if r.done=true\/c<r.iJ\/1099511627776<c\/1099511627776<=r.chunks then none else some (L.set (id-1).toNat {r with iJ:=c,chunks:=r.chunks+1,done:=dn})
  | none=>none
 else none
theorem Pm{L:List Rq}(hM:kW L){j:Nat}(hj:j<L.length)(c:Int)(dn:Bool):oA L ((j+1:Nat):Int) c dn =
  if L[j].done=true\/c<L[j].iJ\/1099511627776<c\/1099511627776<=L[j].chunks then none else some (L.set j {L[j] with iJ:=c,chunks:=L[j].chunks+1,done:=dn}):=by
 unfold oA
 have e:(((j+1:Nat):Int)-1).toNat=j:=by omega
 rw[if_pos ⟨hM,by omega,by omega⟩,e,List.getElem?_eq_getElem hj]
theorem DR{L:List Rq}{id c:Int}{dn:Bool}(h:¬(kW L/\1<=id/\id<=L.length)):oA L id c dn=none:=if_neg h
theorem OM{L L':List Rq}{t w a:Int}(h:sn L t w a=some L'):kW L':=by
 unfold sn at h
 split at h
 ·rename_i hm;cases h;exact hm.2
 ·cases h
theorem W4{L L':List Rq}{id c:Int}{dn:Bool}(h:oA L id c dn=some L'):kW L':=by
 unfold oA at h
 split at h
 ·rename_i hm
  obtain⟨hM,h1,h2⟩:=hm
  split at h
  ·rename_i r hr
   split at h
   ·cases h
   ·rename_i hc
    cases h
    generalize (id-1).toNat=j at *
    obtain⟨hj,hr⟩:=List.getElem?_eq_some_iff.1 hr
    refine⟨by rw[List.length_set];exact hM.1,λi hi=>?_⟩
    rw[List.length_set]at hi
    have kM:∀k (hk:k<L.length),((L.set j {r with iJ:=c,chunks:=r.chunks+1,done:=dn})[k]'(by rw[List.length_set];exact hk)).at_=L[k].at_/\((L.set j {r with iJ:=c,chunks:=r.chunks+1,done:=dn})[k]'(by rw[List.length_set];exact hk)).table=L[k].table:=λk hk=>by
     rw[List.getElem_set];split
     ·rename_i e;subst e;rw[hr];exact⟨rfl,rfl⟩
     ·exact⟨rfl,rfl⟩
    obtain⟨k1,k2,k3⟩:=hM.2 i hi
    refine⟨?_,λh0=>?_,λk hk=>?_⟩
    ·rw[List.getElem_set];split
     ·rename_i e;subst e
      rw[hr]at k1
      unfold ui at k1 ⊢
      simp only
      omega
     ·exact k1
    ·rw[(kM (i-1) (by omega)).1,(kM i hi).1];exact k2 h0
    ·rw[(kM k (by omega)).2,(kM i hi).2]
     rintro ⟨e1,e2⟩
     rw[List.getElem_set]at e2
     split at e2
     ·rename_i e;subst e
      refine k3 j hk ⟨e1,?_⟩
      rw[hr]
      cases hd:r.done with
      | false=>rfl
      | true=>exact absurd (.inl hd) hc
     ·exact k3 k hk ⟨e1,e2⟩
  ·cases h
 ·cases h
def g8(v:Value)(t:TypeId)(sz n:Nat)(cells:List Value):zE:=nr λx:Option (Nat × List Value × Nat × List Value)=>match x with
 | none=>zU ((∃a,v= .slice a 0 0)/\n=0/\cells=[]) []
 | some (b,pre,cap,rest)=>zU (v= .slice (some ⟨b,pre.length,none⟩) n cap/\n<=cap/\cells.length=n*sz/\rest.length=(cap-n)*sz) [.pt b (pre++(cells++rest)) t]
section
variable {W w:World} {l:List Chunk} {v:Value} {t:TypeId} {sz n:Nat} {cells:List Value}
theorem g8.open(h:SL W (.ob (g8 v t sz n cells)::l) w):
  ((∃a,v= .slice a 0 0)/\n=0/\cells=[]/\SL W l w)\/∃b pre cap rest,v= .slice (some ⟨b,pre.length,none⟩) n cap/\n<=cap/\cells.length=n*sz/\rest.length=(cap-n)*sz/\SL W (.pt b (pre++(cells++rest)) t::l) w:=by
 unfold g8 at h
 obtain⟨x,h⟩:=SL.ex.1 h
 match x,h with
 | none,h=>
  obtain⟨⟨h1,h2,h3⟩,h⟩:=SL.fact.1 h
  exact .inl ⟨h1,h2,h3,h⟩
 | some (b,pre,cap,rest),h=>
  obtain⟨⟨h1,h2,h3,h4⟩,h⟩:=SL.fact.1 h
  exact .inr ⟨b,pre,cap,rest,h1,h2,h3,h4,h⟩
theorem g8.sK{a:Option Addr}(h:SL W l w):SL W (.ob (g8 (.slice a 0 0) t sz 0 [])::l) w:=by
 unfold g8
 exact SL.ex.2 ⟨none,SL.fact.2 ⟨⟨⟨_,rfl⟩,rfl,rfl⟩,h⟩⟩
theorem g8.mk{b cap o:Nat}{pre rest:List Value}(h1:n<=cap)(h2:cells.length=n*sz)(h3:rest.length=(cap-n)*sz)(ho:pre.length=o)(h:SL W (.pt b (pre++(cells++rest)) t::l) w):
  SL W (.ob (g8 (.slice (some ⟨b,o,none⟩) n cap) t sz n cells)::l) w:=by
 subst ho
 unfold g8
 exact SL.ex.2 ⟨some (b,pre,cap,rest),SL.fact.2 ⟨⟨rfl,h1,h2,h3⟩,h⟩⟩
theorem g8.of(h:SL W (.ob (bI v t sz n cells)::l) w):SL W (.ob (g8 v t sz n cells)::l) w:=by
 rcases bI.open h with ⟨⟨a,rfl⟩,rfl,rfl,hS⟩|⟨b,cap,rest,rfl,hc,hl,hr,hS⟩
 ·exact g8.sK hS
 ·exact g8.mk (pre:=[]) hc hl hr rfl (by simpa using hS)
theorem g8.at(h:SL W l w)(m:Has (.ob (g8 v t sz n cells)) l):∃a cap,v= .slice a n cap/\n<=cap/\cells.length=n*sz:=by
 obtain⟨l2,r⟩:=m.rem
 rcases g8.open (h.perm r.perm) with ⟨⟨a,rfl⟩,rfl,rfl,_⟩|⟨b,pre,cap,rest,rfl,hc,hl,_⟩
 ·exact⟨a,0,rfl,Nat.le_refl _,by simp⟩
 ·exact⟨_,cap,rfl,hc,hl⟩
theorem g8.one(h:SL W l w)(m:Has (.ob (g8 v t sz n cells)) l):v.oneCell'=true:=by
 obtain⟨a,cap,rfl,_⟩:=g8.at h m;rfl
theorem zY{K:Value->Prop}(h:SL W l w)(m:Has (.ob (g8 v t sz n cells)) l)(k:K (.int .i64 n)):zd v K:=by
 obtain⟨a,cap,rfl,_⟩:=g8.at h m
 exact yo k
theorem yF{j:Nat}{k:IntKind}{K:Value->Prop}(h:SL W l w)(m:Has (.ob (g8 v t sz n cells)) l)(hj:j<n)
  (hK:∀b o,(∀i u,i<sz->cells[j*sz+i]?=some u->w.cell? ⟨b,o+i,none⟩=some u)->K (.pointer (some ⟨b,o,none⟩))):ze sz v (.int k (j:Int)) K:=by
 obtain⟨l2,r⟩:=m.rem
 rcases g8.open (h.perm r.perm) with ⟨⟨a,rfl⟩,rfl,rfl,_⟩|⟨b,pre,cap,rest,rfl,hc,hl,hr,hS⟩
 ·omega
 ·refine zH hj (hK b (pre.length+j*sz) λi u hi hu=>hS.cell .hd ?_)
  rw[Nat.add_assoc,List.getElem?_append_right (by omega),Nat.add_sub_cancel_left,List.getElem?_append_left (List.getElem?_eq_some_iff.1 hu).1]
  exact hu
theorem Q9{k:Nat}{kk:IntKind}{K:Value->Prop}(hS:SL W (.ob (g8 v t sz n cells)::l) w)(hk:k<=n)(hK:∀u,SL W (.ob (g8 u t sz (n-k) (cells.drop (k*sz)))::l) w->K u):iQ sz v (some (.int kk (k:Int))) none none K:=by
 rcases g8.open hS with ⟨⟨a,rfl⟩,rfl,rfl,kL⟩|⟨b,pre,cap,rest,rfl,hc,hl,hr,kL⟩
 ·obtain rfl:k=0:=by omega
  refine⟨a,0,0,0,0,0,rfl,rfl,rfl,⟨kk,rfl⟩,Nat.le_refl _,Nat.le_refl _,Nat.le_refl _,?_⟩
  rw[if_pos rfl]
  exact hK _ (by simpa using g8.sK (t:=t) (sz:=sz) (a:=a) kL)
 ·refine⟨_,n,cap,k,n,cap,rfl,rfl,rfl,⟨kk,rfl⟩,hk,hc,Nat.le_refl _,hK _ ?_⟩
  by_cases e:cap=k
  ·obtain rfl:n=k:=by omega
   rw[if_pos e,Nat.sub_self,show cap-n=0 by omega,List.drop_eq_nil_of_le (by omega)]
   exact g8.sK kL.drop
  ·rw[if_neg e]
   have iZ:k*sz<=cells.length:=by rw[hl];exact Nat.mul_le_mul_right _ hk
   have e1:(some (⟨b,pre.length,none⟩:Addr)).map (·.add (k*sz))=some ⟨b,pre.length+k*sz,none⟩:=by simp[Addr.add_lit]
   rw[e1]
   refine g8.mk (pre:=pre++cells.take (k*sz)) (rest:=rest) (by omega) (by rw[List.length_drop,hl,Nat.mul_sub_right_distrib]) (by rw[hr];congr 1;omega) (by rw[List.length_append,List.length_take];omega) ?_
   rw[List.append_assoc,<- List.append_assoc (cells.take (k*sz)),List.take_append_drop]
   exact kL
theorem Zd{x y:Value}{lQ m:Nat}{z cs:List Value}{F:List Chunk}{K:Value->World->Prop}(hS:SL W l w)(hr:kG (.ob (g8 x t sz n cells)) l F)(lC:m8 w sz y m cs)
  (hl:cs.length=m*sz) (hz:z.length=sz) (h1:∀v∈cs,v.oneCell'=true) (hb:(n+m)*lQ<=140737488355328) (hn:n+m<=140737488355328)
  (h:∀v' w',SL W (.ob (g8 v' t sz (n+m) (cells++cs))::F) w'->K v' w'):zr sz lQ z t x y w K:=by
 rcases g8.open (hS.perm hr.perm) with ⟨⟨a,rfl⟩,rfl,rfl,kL⟩|⟨b,pre,cap,rest,rfl,hc,hlen,mW,kL⟩
 ·refine⟨a,0,0,m,cs,rfl,lC,hb,hn,λh0=>?_,λh0=>⟨[],(by cases a with|none=>exact⟨rfl,rfl⟩|some p=>exact⟨rfl,by simp,λj v e=>by simp at e⟩),λc kD nJ=>?_⟩⟩
  ·have hm:m=0:=by omega
   subst hm
   have:cs=[]:=List.eq_nil_of_length_eq_zero (by simpa using hl)
   subst this
   cases a with
   | none=>exact h _ _ (g8.sK kL)
   | some p=>exact h _ _ (g8.sK kL)
  ·refine h _ _ ?_
   have:=g8.mk (sz:=sz) (n:=0+m) (cells:=cs) (pre:=[]) (rest:=cW z (c-(0+m))) (cap:=c) kD (by simpa using hl) (by rw[om,hz]) rfl (SL.new (cs:=[]++(cs++cW z (c-(0+m)))) (t:=t) (kL.drew))
   simpa using this
 ·refine⟨some ⟨b,pre.length,none⟩,n,cap,m,cs,rfl,lC,hb,hn,λh0=>?_,λh0=>?_⟩
  ·have sF:cs.length<=rest.length:=by
    rw[hl,mW];exact Nat.mul_le_mul_right _ (by omega)
   show u0 (Addr.add ⟨b,pre.length,none⟩ (n*sz)) 0 cs w _
   rw[Addr.add_lit]
   refine Bp (t:=t) cs (pre.length+n*sz) 0 (pre++(cells++rest)) w (.pt b (pre++(cells++rest)) t::F) _ kL .hd (by simp[hlen];omega) h1 (λw' sB=>h _ _ ?_)
   have e:sM (pre++(cells++rest)) (pre.length+n*sz+0) cs=pre++((cells++cs)++rest.drop cs.length):=by
    rw[show pre.length+n*sz+0=(pre++cells).length by rw[List.length_append];omega,<- List.append_assoc,T8 sF]
    simp
   rw[e]at sB
   exact g8.mk (n:=n+m) (cells:=cells++cs) (rest:=rest.drop cs.length) h0 (by simp[hlen,hl,Nat.add_mul]) (by
    rw[List.length_drop,mW,hl,<- Nat.mul_sub_right_distrib];congr 1;omega) rfl sB
  ·refine⟨cells,⟨rfl,hlen,λj v e=>?_⟩,λc kD nJ=>h _ _ ?_⟩
   ·rw[Addr.add_lit]
    refine kL.cell .hd ?_
    rw[List.getElem?_append_right (by omega),Nat.add_sub_cancel_left,List.getElem?_append_left (List.getElem?_eq_some_iff.1 e).1];exact e
   ·have:=g8.mk (sz:=sz) (n:=n+m) (cells:=cells++cs) (pre:=[]) (rest:=cW z (c-(n+m))) (cap:=c) kD (by simp[hlen,hl,Nat.add_mul]) (by rw[om,hz]) rfl (SL.new (cs:=[]++((cells++cs)++cW z (c-(n+m)))) (t:=t) (kL.drop.drew))
    simpa using this
theorem g8.block(hS:SL W (.ob (g8 v t sz n cells)::l) w)(hn:0<n):∃b pre cap rest,v= .slice (some ⟨b,pre.length,none⟩) n cap/\n<=cap/\cells.length=n*sz/\rest.length=(cap-n)*sz/\SL W (.pt b (pre++(cells++rest)) t::l) w:=by
 rcases g8.open hS with ⟨_,h0,_⟩|h
 ·omega
 ·exact h
end
set_option maxRecDepth 100000
open Go.RowKit Go.Maps Go.Sort Go.Shelf
theorem cw3(m:Nat):AnyZI.SortsIn Tryz.prog UZ Fence.wide m:=
 ⟨λvh off cap ss W hH aRp nM=>callsIn_wide.2 (AnyM.slices_Sort_int UY vh off cap ss W hH aRp nM),
  λp cap W=>callsIn_wide.2 (AnyM.slices_Sort_int_none UY p cap W)⟩
section
variable {W w:World} {l:List Chunk} {b:Nat} {α:Type} {val:α->Value} {m:List (Int × α)}
theorem b_y(hS:SL W l w)(hm:Has (.ob (j4 (Value.int .i64) val b m)) l)(hlen:m.length*8<=140737488355328)(xY:∀p∈m,(Lit.int .i64 p.1).wf=true){K:Value->World->Prop}
  (h:∀v w',SL W (.ob (bI v 3 1 m.length ((wU m).map (Value.int .i64)))::l) w'->K v w') :
  aw 155 [.map (some b)] w λv1 w1=>aw 154 [v1] w1 K:=
 bF6 bF4 cw1 cw3 (enters_of Tryz.func234 (by kernel_rfl) rfl) (enters_of Tryz.func235 (by kernel_rfl) rfl) Tryz.underlying3 hS hm hlen xY h
end
set_option maxRecDepth 100000
open Go.RowKit
section
variable {W w:World} {l:List Chunk}
theorem zi.perm{α:Type}{A:α->zE}{xs ys:List α}(h:SL W (.ob (zi A xs)::l) w)(p:xs.Perm ys):SL W (.ob (zi A ys)::l) w:=
 zi.iff.2 ((zi.iff.1 h).perm ((p.map _).append_right l))
theorem SL.oF{v:Value}{t:TypeId}{sz n:Nat}{cells:List Value}(h:SL W l w)(m:Has (.ob (bI v t sz n cells)) l):v.oneCell'=true:=by
 obtain⟨a,cap,rfl,_⟩:=bI.at h m;rfl
theorem UC{t:TypeId}{a:Option Addr}{n c:Nat}{K:Value->Prop}(h:K (.bool a.isNone)):HEq (.slice t) false (.slice a n c) (.slice none 0 0) K:=⟨a.isNone,by cases a<;>rfl,h⟩
end
theorem B4{α β:Type}{key:α->Int}{kb:β->Int}{f:β->α}(hf:∀b,key (f b)=kb b)(L:List β)(k:Int):iz key (L.map f) k=(iz kb L k).map f:=by
 unfold iz
 rw[A' hf,xl hf]
 split
 ·rw[List.getElem?_map]
 ·rfl
theorem wy{α:Type}{key:α->Int}{L:List α}{k:Int}{x:α}(h:iz key L k=some x):L[iW key L k]?=some x/\iW key L k<L.length/\key x=k:=by
 unfold iz at h
 split at h
 ·rename_i hi
  obtain⟨hl,e⟩:=th hi
  refine⟨h,hl,?_⟩
  rw[List.getElem?_eq_getElem hl]at h
  cases h;exact e
 ·cases h
theorem B3{α:Type}{key:α->Int}{L:List α}{k:Int}:(iz key L k).isSome=kq key L k:=by
 cases h:kq key L k with
 | true=>
  obtain⟨hl,_⟩:=th h
  unfold iz;rw[if_pos h,List.getElem?_eq_getElem hl];rfl
 | false=>unfold iz;rw[if_neg (by rw[h];decide)];rfl
def lq(b:Nat):Value:=.pointer (some ⟨b,0,none⟩)
abbrev EF:=PF × Nat
def kO(x:EF):Int:=x.1.id
theorem EV(x:EF):PF.id (Prod.fst x)=kO x:=rfl
abbrev JI(x:EF)(v:Value):List Chunk:=[.pt x.2 [v,.int .i64 x.1.safe] 142,.ob (bI v 5 1 x.1.b.length (x.1.b.map fI))]
def kh(x:EF):zE:=nr λv:Value=>zU True (JI x v)
theorem kh.iff{W w:World}{x:EF}{l:List Chunk}:SL W (.ob (kh x)::l) w↔∃v,SL W (.pt x.2 [v,.int .i64 x.1.safe] 142::.ob (bI v 5 1 x.1.b.length (x.1.b.map fI))::l) w:=by
 unfold kh JI
 simp only[SL.ex,SL.fact,List.cons_append,List.nil_append,true_and]
abbrev mi(mb:Nat)(s:DS):List Value:=[.map (some mb),.bool s.off,.int .i64 s.arm,.int .i64 s.ops]
abbrev JH(dp:Nat)(s:DS)(mb:Nat)(m:List (Int × Nat)):List Chunk:=[.pt dp (mi mb s) 129,.ob (j4 (Value.int .i64) lq mb m)]
structure oq(m:List (Int × Nat))(L:List EF)(R:List PF):Prop where
 rel:nG kO Prod.snd m L
 eq:L.map Prod.fst=R
def dI(dp:Nat)(s:DS):zE:=nr λx:Nat × List (Int × Nat) × List EF=>zU (oq x.2.1 x.2.2 s.R) [.pt dp (mi x.1 s) 129,.ob (j4 (Value.int .i64) lq x.1 x.2.1),.ob (zi kh x.2.2)]
theorem dI.iff{W w:World}{dp:Nat}{s:DS}{l:List Chunk}:SL W (.ob (dI dp s)::l) w↔∃mb m L,oq m L s.R/\SL W (.pt dp (mi mb s) 129::.ob (j4 (Value.int .i64) lq mb m)::.ob (zi kh L)::l) w:=by
 unfold dI
 simp only[SL.ex,SL.fact,List.cons_append,List.nil_append]
 exact⟨λ⟨x,h1,h2⟩=>⟨x.1,x.2.1,x.2.2,h1,h2⟩,λ⟨mb,m,L,h1,h2⟩=>⟨(mb,m,L),h1,h2⟩⟩
theorem oq.get{m:List (Int × Nat)}{L:List EF}{R:List PF}(h:oq m L R)(f:Int):lx m f=(iz kO L f).map Prod.snd:=h.rel.get f
theorem oq.jV{m:List (Int × Nat)}{L:List EF}{R:List PF}(h:oq m L R)(f:Int):iz PF.id R f=(iz kO L f).map Prod.fst:=by
 rw[<- h.eq];exact B4 EV L f
theorem oq.len{m:List (Int × Nat)}{L:List EF}{R:List PF}(h:oq m L R):L.length=R.length:=by rw[<- h.eq,List.length_map]
theorem oq.set{m:List (Int × Nat)}{L:List EF}{R:List PF}(h:oq m L R){f:Int}{x:EF}(hx:iz kO L f=some x){y:PF}(hy:y.id=f):oq m (L.set (iW kO L f) (y,x.2)) (mo PF.id R y):=by
 obtain⟨h1,h2,h3⟩:=wy hx
 obtain⟨h4,h5⟩:=List.getElem?_eq_some_iff.1 h1
 refine⟨h.rel.u7 h2 (by rw[h5,h3];exact hy) (by rw[h5]),?_⟩
 have hi:kq PF.id R y.id=true:=by
  rw[<- B3,hy,h.jV,hx];rfl
 rw[Fq hi,hy,<- h.eq,xl EV,List.map_set]
theorem oq.new{m:List (Int × Nat)}{L:List EF}{R:List PF}(h:oq m L R){f:Int}(hx:iz kO L f=none){y:PF}(hy:y.id=f)(p:Nat):oq (mD m f p) (mo kO L (y,p)) (mo PF.id R y):=by
 have hi:kq kO L (kO (y,p))=false:=by
  rw[<- B3,show kO (y,p)=f from hy,hx];rfl
 have:=h.rel.add (x:=(y,p)) hi
 refine⟨by rw[<- hy];exact this,?_⟩
 rw[<- h.eq]
 exact b8h EV L (y,p)
theorem oq.del{m:List (Int × Nat)}{L:List EF}{R:List PF}(h:oq m L R)(f:Int):oq (tj m f) (nI kO L f) (nI PF.id R f):=by
 refine⟨h.rel.del f,?_⟩
 rw[<- h.eq]
 exact PG EV L f
theorem bRp:SP 11 [] [] (λv post=>∃dp:Nat,v= .pointer (some ⟨dp,0,none⟩)/\post=[.ob (dI dp mF)]):=by
 intro W F w hS;apply cIz;delta J' ai;(try simp only[app]at hS)
 refine yz rfl ?_
 refine⟨_,rfl,zI (cs:=[.map (some w.heap.size),.bool false,.int .i64 0,.int .i64 0]) (SL.Tq (key:=Value.int .i64) (val:=lq) hS) ?_⟩
 intro dp w' kL
 refine⟨_,⟨dp,rfl,rfl⟩,dI.iff.2 ⟨w.heap.size,[],[],⟨nG.nil,rfl⟩,?_⟩⟩
 have sB:SL W (.pt dp (mi w.heap.size mF) 129::.ob (j4 (Value.int .i64) lq w.heap.size [])::F) w':=kL
 have h2:=zi.nil (A:=kh) sB
 exact SL.b_ h2 Xi
theorem YG(dp mb:Nat)(s:DS)(f:Int):SP 96 [.pointer (some ⟨dp,0,none⟩),.int .i64 f] [.pt dp (mi mb s) 129] (eW (.int .i64 (may s f)) [.pt dp (mi mb s) 129]):=by
 intro W F w hS;apply dWs;delta OE aF bF ai;(try simp only[app]at hS)
 refine Gp ?_
 unfold may
 refine yO (λh=>?_) (λh=>?_)
 ·rw[if_pos h];(exact fw hS)
 ·rw[if_neg (by rw[h];decide)]
  refine b9 (λh2=>?_) (λh2=>?_)
  ·rw[if_pos (.inl h2)];(exact fw hS)
  ·refine b9 (λh3=>?_) (λh3=>?_)
   ·rw[if_pos (.inr h3)];(exact fw hS)
   ·rw[if_neg (by omega)];(exact fw hS)
def B0(s:DS)(m:List (Int × Nat))(f:Int):Value:=if may s f≠0 then .tuple #[.pointer none,.int .i64 (may s f)] else match lx m f with
 | none=>.tuple #[.pointer none,.int .i64 5]
 | some p=>.tuple #[lq p,.int .i64 0]
theorem Zk(dp mb:Nat)(s:DS)(m:List (Int × Nat))(f:Int):SP 232 [.pointer (some ⟨dp,0,none⟩),.int .i64 f] (JH dp s mb m) (eW (B0 s m f) (JH dp s mb m)):=by
 intro W F w hS;apply dwc;delta L5 aF bF ai gw;(try simp only[app]at hS)
 refine Cg (YG dp mb s f) λw hS=>?_
 unfold B0
 refine za (λh=>?_) (λh=>?_)
 ·rw[if_pos h];(exact fw hS)
 ·rw[if_neg h]
  refine Gp ?_
  refine Zv hS Xh (wK .i64) Tryz.underlying127 Tryz.underlying3 (λ_=>rfl) ?_
  cases hm:lx m f with
  | none=>
   simp only[Option.map_none,Option.getD_none]
   refine Yj (zw ?_)
   (exact fw hS)
  | some p=>
   simp only[Option.map_some,Option.getD_some]
   unfold lq
   refine Yj (zt ?_)
   (exact fw hS)
theorem yu(dp mb:Nat)(s:DS)(h0:s.off=false)(h1:0<=s.arm)(h2:s.arm<=9223372036854775807)(h3:s.ops<=100000):SP 97 [.pointer (some ⟨dp,0,none⟩)] [.pt dp (mi mb s) 129]
  (eW (.int .i64 s.g7.err) [.pt dp (mi mb s.g7) 129]):=by
 intro W F w hS;apply dWt;delta OF aF bF fR ai;(try simp only[app]at hS)
 refine Gn λw hS=>?_
 refine za (λh=>?_) (λh=>?_)
 ·refine Gn λw hS=>?_
  have e:decide (s.arm-1=0)=decide (s.arm=1):=by congr 1;exact propext ⟨λ_=>by omega,λ_=>by omega⟩
  rw[e]
  rw[e]at hS
  have hS:SL W (.pt dp (mi mb s.g7) 129::F) w:=by
   simp only[mi,DS.g7,if_pos h]
   exact hS
  unfold DS.err
  refine za (λh4=>?_) (λh4=>?_)
  ·rw[if_pos (by simp[DS.g7,h4])];(exact fw hS)
  ·rw[if_neg (by simp[DS.g7,h4])];(exact fw hS)
 ·refine Gp ?_
  have ha:¬s.arm=1:=by omega
  have hS:SL W (.pt dp (mi mb s.g7) 129::F) w:=by
   simp only[mi,DS.g7,if_neg h,ha,decide_false]
   rw[h0]at hS
   exact hS
  rw[h0]
  refine zt ?_
  have:s.g7.err=0:=by simp[DS.err,DS.g7,ha]
  rw[this]
  (exact fw hS)
theorem GU{α:Type}{enc:α->List Value}{n:Nat}(hn:∀x,(enc x).length=n):∀(xs:List α) (j k:Nat) (hj:j<xs.length) (x:α) (v:Value),k<n->(enc xs[j]).set k v=enc x->((xs.map enc).flatten).set (j*n+k) v=((xs.set j x).map enc).flatten
 | y::xs,0,k,_,x,v,hk,h=>by
  simp only[List.map_cons,List.flatten_cons,List.set_cons_zero,Nat.zero_mul,Nat.zero_add]
  rw[List.set_append_left _ _ (by rw[hn];exact hk)]
  rw[show (enc y).set k v=enc x from h]
 | y::xs,j+1,k,hj,x,v,hk,h=>by
  simp only[List.map_cons,List.flatten_cons,List.set_cons_succ]
  rw[List.set_append_right _ _ (by rw[hn,Nat.add_mul];omega),hn,show (j+1)*n+k-n=j*n+k by rw[Nat.add_mul];omega,GU hn xs j k (by simpa using hj) x v hk (by simpa using h)]
def BK(sz lQ:Nat)(z:List Value)(t ts:TypeId)(v0:Value)(w:World)(R:Value->World->Prop):Prop:=
 HEq (.slice ts) false v0 (.slice Option.none 0 0) λv4=>
 g9 v4
 (R (.slice Option.none 0 0) w)
 (zm (cW z 0) [] t 0 w λv5 oJ=>
 zr sz lQ z t v5 v0 oJ λv7 rC=>
 R v7 rC)
theorem Gk{W w:World}{F:List Chunk}{sz lQ n:Nat}{z cs:List Value}{t ts:TypeId}{v:Value}{K:Value->World->Prop}(hv:∃a c,v= .slice a n c)(lC:∀w' c,SL W (c::F) w'->m8 w' sz v n cs)(hl:cs.length=n*sz)(hz:z.length=sz)(h0:0<sz)(h1:∀v∈cs,v.oneCell'=true)(hb:n*lQ<=140737488355328)(hn:n<=140737488355328)
  (hS:SL W F w) (h:∀u w',SL W (.ob (bI u t sz n cs)::F) w'->K u w'):BK sz lQ z t ts v w K:=by
 obtain⟨a,c,rfl⟩:=hv
 unfold BK
 refine UC ?_
 cases a with
 | none=>
  refine zw ?_
  have hs:=lC _ _ (bI.nil (t:=t) (sz:=sz) hS)
  obtain rfl:cs=[]:=hs.2
  obtain rfl:n=0:=by
   rw[List.length_nil]at hl
   rcases Nat.mul_eq_zero.1 hl.symm with h|h
   ·exact h
   ·omega
  exact h _ _ (bI.nil hS)
 | some p=>
  refine zt ?_
  refine zD hS rfl ?_
  intro b w' kL
  have sB:SL W (.ob (bI (.slice (some ⟨b,0,none⟩) 0 0) t sz 0 [])::F) w':=bI.full (by simp) (by simpa [cW] using kL)
  refine zy sB .hd (lC _ _ sB) hl hz h1 (by rw[Nat.zero_add];exact hb) (by omega) ?_
  intro u w2 wB
  rw[Nat.zero_add,List.nil_append]at wB
  exact h u w2 wB
section
variable {P:Program} {f:FuncId} {sz lQ n:Nat} {z cs:List Value} {t ts:TypeId}
theorem Pn(vc:∀v0 w R,BK sz lQ z t ts v0 w R->zV P f [v0] w R)(hz:z.length=sz)(h0:0<sz){H:bw}{v:Value}(hv:fW H sz v n cs)(h1:∀v∈cs,v.oneCell'=true)(hb:n*lQ<=140737488355328)(hn:n<=140737488355328):
  Spec P f [v] [.mem H] (λu post=>post=[.ob (bI u t sz n cs),.mem H]):=by
 intro W F w hS
 have hS:SL W (.mem H::F) w:=hS
 exact vc _ _ _ (Gk (let ⟨_,a,c,e,_⟩:=hv;⟨a,c,e⟩) (λw' c h=>o_ h (.tl .hd) hv) hv.1 hz h0 h1 hb hn hS λu w' hS=>⟨_,rfl,hS⟩)
theorem W7(vc:∀v0 w R,BK sz lQ z t ts v0 w R->zV P f [v0] w R)(hz:z.length=sz)(h0:0<sz){v:Value}(h1:∀v∈cs,v.oneCell'=true)(hl:cs.length=n*sz)(hb:n*lQ<=140737488355328)(hn:n<=140737488355328):
  Spec P f [v] [.ob (bI v t sz n cs)] (λu post=>post=[.ob (bI u t sz n cs),.ob (bI v t sz n cs)]):=by
 intro W F w hS
 have hS:SL W (.ob (bI v t sz n cs)::F) w:=hS
 exact vc _ _ _ (Gk (let ⟨a,c,e,_⟩:=bI.at hS .hd;⟨a,c,e⟩) (λw' c h=>rz h (.tl .hd)) hl hz h0 h1 hb hn hS λu w' hS=>⟨_,rfl,hS⟩)
end
section
variable {W w:World} {l F:List Chunk} {α:Type} {enc:α->List Value} {t:TypeId} {sz:Nat}
theorem zC{cs:List Value}{K:Value->World->Prop}(hS:SL W l w)(h:∀b w,SL W (.pt b cs t::l) w->K (.pointer (some ⟨b,0,none⟩)) w):∃sw:List Value,Value.agg cs.toArray= .agg sw.toArray/\zk sw t w K:=⟨cs,rfl,zI hS h⟩
theorem b_u{v:Value}{n j:Nat}{k:IntKind}{xs:List α}{x:α}{K:Value->Prop}(h:SL W l w)(m:Has (.ob (g8 v t sz n (xs.map enc).flatten)) l)(hn:∀x,(enc x).length=sz)(hx:xs[j]?=some x)(hj:j<n)(hK:K (agg (enc x))):
  ze sz v (.int k (j:Int)) λp=>zh sz p w K:=by
 refine yF h m hj λb o hb=>⟨⟨b,o,none⟩,enc x,rfl,hn x,λi u hu=>?_,hK⟩
 rw[Addr.add_lit]
 have hi:i<sz:=by rw[<- hn x];exact (List.getElem?_eq_some_iff.1 hu).1
 exact hb i u hi (sy hn xs j i x u hx hu)
theorem zX{x:Value}{lQ n b:Nat}{z:List Value}{xs:List α}{y:α}{K:Value->World->Prop}(hS:SL W l w)(hr:kG (.ob (bI x t sz n (xs.map enc).flatten)) l F)(hm:Has (.pt b (enc y) t) l)(hn:∀x,(enc x).length=sz)(h1:∀x,∀v∈enc x,v.oneCell'=true)(hz:z.length=sz)(hb:(n+1)*lQ<=140737488355328)(hn':n+1<=140737488355328)
  (h:∀v' w',SL W (.ob (bI v' t sz (n+1) ((xs++[y]).map enc).flatten)::F) w'->K v' w'):zr sz lQ z t x (.slice (some ⟨b,0,none⟩) 1 1) w K:=
 zy hS hr (lX hS hm (by rw[hn,Nat.one_mul])) (by rw[hn,Nat.one_mul]) hz (h1 y) hb hn' λv' w' hS=>h v' w' (by rw[D9];exact hS)
theorem SL.o9{v:Value}{cs:List Value}{xs:List α}{x:α}(hS:SL W (.ob (bI v t sz (xs.length+1) cs)::l) w):SL W (.ob (bI v t sz (xs++[x]).length cs)::l) w:=by
 rw[List.length_append,List.length_singleton];exact hS
theorem SL.Fs{H:bw}{b n:Nat}{cs:List Value}(hS:SL W l w)(hp:kI [.mem H,.pt b cs t] l F)(hl:cs.length=n*sz):∃H',H.le H'/\fW H' sz (.slice (some ⟨b,0,none⟩) n n) n cs/\SL W (.mem H'::F) w:=by
 have hS:=hS.pick hp
 exact bI.freeze ((bI.full hl (hS.perm (.swap _ _ _))).perm (.swap _ _ _))
end
structure pd where
 aI:Int
 ov:Value
 nv:Value
def kT(x:pd):List Value:=[.int .i64 x.aI,x.ov,x.nv]
abbrev FY(H:bw)(v:Value)(l:List pU):Prop:=fW H 5 v l.length (l.map oO).flatten
abbrev FX(H:bw)(v:Value)(l:List rF):Prop:=fW H 7 v l.length (l.map sx).flatten
structure pc(H:bw)(x:pd)(t:si):Prop where
 aI:x.aI=t.aI
 ops:FY H x.ov t.ops
 Bd:FX H x.nv t.notes
theorem pc.mono{H H':bw}(hh:H.le H'){x:pd}{t:si}(h:pc H x t):pc H' x t:=⟨h.aI,h.ops.mono hh,h.Bd.mono hh⟩
theorem PV(n:rF):∀v∈sx n,v.oneCell'=true:=by simp[sx,Value.oneCell']
theorem BV(o:pU):(oO o).length=5:=rfl
theorem uD{H:bw}{x:pd}{t:si}(h:pc H x t):∀v∈kT x,v.oneCell'=true:=by
 intro v hv
 simp only[kT,List.mem_cons,List.not_mem_nil,or_false]at hv
 rcases hv with rfl|rfl|rfl
 ·rfl
 ·exact h.ops.one
 ·exact h.Bd.one
theorem nE(b:List UInt8):∀v∈b.map fI,v.oneCell'=true:=λv hv=>by
 obtain⟨x,_,rfl⟩:=List.mem_map.1 hv;rfl
section
variable {W w:World} {l:List Chunk}
theorem Zu{F:List Chunk}{a:Option Addr}{k cap:Nat}{cs:List Value}{K:Value->World->Prop}(hS:SL W F w)(lC:∀w' c,SL W (c::F) w'->m8 w' 1 (.slice a k cap) k cs)(hl:cs.length=k)(h1:∀v∈cs,v.oneCell'=true)(hb:k<=140737488355328)
  (h:∀u w',SL W (.ob (bI u 5 1 k cs)::F) w'->(a.isSome=true->u≠.slice none 0 0\/k=0)->K u w'):aw 156 [.slice a k cap] w K:=by
 apply cR6;delta KO bR
 refine UC ?_
 cases a with
 | none=>
  refine zw ?_
  have hs:=lC _ _ (bI.nil (t:=5) (sz:=1) hS)
  obtain rfl:cs=[]:=hs.2
  obtain rfl:k=0:=by simpa using hl.symm
  exact h _ _ (bI.nil hS) (λh=>by cases h)
 | some p=>
  refine zt ?_
  refine zD hS rfl ?_
  intro b w' kL
  have sB:SL W (.ob (bI (.slice (some ⟨b,0,none⟩) 0 0) 5 1 0 [])::F) w':=bI.full rfl kL
  refine zy sB .hd (lC _ _ sB) (by rw[hl];omega) rfl h1 (by omega) (by omega) ?_
  intro u w2 wB
  rw[Nat.zero_add,List.nil_append]at wB
  refine h u w2 wB λ_=>?_
  rcases Nat.eq_zero_or_pos k with hk|hk
  ·exact .inr hk
  ·refine .inl λe=>?_
   subst e
   rcases bI.open wB with ⟨_,h2,_⟩|⟨b,cap,rest,h2,_⟩
   ·omega
   ·cases h2
theorem I_{v:Value}{t:TypeId}{sz n k:Nat}{kk:IntKind}{cells:List Value}{K:Value->Prop}(h:SL W l w)(m:Has (.ob (bI v t sz n cells)) l)(hk:k<=n)
  (hK:∀a cap,(∀w' l',SL W l' w'->Has (.ob (bI v t sz n cells)) l'->m8 w' sz (.slice a k cap) k (cells.take (k*sz)))->K (.slice a k cap)):iQ sz v none (some (.int kk (k:Int))) none K:=by
 obtain⟨a,cap,rfl,hl,hx⟩:=bI.at h m
 have wD:n<=cap:=by
  obtain⟨l2,r⟩:=m.rem
  rcases bI.open (h.perm r.perm) with ⟨⟨a',e⟩,rfl,rfl,_⟩|⟨b,vk,rest,e,hc,_⟩
  ·cases e;omega
  ·cases e;exact hc
 refine⟨a,n,cap,0,k,cap,rfl,rfl,⟨kk,rfl⟩,rfl,Nat.zero_le _,by omega,Nat.le_refl _,?_⟩
 rw[Nat.sub_zero,Nat.sub_zero]
 have e:(if cap=0 then a else a.map (·.add (0*sz)))=a:=by
  split
  ·rfl
  ·cases a<;>simp[Addr.add]
 rw[e]
 refine hK a cap λw' l' h' m'=>?_
 have hs:=rz h' m'
 cases a with
 | none=>
  obtain⟨e1,e2⟩:=hs
  subst e2
  have e1:n=n:=e1
  have hn:n*sz=0:=by simpa using hl.symm
  refine⟨rfl,by simp⟩
 | some p=>
  obtain⟨_,e2,e3⟩:=hs
  refine⟨rfl,by rw[List.length_take,e2];exact Nat.min_eq_left (Nat.mul_le_mul_right _ hk),λj v e=>?_⟩
  rw[List.getElem?_take]at e
  split at e
  ·exact e3 j v e
  ·cases e
end
theorem Wg(X:Chunk)(dp:Nat)(s:DS)(N:Nat)(cR:s.Ok N)(iP:s.ops<=100000)(f:Int)(bv:Value)(b:List UInt8)(hX:∀{W:World} {l:List Chunk} {w:World},SL W l w->Has X l->m8 w 1 bv b.length (b.map fI))(hN:((iz PF.id s.R f).getD (oD f)).b.length+b.length<=140737488355328):
  SP 34 [.pointer (some ⟨dp,0,none⟩),.int .i64 f,bv] [.ob (dI dp s),X] (eW (.int .i64 (s.append f b).2) [.ob (dI dp (s.append f b).1),X]):=by
 intro W F w hS;apply dIy;delta Ny aF bF fR ai gw bR;(try simp only[app]at hS)
 obtain⟨mb,m,L,hr,hS⟩:=dI.iff.1 hS
 refine Cg (YG dp mb s f) λw hS=>?_
 unfold DS.append
 refine za (λh=>?_) (λh=>?_)
 ·rw[if_pos h]
  exact⟨_,⟨rfl,rfl⟩,dI.iff.2 ⟨mb,m,L,hr,aR hS⟩⟩
 ·rw[if_neg h]
  have hm:may s f=0:=by omega
  obtain⟨h0,tR,xH⟩:=vN hm
  refine Gp ?_
  refine Zv hS Xh (wK .i64) Tryz.underlying127 Tryz.underlying3 (λ_=>rfl) ?_
  rw[hr.get f]
  have eFg:=cR.len
  cases hg:iz kO L f with
  | none=>
   simp only[Option.map_none,Option.getD_none]
   refine Yj (zw ?_)
   refine yz rfl ?_
   refine⟨_,rfl,zI hS ?_⟩
   clear hS;intro p w hS
   refine Gp ?_
   refine b_5 (key:=Value.int .i64) (val:=lq) (k:=f) (v:=p) hS Xu (wK .i64) Tryz.underlying127 Tryz.underlying3 ?_
   clear hS;intro _ w hS
   refine Gp ?_
   have hS:=bI.nil (t:=5) (sz:=1) hS
   refine zy (n:=0) (m:=b.length) hS .hd (hX hS Xh) (by simp) rfl (nE b) (by omega) (by omega) ?_
   clear hS;intro v w hS
   rw[Nat.zero_add,List.nil_append]at hS
   have mn:=hS.oF .hd
   refine Gn λw hS=>?_
   refine Cg (yu dp mb s h0 cR.sZ cR.s5 iP) λw hS=>?_
   have hS:=(kh.iff (x:=((⟨f,0,b⟩:PF),p))).2 ⟨v,SL.b_ hS (t:=.pt p [v,.int .i64 0] 142::.ob (bI v 5 1 b.length (b.map fI))::.ob (zi kh L)::.pt dp (mi mb s.g7) 129::.ob (j4 (Value.int .i64) lq mb (mD m f p))::X::F) Xi⟩
   have hS:=zi.snoc (SL.b_ hS (t:=.ob (zi kh L)::.ob (kh ((⟨f,0,b⟩:PF),p))::.pt dp (mi mb s.g7) 129::.ob (j4 (Value.int .i64) lq mb (mD m f p))::X::F) Xi)
   have te:=hr.new hg (y:=⟨f,0,b⟩) rfl p
   have hS:=zi.perm hS (ys:=mo kO L (⟨f,0,b⟩,p)) (by
    have hi:kq kO L (kO ((⟨f,0,b⟩:PF),p))=false:=by rw[<- B3,show kO ((⟨f,0,b⟩:PF),p)=f from rfl,hg];rfl
    exact List.perm_append_comm.trans (Uc hr.rel.2 hi).symm)
   have e:nV s.R f b=mo PF.id s.R ⟨f,0,b⟩:=by
    unfold nV;rw[hr.jV f,hg];rfl
   rw[e]
   exact⟨_,⟨rfl,rfl⟩,dI.iff.2 ⟨mb,_,_,te,aR hS⟩⟩
  | some x=>
   obtain⟨g1,g2,g3⟩:=wy hg
   have hS:=zi.take (SL.b_ hS (t:=.ob (zi kh L)::.pt dp (mi mb s) 129::.ob (j4 (Value.int .i64) lq mb m)::X::F) Xi) g1
   obtain⟨v0,hS⟩:=kh.iff.1 hS
   simp only[Option.map_some,Option.getD_some]
   unfold lq
   refine Yj (zt ?_)
   refine Gp ?_
   have SE:x.1.b.length+b.length<=140737488355328:=by rw[hr.jV f,hg]at hN;exact hN
   refine zy (n:=x.1.b.length) (m:=b.length) hS Xr (hX hS Xh) (by simp) rfl (nE b) (by omega) (by omega) ?_
   clear hS;intro v w hS
   have mn:=hS.oF .hd
   refine Gn λw hS=>?_
   refine Cg (yu dp mb s h0 cR.sZ cR.s5 iP) λw hS=>?_
   have e1:x.1.b.map fI++b.map fI=(x.1.b++b).map fI:=by rw[List.map_append]
   have e2:x.1.b.length+b.length=(x.1.b++b).length:=by rw[List.length_append]
   rw[e1,e2]at hS
   have hS:=(kh.iff (x:=((⟨f,x.1.safe,x.1.b++b⟩:PF),x.2))).2 ⟨v,SL.b_ hS (t:=.pt x.2 [v,.int .i64 x.1.safe] 142::.ob (bI v 5 1 (x.1.b++b).length ((x.1.b++b).map fI))::.ob (zi kh (L.eraseIdx (iW kO L f)))::.pt dp (mi mb s.g7) 129::.ob (j4 (Value.int .i64) lq mb m)::X::F) Xi⟩
   have hS:=zi.put hS g2
   have e:nV s.R f b=mo PF.id s.R ⟨f,x.1.safe,x.1.b++b⟩:=by
    unfold nV;rw[hr.jV f,hg];rfl
   rw[e]
   exact⟨_,⟨rfl,rfl⟩,dI.iff.2 ⟨mb,_,_,hr.set hg (y:=⟨f,x.1.safe,x.1.b++b⟩) rfl,aR hS⟩⟩
theorem Wf(X:Chunk)(dp:Nat)(s:DS)(N:Nat)(cR:s.Ok N)(iP:s.ops<=100000)(f:Int)(bv:Value)(b:List UInt8)(hX:∀{W:World} {l:List Chunk} {w:World},SL W l w->Has X l->m8 w 1 bv b.length (b.map fI))(hN:N+b.length<=140737488355328):
  SP 34 [.pointer (some ⟨dp,0,none⟩),.int .i64 f,bv] [.ob (dI dp s),X] (eW (.int .i64 (s.append f b).2) [.ob (dI dp (s.append f b).1),X]):=
 Wg X dp s N cR iP f bv b hX (by have:=GY (f:=f) cR.len;omega)
theorem GQ{s:DS}{m:List (Int × Nat)}{L:List EF}(hr:oq m L s.R)(f:Int):
  (s.find f≠0/\B0 s m f= .tuple #[.pointer none,.int .i64 (s.find f)])\/(s.find f=0/\may s f=0/\∃x,iz kO L f=some x/\B0 s m f= .tuple #[lq x.2,.int .i64 0]):=by
 unfold DS.find B0
 by_cases h:may s f=0
 ·have h':¬may s f≠0:=λe=>e h
  rw[if_neg h',if_neg h',hr.get f]
  have hi:kq PF.id s.R f=(iz kO L f).isSome:=by rw[<- B3,hr.jV f,Option.isSome_map]
  rw[hi]
  cases hg:iz kO L f with
  | none=>exact .inl ⟨by simp,by simp⟩
  | some x=>exact .inr ⟨by simp,h,x,rfl,rfl⟩
 ·rw[if_pos h,if_pos h]
  exact .inl ⟨h,rfl⟩
theorem AH{W w:World}{L:List EF}{f:Int}{x:EF}{l:List Chunk}(hg:iz kO L f=some x)(hS:SL W (.ob (zi kh L)::l) w):SL W (.ob (kh x)::.ob (zi kh (L.eraseIdx (iW kO L f)))::l) w:=zi.take hS (wy hg).1
theorem GN{W w:World}{L:List EF}{f:Int}{x y:EF}{l:List Chunk}(hg:iz kO L f=some x)(hS:SL W (.ob (kh y)::.ob (zi kh (L.eraseIdx (iW kO L f)))::l) w):SL W (.ob (zi kh (L.set (iW kO L f) y))::l) w:=zi.put hS (wy hg).2.1
theorem GO{W w:World}{L:List EF}{f:Int}{x:EF}{l:List Chunk}(hg:iz kO L f=some x)(hS:SL W (.ob (kh x)::.ob (zi kh (L.eraseIdx (iW kO L f)))::l) w):SL W (.ob (zi kh L)::l) w:=by
 have h:=GN hg hS
 have e:L.set (iW kO L f) x=L:=by
  obtain⟨h1,h2⟩:=List.getElem?_eq_some_iff.1 (wy hg).1
  rw[<- h2];simp
 rwa [e]at h
theorem FH{R:List PF}{f:Int}{x:PF}(h:iz PF.id R f=some x)(g:PF->PF):oh R f g=mo PF.id R {g x with id:=f}:=by
 unfold oh;rw[h]
theorem cFj(dp:Nat)(s:DS)(N:Nat)(cR:s.Ok N)(iP:s.ops<=100000)(f:Int):
  SP 151 [.pointer (some ⟨dp,0,none⟩),.int .i64 f] [.ob (dI dp s)] (eW (.int .i64 (s.sync f).2) [.ob (dI dp (s.sync f).1)]):=by
 intro W F w hS;apply cR3;delta KL aF bF fR ai;(try simp only[app]at hS)
 obtain⟨mb,m,L,hr,hS⟩:=dI.iff.1 hS
 refine Cc (Zk dp mb s m f) ?_;clear hS
 rintro v post ⟨rfl,rfl⟩ w hS
 try simp only[app]at hS
 unfold DS.sync
 rcases GQ hr f with ⟨h1,e⟩|⟨h1,h2,x,hg,e⟩
 ·rw[e,if_pos h1]
  refine Gp ?_
  refine za (λh=>absurd h h1) (λ_=>?_)
  refine Gp ?_
  refine za (λh=>absurd h h1) (λ_=>?_)
  exact⟨_,⟨rfl,rfl⟩,dI.iff.2 ⟨mb,m,L,hr,aR hS⟩⟩
 ·obtain⟨h0,tR,xH⟩:=vN h2
  rw[e,if_neg (λh=>h h1)]
  unfold lq
  refine Gp ?_
  refine za (λ_=>?_) (λh=>absurd rfl h)
  refine Cg (yu dp mb s h0 cR.sZ cR.s5 iP) λw hS=>?_
  by_cases hc:s.g7.off=true
  ·have he:s.g7.err=8:=by unfold DS.err;rw[if_pos hc]
   rw[he,if_pos hc]
   refine za (λh=>by cases h) (λ_=>?_)
   exact⟨_,⟨rfl,rfl⟩,dI.iff.2 ⟨mb,m,L,hr,aR hS⟩⟩
  ·have he:s.g7.err=0:=by unfold DS.err;rw[if_neg hc]
   rw[he,if_neg hc]
   refine za (λ_=>?_) (λh=>absurd rfl h)
   have hS:=AH hg (SL.b_ hS (t:=.ob (zi kh L)::.pt dp (mi mb s.g7) 129::.ob (j4 (Value.int .i64) lq mb m)::F) Xi)
   obtain⟨v0,hS⟩:=kh.iff.1 hS
   refine Gp ?_
   refine zx hS (t:=5) (sz:=1) (n:=x.1.b.length) (cells:=x.1.b.map fI) Xh ?_
   refine Gn λw hS=>?_
   have hS:=GN hg ((kh.iff (x:=((⟨f,x.1.b.length,x.1.b⟩:PF),x.2))).2 ⟨v0,SL.b_ hS (t:=.pt x.2 [v0,.int .i64 (x.1.b.length:Int)] 142::.ob (bI v0 5 1 x.1.b.length (x.1.b.map fI))::.ob (zi kh (L.eraseIdx (iW kO L f)))::.pt dp (mi mb s.g7) 129::.ob (j4 (Value.int .i64) lq mb m)::F) Xi⟩)
   have eR:=FH (f:=f) (x:=x.1) (by rw[hr.jV f,hg];rfl) λx=>{x with safe:=x.b.length}
   rw[eR]
   exact⟨_,⟨rfl,rfl⟩,dI.iff.2 ⟨mb,_,_,hr.set hg (y:=⟨f,x.1.b.length,x.1.b⟩) rfl,aR hS⟩⟩
theorem Xj(x:EF)(n:Nat)(hn:n<=x.1.b.length)(hb:n<=140737488355328):SP 68 [lq x.2,.int .i64 (n:Int)] [.ob (kh x)] (eW (.tuple #[]) [.ob (kh (p5 n x.1,x.2))]):=by
 intro W F w hS;apply dR1;delta Oa bF fR;(try simp only[app]at hS)
 obtain⟨v0,hS⟩:=kh.iff.1 hS
 unfold lq
 refine Gp ?_
 refine I_ hS (t:=5) (sz:=1) (n:=x.1.b.length) (cells:=x.1.b.map fI) Xh hn ?_
 intro a cap lC
 refine Zu (cs:=(x.1.b.map fI).take (n*1)) hS (λw' c kL=>lC w' _ kL (.tl Xh)) (by simp;omega) (λv hv=>nE _ v (List.mem_of_mem_take hv)) (by omega) ?_
 clear hS;intro u w hS _
 have mn:=hS.oF .hd
 refine Gn λw hS=>?_
 have e1:(x.1.b.map fI).take (n*1)=(p5 n x.1).b.map fI:=by rw[Nat.mul_one,<- List.map_take];rfl
 have e2:(p5 n x.1).b.length=n:=by simp only[p5,List.length_take];omega
 have e3:min (x.1.safe:Int) (n:Int)=(((p5 n x.1).safe:Nat):Int):=by simp only[p5];omega
 rw[e1,e3]at hS
 refine⟨_,⟨rfl,rfl⟩,kh.iff.2 ⟨u,?_⟩⟩
 rw[e2]
 exact aR hS
theorem bIc{s:DS}{m:List (Int × Nat)}{L:List EF}(hr:oq m L s.R){f:Int}{x:EF}(hg:iz kO L f=some x):rn s.R f=x.1.b.length:=by
 unfold rn;rw[hr.jV f,hg];rfl
theorem YB(dp:Nat)(s:DS)(N:Nat)(cR:s.Ok N)(hN:N<=140737488355328)(iP:s.ops<=100000)(f n:Int):
  SP 150 [.pointer (some ⟨dp,0,none⟩),.int .i64 f,.int .i64 n] [.ob (dI dp s)] (eW (.int .i64 (s.cut f n).2) [.ob (dI dp (s.cut f n).1)]):=by
 intro W F w hS;apply cR2;delta KK aF bF ai;(try simp only[app]at hS)
 obtain⟨mb,m,L,hr,hS⟩:=dI.iff.1 hS
 refine Cc (Zk dp mb s m f) ?_;clear hS
 rintro v post ⟨rfl,rfl⟩ w hS
 try simp only[app]at hS
 unfold DS.cut
 rcases GQ hr f with ⟨h1,e⟩|⟨h1,h2,x,hg,e⟩
 ·rw[e,if_pos h1]
  refine Gp ?_
  refine⟨λus w=>us=[.int .i64 (s.find f)]/\SL W (.pt dp (mi mb s) 129::.ob (j4 (Value.int .i64) lq mb m)::.ob (zi kh L)::F) w,?_,?_⟩
  ·refine Gp ?_
   refine za (λh=>absurd h h1) (λ_=>?_)
   exact⟨rfl,aR hS⟩
  ·clear hS
   rintro v8 w ⟨dR,hS⟩
   cases dR
   refine Gp ?_
   refine za (λh=>absurd h h1) (λ_=>?_)
   refine Gp ?_
   refine za (λh=>absurd h h1) (λ_=>?_)
   exact⟨_,⟨rfl,rfl⟩,dI.iff.2 ⟨mb,m,L,hr,aR hS⟩⟩
 ·obtain⟨h0,tR,xH⟩:=vN h2
  rw[e,if_neg (λh=>h h1)]
  unfold lq
  refine Gp ?_
  rw[bIc hr hg]
  have SE:x.1.b.length<=N:=cR.len _ (by rw[<- hr.eq];exact List.mem_map.2 ⟨x,List.mem_of_getElem? (wy hg).1,rfl⟩)
  refine⟨λus w=>us=[.int .i64 (if n<0\/(x.1.b.length:Int)<n then 1 else 0)]/\SL W (.pt dp (mi mb s) 129::.ob (j4 (Value.int .i64) lq mb m)::.ob (zi kh L)::F) w,?_,?_⟩
  ·refine Gp ?_
   refine za (λ_=>?_) (λh=>absurd rfl h)
   refine b9 (λh=>?_) (λh=>?_)
   ·rw[if_pos (.inl h)]
    exact⟨rfl,aR hS⟩
   ·have hS:=AH hg (SL.b_ hS (t:=.ob (zi kh L)::.pt dp (mi mb s) 129::.ob (j4 (Value.int .i64) lq mb m)::F) Xi)
    obtain⟨v0,hS⟩:=kh.iff.1 hS
    refine Gp ?_
    refine zx hS (t:=5) (sz:=1) (n:=x.1.b.length) (cells:=x.1.b.map fI) Xh ?_
    refine Gp ?_
    have hS:=GO hg (kh.iff.2 ⟨v0,hS⟩)
    refine za (λh3=>?_) (λh3=>?_)
    ·rw[if_pos (.inr h3)]
     exact⟨rfl,aR hS⟩
    ·rw[if_neg (by omega)]
     exact⟨rfl,aR hS⟩
  ·clear hS
   rintro v8 w ⟨dR,hS⟩
   cases dR
   refine Gp ?_
   by_cases hn:n<0\/(x.1.b.length:Int)<n
   ·rw[if_pos hn,if_pos hn]
    refine za (λh=>by cases h) (λ_=>?_)
    refine Gp ?_
    refine za (λh=>by cases h) (λ_=>?_)
    exact⟨_,⟨rfl,rfl⟩,dI.iff.2 ⟨mb,m,L,hr,aR hS⟩⟩
   ·rw[if_neg hn,if_neg hn]
    refine za (λ_=>?_) (λh=>absurd rfl h)
    refine Cg (yu dp mb s h0 cR.sZ cR.s5 iP) λw hS=>?_
    by_cases hc:s.g7.off=true
    ·have he:s.g7.err=8:=by unfold DS.err;rw[if_pos hc]
     rw[he,if_pos hc]
     refine za (λh=>by cases h) (λ_=>?_)
     exact⟨_,⟨rfl,rfl⟩,dI.iff.2 ⟨mb,m,L,hr,aR hS⟩⟩
    ·have he:s.g7.err=0:=by unfold DS.err;rw[if_neg hc]
     rw[he,if_neg hc]
     refine za (λ_=>?_) (λh=>absurd rfl h)
     have hS:=AH hg (SL.b_ hS (t:=.ob (zi kh L)::.pt dp (mi mb s.g7) 129::.ob (j4 (Value.int .i64) lq mb m)::F) Xi)
     obtain⟨k,rfl⟩:∃k:Nat,n=(k:Int):=⟨n.toNat,by omega⟩
     have hC:=Xj x k (by omega) (by omega)
     unfold lq at hC
     refine Cg (hC) λw hS=>?_
     have hS:=GN hg (y:=({p5 k x.1 with id:=f},x.2)) (SL.b_ hS (t:=.ob (kh ({p5 k x.1 with id:=f},x.2))::.ob (zi kh (L.eraseIdx (iW kO L f)))::.pt dp (mi mb s.g7) 129::.ob (j4 (Value.int .i64) lq mb m)::F) (by
      have:(p5 k x.1,x.2)=(({p5 k x.1 with id:=f}:PF),x.2):=by
       have:=(wy hg).2.2
       unfold kO at this
       rw[<- this];rfl
      rw[this]
      exact Xi))
     have eR:=FH (f:=f) (x:=x.1) (by rw[hr.jV f,hg];rfl) (p5 (k:Int).toNat)
     rw[eR,Int.toNat_natCast]
     exact⟨_,⟨rfl,rfl⟩,dI.iff.2 ⟨mb,_,_,hr.set hg (y:={p5 k x.1 with id:=f}) rfl,aR hS⟩⟩
theorem Zr(dp:Nat)(s:DS)(N:Nat)(cR:s.Ok N)(iP:s.ops<=100000)(f:Int):
  SP 153 [.pointer (some ⟨dp,0,none⟩),.int .i64 f] [.ob (dI dp s)] (eW (.int .i64 (s.remove f).2) [.ob (dI dp (s.remove f).1)]):=by
 intro W F w hS;apply cR5;delta KN aF bF ai;(try simp only[app]at hS)
 obtain⟨mb,m,L,hr,hS⟩:=dI.iff.1 hS
 refine Cc (Zk dp mb s m f) ?_;clear hS
 rintro v post ⟨rfl,rfl⟩ w hS
 try simp only[app]at hS
 unfold DS.remove
 rcases GQ hr f with ⟨h1,e⟩|⟨h1,h2,x,hg,e⟩
 ·rw[e,if_pos h1]
  refine Gp ?_
  refine za (λh=>absurd h h1) (λ_=>?_)
  refine Gp ?_
  refine za (λh=>absurd h h1) (λ_=>?_)
  exact⟨_,⟨rfl,rfl⟩,dI.iff.2 ⟨mb,m,L,hr,aR hS⟩⟩
 ·obtain⟨h0,tR,xH⟩:=vN h2
  rw[e,if_neg (λh=>h h1)]
  unfold lq
  refine Gp ?_
  refine za (λ_=>?_) (λh=>absurd rfl h)
  refine Cg (yu dp mb s h0 cR.sZ cR.s5 iP) λw hS=>?_
  by_cases hc:s.g7.off=true
  ·have he:s.g7.err=8:=by unfold DS.err;rw[if_pos hc]
   rw[he,if_pos hc]
   refine za (λh=>by cases h) (λ_=>?_)
   exact⟨_,⟨rfl,rfl⟩,dI.iff.2 ⟨mb,m,L,hr,aR hS⟩⟩
  ·have he:s.g7.err=0:=by unfold DS.err;rw[if_neg hc]
   rw[he,if_neg hc]
   refine za (λ_=>?_) (λh=>absurd rfl h)
   refine Gp ?_
   refine b_3 (key:=Value.int .i64) (val:=lq) (k:=f) hS Xu (wK .i64) Tryz.underlying127 Tryz.underlying3 ?_
   clear hS;intro _ w hS
   have hS:=AH hg (SL.b_ hS (t:=.ob (zi kh L)::.pt dp (mi mb s.g7) 129::.ob (j4 (Value.int .i64) lq mb (tj m f))::F) Xi)
   have eL:nI kO L f=L.eraseIdx (iW kO L f):=by
    unfold nI;rw[if_pos (by rw[<- B3,hg];rfl)]
   have hd:=hr.del f
   rw[eL]at hd
   exact⟨_,⟨rfl,rfl⟩,dI.iff.2 ⟨mb,_,_,hd,aR hS⟩⟩
def BF(dp:Nat)(s:DS)(f:Int)(v:Value)(post:List Chunk):Prop:=match iz PF.id s.R f with
 | none=>v= .tuple #[.slice none 0 0,.bool false]/\post=[.ob (dI dp s)]
 | some x=>∃u,v= .tuple #[u,.bool true]/\post=[.ob (dI dp s),.ob (bI u 5 1 x.b.length (x.b.map fI))]
theorem Yf(dp:Nat)(s:DS)(N:Nat)(cR:s.Ok N)(hN:N<=140737488355328)(f:Int):
  SP 103 [.pointer (some ⟨dp,0,none⟩),.int .i64 f] [.ob (dI dp s)] (BF dp s f):=by
 intro W F w hS;apply cIv;delta J6 bF gw bR;(try simp only[app]at hS)
 obtain⟨mb,m,L,hr,hS⟩:=dI.iff.1 hS
 refine Gp ?_
 refine Zv hS Xh (wK .i64) Tryz.underlying127 Tryz.underlying3 (λ_=>rfl) ?_
 rw[hr.get f]
 cases hg:iz kO L f with
 | none=>
  simp only[Option.map_none,Option.getD_none]
  refine Yj (zw ?_)
  exact⟨[.ob (dI dp s)],by unfold BF;rw[hr.jV f,hg];exact⟨rfl,rfl⟩,dI.iff.2 ⟨mb,m,L,hr,aR hS⟩⟩
 | some x=>
  simp only[Option.map_some,Option.getD_some]
  unfold lq
  refine Yj (zt ?_)
  have SE:x.1.b.length<=N:=cR.len _ (by rw[<- hr.eq];exact List.mem_map.2 ⟨x,List.mem_of_getElem? (wy hg).1,rfl⟩)
  have hS:=AH hg (SL.b_ hS (t:=.ob (zi kh L)::.pt dp (mi mb s) 129::.ob (j4 (Value.int .i64) lq mb m)::F) Xi)
  obtain⟨v0,hS⟩:=kh.iff.1 hS
  refine Gp ?_
  obtain⟨a,cap,rfl,hl,_⟩:=bI.at hS (t:=5) (sz:=1) (n:=x.1.b.length) (cells:=x.1.b.map fI) Xh
  refine Zu (cs:=x.1.b.map fI) hS (λw' c kL=>rz kL (.tl Xh)) (by simp) (nE _) (by omega) ?_
  clear hS;intro u w hS _
  have hS:=GO hg ((kh.iff (x:=x)).2 ⟨_,SL.b_ hS (t:=.pt x.2 [.slice a x.1.b.length cap,.int .i64 x.1.safe] 142::.ob (bI (.slice a x.1.b.length cap) 5 1 x.1.b.length (x.1.b.map fI))::.ob (zi kh (L.eraseIdx (iW kO L f)))::.ob (bI u 5 1 x.1.b.length (x.1.b.map fI))::.pt dp (mi mb s) 129::.ob (j4 (Value.int .i64) lq mb m)::F) Xi⟩)
  exact⟨[.ob (dI dp s),.ob (bI u 5 1 x.1.b.length (x.1.b.map fI))],by unfold BF;rw[hr.jV f,hg];exact⟨u,rfl,rfl⟩,dI.iff.2 ⟨mb,m,L,hr,aR hS⟩⟩
theorem bIb(dp:Nat)(s:DS)(f:Int):
  SP 149 [.pointer (some ⟨dp,0,none⟩),.int .i64 f] [.ob (dI dp s)] (eW (.int .i64 (rn s.R f)) [.ob (dI dp s)]):=by
 intro W F w hS;apply cR0;delta KI bF ai gw;(try simp only[app]at hS)
 obtain⟨mb,m,L,hr,hS⟩:=dI.iff.1 hS
 unfold rn
 rw[hr.jV f]
 refine Gp ?_
 refine Zv hS Xh (wK .i64) Tryz.underlying127 Tryz.underlying3 (λ_=>rfl) ?_
 rw[hr.get f]
 cases hg:iz kO L f with
 | none=>
  simp only[Option.map_none,Option.getD_none]
  refine I9 (zt ?_)
  exact⟨_,⟨rfl,rfl⟩,dI.iff.2 ⟨mb,m,L,hr,aR hS⟩⟩
 | some x=>
  simp only[Option.map_some,Option.getD_some]
  unfold lq
  refine I9 (zw ?_)
  have hS:=AH hg (SL.b_ hS (t:=.ob (zi kh L)::.pt dp (mi mb s) 129::.ob (j4 (Value.int .i64) lq mb m)::F) Xi)
  obtain⟨v0,hS⟩:=kh.iff.1 hS
  refine Gp ?_
  refine zx hS (t:=5) (sz:=1) (n:=x.1.b.length) (cells:=x.1.b.map fI) Xh ?_
  have hS:=GO hg ((kh.iff (x:=x)).2 ⟨_,hS⟩)
  exact⟨_,⟨rfl,rfl⟩,dI.iff.2 ⟨mb,m,L,hr,aR hS⟩⟩
theorem wf_i64{n:Int}(h : -9223372036854775808<=n/\n<=9223372036854775807):(Lit.int .i64 n).wf=true:=by
 simpa [Lit.wf,IntKind.min,IntKind.max,IntKind.signed,IntKind.bits] using h
theorem qw(dp:Nat)(s:DS)(N:Nat)(cR:s.Ok N)(hR:s.R.length<=100000):
  SP 67 [.pointer (some ⟨dp,0,none⟩)] [.ob (dI dp s)] (λv post=>post=[.ob (dI dp s),.ob (bI v 3 1 s.R.length (s.R.map λx=>.int .i64 x.id))]):=by
 intro W F w hS;apply dR0;delta N_ bF;(try simp only[app]at hS)
 obtain⟨mb,m,L,hr,hS⟩:=dI.iff.1 hS
 refine Gp ?_
 have tU:m.length=s.R.length:=by rw[hr.rel.len,hr.len]
 refine b_y hS Xh (by omega) (λp hp=>?_) ?_
 ·obtain⟨x,hx,rfl⟩:=List.mem_map.1 (hr.rel.1.subset hp)
  have:=cR.ids x.1 (by rw[<- hr.eq];exact List.mem_map.2 ⟨x,hx,rfl⟩)
  exact wf_i64 (by show -9223372036854775808<=kO x/\_;unfold kO;omega)
 ·clear hS;intro v w hS
  have e:(wU m).map (Value.int .i64)=s.R.map λx=>.int .i64 x.id:=by
   rw[hr.rel.wU,<- hr.eq,List.map_map,List.map_map];rfl
  rw[e,tU]at hS
  exact⟨_,rfl,dI.iff.2 ⟨mb,m,L,hr,aR hS⟩⟩
theorem Wp(dp:Nat)(s:DS)(n:Int):
  SP 15 [.pointer (some ⟨dp,0,none⟩),.int .i64 n] [.ob (dI dp s)] (eW (.tuple #[]) [.ob (dI dp (s.pX n))]):=by
 intro W F w hS;apply cR1;delta KJ fR ai;(try simp only[app]at hS)
 obtain⟨mb,m,L,hr,hS⟩:=dI.iff.1 hS
 refine Gn λw hS=>?_
 have hS:SL W (.pt dp (mi mb (s.pX n)) 129::.ob (j4 (Value.int .i64) lq mb m)::.ob (zi kh L)::F) w:=hS
 exact⟨_,⟨rfl,rfl⟩,dI.iff.2 ⟨mb,m,L,hr,aR hS⟩⟩
theorem yT(dp:Nat)(s:DS):
  SP 64 [.pointer (some ⟨dp,0,none⟩)] [.ob (dI dp s)] (eW (.bool s.off) [.ob (dI dp s)]):=by
 intro W F w hS;apply dRz;delta N' bF;(try simp only[app]at hS)
 obtain⟨mb,m,L,hr,hS⟩:=dI.iff.1 hS
 refine Gp ?_
 exact⟨_,⟨rfl,rfl⟩,dI.iff.2 ⟨mb,m,L,hr,aR hS⟩⟩
theorem bWn(dp:Nat)(s:DS):
  SP 102 [.pointer (some ⟨dp,0,none⟩)] [.ob (dI dp s)] (eW (.int .i64 (s.ops:Int)) [.ob (dI dp s)]):=by
 intro W F w hS;apply cIu;delta J5 bF;(try simp only[app]at hS)
 obtain⟨mb,m,L,hr,hS⟩:=dI.iff.1 hS
 refine Gp ?_
 exact⟨_,⟨rfl,rfl⟩,dI.iff.2 ⟨mb,m,L,hr,aR hS⟩⟩
end Go.Proofs.YtfenmffiidchcaaGreat
