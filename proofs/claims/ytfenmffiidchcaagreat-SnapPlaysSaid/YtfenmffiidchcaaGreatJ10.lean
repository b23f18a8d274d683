/-
  Texts of the proof, joined: SnpM, WinS, WinS2.
-/
import Derived.Test.YtfenmffiidchcaaGreatJ9
import Derived.Test.YtfenmffiidchcaaGreatQVcW
namespace Go.Proofs.YtfenmffiidchcaaGreat
set_option linter.unusedVariables false
open Go.RowKit
theorem IC:∀(n:Nat) (l:List Int),l.Nodup->(∀x∈l,1<=x/\x<=(n:Int))->l.length<=n
 | 0,l,_,h=>by
  cases l with
  | nil=>exact Nat.le_refl _
  | cons x l=>have:=h x (.head _);omega
 | n+1,l,hd,h=>by
  by_cases hm:((n+1:Nat):Int)∈l
  ·have h1:=IC n (l.erase ((n+1:Nat):Int)) (hd.erase _) λx hx=>by
    have h2:=hd.mem_erase_iff.1 hx
    have:=h x h2.2
    have:=h2.1
    omega
   rw[List.length_erase_of_mem hm]at h1
   omega
  ·have:=IC n l hd λx hx=>by
    have:=h x hx
    have:x≠((n+1:Nat):Int):=λe=>hm (e▸hx)
    omega
   omega
theorem il.Ok.len{d:il}(h:d.Ok):d.l.length<=64:=by
 have:=IC 64 (d.l.map Prod.fst) h.nd λx hx=>by
  obtain⟨m,hm,rfl⟩:=List.mem_map.1 hx
  have:=h.w m hm
  omega
 rw[List.length_map]at this;exact this
theorem XM:nW.Ok:=⟨by decide,by decide,by decide,by decide,λ_=>rfl,by simp,by simp⟩
theorem il.Ok.add{d:il}(h:d.Ok)(id w:Int):(d.add id w).Ok:=by
 unfold il.add
 split
 ·exact h
 ·rename_i hr
  split
  ·exact h
  ·rename_i hf
   have h1:=h.xe
   refine⟨h.mO,by show d.at_<((d.l++[(id,w)]).length:Nat);rw[List.length_append];simp;omega,h.C4,h.C5,h.neg,λm hm=>?_,?_⟩
   ·rcases List.mem_append.1 hm with hm|hm
    ·exact h.w m hm
    ·rw[List.mem_singleton.1 hm];simp only;omega
   ·show ((d.l++[(id,w)]).map Prod.fst).Nodup
    rw[List.map_append,List.nodup_append]
    refine⟨h.nd,by simp,λa ha b hb=>?_⟩
    obtain⟨m,hm,rfl⟩:=List.mem_map.1 ha
    have hb:b=id:=by simpa using hb
    subst hb
    have:=List.findIdx?_eq_none_iff.1 hf m hm
    simpa using this
theorem il.Ok.del{d:il}(h:d.Ok)(id:Int):(d.del id).Ok:=by
 unfold il.del
 split
 ·exact h
 ·rename_i i hf
  have hi:i<d.l.length:=(List.findIdx?_eq_some_iff_getElem.1 hf).1
  have h0:=h.mO
  have h1:=h.xe
  have hl:(d.l.eraseIdx i).length=d.l.length-1:=by rw[List.length_eraseIdx,if_pos hi]
  refine⟨?_,?_,?_,?_,λhn=>?_,λm hm=>h.w m (List.mem_of_mem_eraseIdx hm),?_⟩
  ·simp only;split<;>omega
  ·simp only[hl];split<;>omega
  ·simp only;split
   ·exact Int.le_refl _
   ·exact h.C4
  ·simp only;split
   ·decide
   ·exact h.C5
  ·simp only at hn ⊢
   split
   ·rfl
   ·split at hn
    ·omega
    ·exact h.neg hn
  ·simp only
   exact h.nd.sublist ((List.eraseIdx_sublist _ _).map _)
theorem il.Ok.pl{d:il}(h:d.Ok)(jJ:d.l≠[]):0<=d.place/\d.place<d.l.length/\d.mB∈d.l:=by
 have j7:0<=d.place/\d.place<d.l.length:=by
  have:=h.neg
  have:=h.mO
  have:=h.xe
  have:0<d.l.length:=List.length_pos_iff.2 jJ
  unfold il.place
  split
  ·split<;>omega
  ·omega
 refine⟨j7.1,j7.2,?_⟩
 unfold il.mB
 rw[List.getElem?_eq_getElem (show d.place.toNat<d.l.length by omega)]
 exact List.getElem_mem _
theorem il.Ok.next{d:il}(h:d.Ok):d.next.1.Ok:=by
 unfold il.next
 split
 ·exact h
 ·rename_i jJ
  obtain⟨h1,h2,h3⟩:=h.pl jJ
  have hw:=h.w _ h3
  have ED:=h.C4
  have ta:=h.C5
  refine⟨by simp only;omega,by simp only;omega,?_,?_,λhn=>?_,h.w,h.nd⟩
  ·simp only;split<;>omega
  ·simp only;split<;>omega
  ·simp only at hn;omega
theorem bRt{d:il}(h:d.Ok)(jJ:d.l≠[]):d.next.2=d.mB.1/\d.mB∈d.l:=by
 unfold il.next
 rw[if_neg jJ]
 exact⟨rfl,(h.pl jJ).2.2⟩
theorem bRu(d:il):d.next.1.l=d.l:=by
 unfold il.next
 split<;>rfl
theorem GA:∀(L:List Rq) {d:il},d.Ok->(L.foldl (λd r=>d.del r.id) d).Ok
 | [],_,h=>h
 | r::L,_,h=>GA L (h.del r.id)
theorem OR:∀(L:List Rq) {d:il},d.Ok->(L.foldl (λd r=>d.add r.id r.weight) d).Ok
 | [],_,h=>h
 | r::L,_,h=>OR L (h.add r.id r.weight)
theorem b99{d:il}(h:d.Ok)(L:List Rq):(nP d L).Ok:=OR _ (GA _ h)
theorem XH(d:il)(id:Int):∀m∈(d.del id).l,m∈d.l:=λm hm=>by
 unfold il.del at hm
 split at hm
 ·exact hm
 ·exact List.mem_of_mem_eraseIdx hm
theorem PK:∀(L:List Rq) (d:il),∀m∈(L.foldl (λd r=>d.del r.id) d).l,m∈d.l
 | [],_,m,h=>h
 | r::L,d,m,h=>XH d r.id m (PK L (d.del r.id) m h)
theorem V3(d:il)(id w:Int):∀m∈(d.add id w).l,m∈d.l\/m=(id,w):=λm hm=>by
 unfold il.add at hm
 split at hm
 ·exact .inl hm
 ·split at hm
  ·exact .inl hm
  ·rcases List.mem_append.1 hm with hm|hm
   ·exact .inl hm
   ·exact .inr (List.mem_singleton.1 hm)
theorem V4(d:il)(id w:Int):∀m∈d.l,m∈(d.add id w).l:=λm hm=>by
 unfold il.add
 split
 ·exact hm
 ·split
  ·exact hm
  ·exact List.mem_append_left _ hm
theorem OS:∀(L:List Rq) (d:il),∀m∈(L.foldl (λd r=>d.add r.id r.weight) d).l,m∈d.l\/∃r∈L,m=(r.id,r.weight)
 | [],_,m,h=>.inl h
 | r::L,d,m,h=>by
  rcases OS L (d.add r.id r.weight) m h with h|⟨x,hx,e⟩
  ·rcases V3 d r.id r.weight m h with h|h
   ·exact .inl h
   ·exact .inr ⟨r,.head _,h⟩
  ·exact .inr ⟨x,.tail _ hx,e⟩
theorem OT:∀(L:List Rq) (d:il),∀m∈d.l,m∈(L.foldl (λd r=>d.add r.id r.weight) d).l
 | [],_,m,h=>h
 | r::L,d,m,h=>OT L (d.add r.id r.weight) m (V4 d r.id r.weight m h)
theorem b_a(d:il)(L:List Rq):∀m∈(nP d L).l,m∈d.l\/∃r∈kQ L,m=(r.id,r.weight):=λm hm=>by
 rcases OS _ _ m hm with h|h
 ·exact .inl (PK _ _ m h)
 ·exact .inr h
theorem V2(d:il){id w:Int}(h1:1<=id/\id<=64)(h2:1<=w/\w<=8):∃m∈(d.add id w).l,m.1=id:=by
 unfold il.add
 rw[if_neg (by omega)]
 cases hf:vK d id with
 | some i=>
  obtain⟨hi,hk,_⟩:=List.findIdx?_eq_some_iff_getElem.1 hf
  exact⟨_,List.getElem_mem hi,of_decide_eq_true hk⟩
 | none=>exact⟨(id,w),by simp,rfl⟩
theorem kW.at{L:List Rq}(h:kW L){r:Rq}(hr:r∈L):1<=r.id/\r.id<=L.length/\r.id<=64/\1<=r.weight/\r.weight<=8/\0<=r.table/\r.table<8/\0<=r.iJ/\r.iJ<=1099511627776:=by
 obtain⟨i,hi,rfl⟩:=List.getElem_of_mem hr
 obtain⟨⟨h1,h2,h3,h4,h5,h6,h7,h8,h9,uK,xA⟩,_⟩:=h.2 i hi
 have:=h.1
 exact⟨by omega,by omega,by omega,h4,h5,h2,h3,h8,h9⟩
theorem b98{d:il}{L:List Rq}(hL:kW L)(h:kQ L≠[]):(nP d L).l≠[]:=by
 unfold nP
 generalize (L.filter (·.done)).foldl (λd r=>d.del r.id) d=d1
 have py:∀r∈kQ L,r∈L:=λr hr=>(List.mem_filter.1 hr).1
 generalize kQ L=O at *
 match O,h with
 | r::O,_=>
  have ha:=hL.at (py r (.head _))
  obtain⟨m,hm,_⟩:=V2 d1 (id:=r.id) (w:=r.weight) (by omega) (by omega)
  have:=OT O (d1.add r.id r.weight) m hm
  intro e
  rw[List.foldl_cons]at e
  rw[e]at this
  cases this
structure ig.Good(p:ig)(N:Nat):Prop where
 reqs:kW p.m.reqs
 t1:1<=p.m.tables/\p.m.tables<=8
 mO:0<=p.m.at_/\p.m.at_<=1099511627776
 wn:p.m.cF.n<=64
 rows:p.m.cF.rows.length<=64
 wid:0<=p.m.cF.id/\p.m.cF.id<=64
 d:p.d.Ok
 ids:∀m∈p.d.l,m.1<=p.m.reqs.length
 n:1<=p.n/\p.n<=64
 src:nu p.k N
theorem ig.Good.row{p:ig}{N:Nat}(h:p.Good N):(nP p.d p.m.reqs).Ok/\∀m∈(nP p.d p.m.reqs).l,m.1<=p.m.reqs.length:=by
 refine⟨b99 h.d _,λm hm=>?_⟩
 rcases b_a _ _ m hm with hm|⟨r,hr,rfl⟩
 ·exact h.ids m hm
 ·exact (h.reqs.at (List.mem_filter.1 hr).1).2.1
theorem ig.Good.pE{p:ig}{N:Nat}(h:p.Good N)(ho:kQ p.m.reqs≠[]):∃r,vU p.m.reqs (nP p.d p.m.reqs).next.2=some r/\r∈p.m.reqs/\r.id=(nP p.d p.m.reqs).next.2:=by
 obtain⟨h1,h2⟩:=h.row
 have jJ:=b98 (d:=p.d) h.reqs ho
 obtain⟨e,hm⟩:=bRt h1 jJ
 have ha:=h1.w _ hm
 have hb:=h2 _ hm
 rw[e]
 generalize (nP p.d p.m.reqs).mB.1=id at *
 have iZ:(id-1).toNat<p.m.reqs.length:=by omega
 refine⟨p.m.reqs[(id-1).toNat],?_,List.getElem_mem _,?_⟩
 ·unfold vU
  rw[if_neg (by omega),List.getElem?_eq_getElem iZ]
 ·have:=(h.reqs.2 _ iZ).1.1
  omega
theorem nu.mark{k:g_}{N:Nat}(h:nu k N)(kind mark:Int):nu (k.lV kind mark).1 (N+2000):=by
 unfold g_.lV
 split
 ·rename_i hc;exact h.add hc.2
 ·exact h.mono (by omega)
theorem bWl(w:ir)(mark id table after:Int):(w.oE mark id table after).n=w.n/\(w.oE mark id table after).rows.length<=w.rows.length/\(w.oE mark id table after=w\/((w.oE mark id table after).id=id/\1<=id/\id<=64)):=by
 unfold ir.oE
 split
 ·exact⟨rfl,Nat.le_refl _,.inl rfl⟩
 ·rename_i hb
  unfold ir.uW at hb
  exact⟨rfl,Nat.zero_le _,.inr ⟨rfl,by omega,by omega⟩⟩
theorem ig.Good.step{p:ig}{N:Nat}(h:p.Good N):(p.step.1).Good (N+2000):=by
 have hs:∀kind mark,nu (p.k.lV kind mark).1 (N+2000):=λa b=>h.src.mark a b
 have h0:p.Good (N+2000):=⟨h.reqs,h.t1,h.mO,h.wn,h.rows,h.wid,h.d,h.ids,h.n,h.src.mono (by omega)⟩
 obtain⟨CN,vE⟩:=h.row
 unfold ig.step
 split
 ·exact h0
 ·split
  ·unfold ig.wM ig.ug
   have Hf:(nP p.d p.m.reqs).next.1.Ok:=CN.next
   have vB:∀m∈(nP p.d p.m.reqs).next.1.l,m.1<=p.m.reqs.length:=by rw[bRu];exact vE
   split
   ·exact⟨h.reqs,h.t1,h.mO,h.wn,h.rows,h.wid,Hf,vB,h.n,h.src.mono (by omega)⟩
   ·rename_i r _
    unfold ig.vM
    simp only
    split
    ·exact⟨h.reqs,h.t1,h.mO,h.wn,h.rows,h.wid,Hf,vB,h.n,hs _ _⟩
    ·obtain⟨a,b,c⟩:=bWl p.m.cF (c_ p.k.g.bW+1) r.id r.table r.iJ
     have CX:=h.wn
     have hrw:=h.rows
     have SD:=h.wid
     refine⟨h.reqs,h.t1,h.mO,by show (p.m.cF.oE _ _ _ _).n<=64;rw[a];exact CX,Nat.le_trans b hrw,?_,Hf,vB,h.n,hs _ _⟩
     show 0<=(p.m.cF.oE _ _ _ _).id/\(p.m.cF.oE _ _ _ _).id<=64
     rcases c with c|c
     ·rw[c];exact SD
     ·rw[c.1];omega
  ·split
   ·refine⟨h.reqs,h.t1,h.mO,?_,?_,?_,h.d,h.ids,h.n,h.src.mono (by omega)⟩
    ·show (p.m.cF.fill _).n<=64
     unfold ir.fill;split<;>exact h.wn
    ·show (p.m.cF.fill _).rows.length<=64
     unfold ir.fill
     split
     ·exact h.rows
     ·rename_i hb
      have:=h.wn
      unfold ir.vo at hb
      simp only at hb ⊢
      omega
    ·show 0<=(p.m.cF.fill _).id/\(p.m.cF.fill _).id<=64
     unfold ir.fill;split<;>exact h.wid
   ·unfold ig.xL
    simp only
    split
    ·exact⟨h.reqs,h.t1,h.mO,h.wn,h.rows,h.wid,h.d,h.ids,h.n,hs _ _⟩
    ·have e:p.m.cF.shut.n=p.m.cF.n/\p.m.cF.shut.rows=p.m.cF.rows/\p.m.cF.shut.id=p.m.cF.id:=by unfold ir.shut;split<;>exact⟨rfl,rfl,rfl⟩
     exact⟨h.reqs,h.t1,h.mO,by show p.m.cF.shut.n<=64;rw[e.1];exact h.wn,by show p.m.cF.shut.rows.length<=64;rw[e.2.1];exact h.rows,by show 0<=p.m.cF.shut.id/\p.m.cF.shut.id<=64;rw[e.2.2];exact h.wid,h.d,h.ids,h.n,hs _ _⟩
theorem V0{L L':List Rq}{t w a:Int}(h:sn L t w a=some L'):L'.length=L.length+1:=by
 unfold sn at h
 split at h
 ·cases h;simp
 ·cases h
theorem W3{L L':List Rq}{id c:Int}{dn:Bool}(h:oA L id c dn=some L'):L'.length=L.length:=by
 unfold oA at h
 split at h
 ·split at h
  ·split at h
   ·cases h
   ·cases h;exact List.length_set
  ·cases h
 ·cases h
theorem V1(m:h_)(s:ByteArray)(aI:Int):m.reqs.length<=(m.accept s aI).1.length/\(kW m.reqs->kW (m.accept s aI).1):=by
 unfold h_.accept
 split
 ·exact⟨Nat.le_refl _,id⟩
 ·split
  ·exact⟨Nat.le_refl _,id⟩
  ·split
   ·exact⟨Nat.le_refl _,id⟩
   ·rename_i L hL
    exact⟨by have:=V0 hL;simp only;omega,λ_=>OM hL⟩
theorem OO(aI:Int):∀(l:List ByteArray) (m:h_),m.reqs.length<=(m.jP aI l).1.reqs.length/\(kW m.reqs->kW (m.jP aI l).1.reqs)/\(m.jP aI l).1.cF=m.cF/\(m.jP aI l).1.tables=m.tables/\(m.jP aI l).1.late=m.late/\(m.jP aI l).1.at_=m.at_
 | [],m=>⟨Nat.le_refl _,id,rfl,rfl,rfl,rfl⟩
 | s::l,m=>by
  obtain⟨a,b⟩:=V1 m s aI
  obtain⟨c,d,e⟩:=OO aI l {m with reqs:=(m.accept s aI).1}
  exact⟨Nat.le_trans a c,λh=>d (b h),e⟩
theorem cFy{m:h_}{t:gW}(h:kW m.reqs)(hr:m.cF.rows.length<=64)(hn:m.cF.n<=64)(hi:0<=m.cF.id/\m.cF.id<=64)(ha:0<=m.at_/\m.at_<=1099511627776):
  m.reqs.length<=(m.take t).1.reqs.length/\kW (m.take t).1.reqs/\(m.take t).1.tables=m.tables/\(0<=(m.take t).1.at_/\(m.take t).1.at_<=1099511627776)/\(m.take t).1.cF.n<=64/\(m.take t).1.cF.rows.length<=64/\0<=(m.take t).1.cF.id/\(m.take t).1.cF.id<=64:=by
 have uU:m.reqs.length<=m.reqs.length/\kW m.reqs/\m.tables=m.tables/\(0<=m.at_/\m.at_<=1099511627776)/\m.cF.n<=64/\m.cF.rows.length<=64/\0<=m.cF.id/\m.cF.id<=64:=⟨Nat.le_refl _,h,rfl,ha,hn,hr,hi⟩
 unfold h_.take
 split
 ·exact uU
 ·rename_i hm
  obtain⟨m1,_⟩:=nB (show ji t=true by cases hq:ji t with
   | true=>rfl
   | false=>exact absurd hq hm)
  split
  ·exact uU
  ·split
   ·unfold h_.vm
    simp only
    obtain⟨a,b,c,d,_,f⟩:=OO t.aI t.signals {m with at_:=t.aI}
    generalize ({m with at_:=t.aI}:h_).jP t.aI t.signals=y at *
    refine⟨a,b h,d,by rw[f];exact⟨by show 0<=t.aI;omega,by show t.aI<=_;omega⟩,?_⟩
    rw[c]
    unfold ir.tA
    simp only
    split
    ·exact⟨hn,Nat.le_trans (List.length_filter_le _ _) hr,hi⟩
    ·exact⟨hn,hr,hi⟩
   ·split
    ·unfold h_.high
     simp only
     have Ey:∀w o,m.cF.high t.mark t.aI=(w,o)->w.n<=64/\w.rows.length<=64/\0<=w.id/\w.id<=64:=λw o e=>by
      unfold ir.high at e
      split at e
      ·cases e;exact⟨hn,hr,hi⟩
      ·cases e;exact⟨hn,Nat.zero_le _,Int.le_refl _,show (0:Int)<=64 by decide⟩
     split
     ·exact⟨Nat.le_refl _,h,rfl,⟨by show 0<=t.aI;omega,by show t.aI<=_;omega⟩,hn,hr,hi⟩
     ·rename_i w x e
      have hw:=Ey _ _ e
      split
      ·exact⟨Nat.le_refl _,h,rfl,⟨by show 0<=t.aI;omega,by show t.aI<=_;omega⟩,hw⟩
      ·rename_i L hL
       exact⟨by have:=W3 hL;simp only at this ⊢;omega,W4 hL,rfl,⟨by show 0<=t.aI;omega,by show t.aI<=_;omega⟩,hw⟩
    ·refine⟨Nat.le_refl _,h,rfl,⟨by show 0<=t.aI;omega,by show t.aI<=_;omega⟩,?_⟩
     show (m.cF.low t.mark).n<=64/\(m.cF.low t.mark).rows.length<=64/\0<=(m.cF.low t.mark).id/\(m.cF.low t.mark).id<=64
     unfold ir.low
     split<;>exact⟨hn,hr,hi⟩
theorem ig.Good.take{p:ig}{N:Nat}(h:p.Good N)(t:gW):({p with m:=(p.m.take t).1}:ig).Good N:=by
 obtain⟨a,b,c,d,e,f,g,i⟩:=cFy (t:=t) h.reqs h.rows h.wn h.wid h.mO
 exact⟨b,by show 1<=(p.m.take t).1.tables/\(p.m.take t).1.tables<=8;rw[c];exact h.t1,d,e,f,⟨g,i⟩,h.d,λm hm=>by have:=h.ids m hm;show m.1<=((p.m.take t).1.reqs.length:Int);omega,h.n,h.src⟩
theorem ig.Good.Av{p:ig}{N:Nat}(h:p.Good N)(sg:List ByteArray)(l:List iy):({p with k:=(p.k.nx sg l).1}:ig).Good (N+2000):=
 ⟨h.reqs,h.t1,h.mO,h.wn,h.rows,h.wid,h.d,h.ids,h.n,h.src.Av sg l⟩
set_option maxRecDepth 100000
theorem T'{after:Int}{C:List Row}{j:Nat}(h:j+1=C.length)(hj:j<C.length):mQ after C=C[j].key:=by
 unfold mQ
 rw[List.getLast?_eq_getElem?,show C.length-1=j by omega,List.getElem?_eq_getElem hj];rfl
theorem b8a(H:bw)(v:Value)(C:List Row)(after n:Int)(hv:fW H 2 v C.length (C.map iu).flatten)(hn:C.length<=1000000):
  SP 206 [.int .i64 after,.int .i64 n,v] [.mem H] (eW (.tuple #[.int .i64 (mQ after C),.bool (decide ((C.length:Int)<n))]) [.mem H]):=by
 intro W F w hS;apply c_j;delta Lz aF a_ ai;(try simp only[app]at hS)
 refine zn hv ?_
 refine b9 (λh=>?_) (λh=>?_)
 ·obtain⟨j,hj⟩:∃j:Nat,j+1=C.length:=⟨C.length-1,by omega⟩
  have jI:j<C.length:=by omega
  rw[T' (after:=after) hj jI]
  refine zn hv ?_
  refine Gp ?_
  rw[show (C.length:Int)-1=(j:Int) by omega]
  refine zA hS Xh jG hv (x:=C[j]) (List.getElem?_eq_getElem jI) jI (i:=0) rfl ?_
  refine zn hv ?_
  refine Gp ?_
  (exact fw hS)
 ·have he:C=[]:=List.eq_nil_of_length_eq_zero (by omega)
  rw[show mQ after C=after by rw[he];rfl]
  refine zn hv ?_
  refine Gp ?_
  (exact fw hS)
abbrev oK(w:ir)(rv:Value):List Value:=[.int .i64 w.mark,.int .i64 w.after,.int .i64 w.id,.int .i64 w.table,rv,.int .i64 w.iJ,.bool w.last,.int .i64 w.n,.int .i64 w.state]
def iE(wp:Nat)(k:ir):zE:=nr λrv:Value=>zU True [.pt wp (oK k rv) 209,jC rv k.rows]
theorem iE.iff{W w:World}{l:List Chunk}{wp:Nat}{k:ir}:SL W (.ob (iE wp k)::l) w↔∃rv,SL W (.pt wp (oK k rv) 209::jC rv k.rows::l) w:=by
 unfold iE
 simp only[SL.ex,SL.fact,true_and,List.cons_append,List.nil_append]
theorem iE.put{W w:World}{l F:List Chunk}{wp:Nat}(k:ir)(rv:Value)(hS:SL W l w)(p:kI [.pt wp (oK k rv) 209,jC rv k.rows] l F):SL W (.ob (iE wp k)::F) w:=iE.iff.2 ⟨rv,hS.pick p⟩
theorem jC.nil{W w:World}{l:List Chunk}(h:SL W l w):SL W (jC (.slice none 0 0) []::l) w:=bI.nil h
theorem dW3(n:Int):SP 194 [.int .i64 n] [] (λv post=>(¬(1<=n/\n<=64)/\v= .tuple #[.pointer none,.int .i64 1]/\post=[])\/((1<=n/\n<=64)/\∃wp:Nat,v= .tuple #[eF wp,.int .i64 0]/\post=[.ob (iE wp (m9 n))])):=by
 intro W F w hS;apply cW7;delta Ln aF ai gw bR;(try simp only[app]at hS)
 refine Gp ?_
 refine za (λh=>⟨_,.inl ⟨by omega,rfl,rfl⟩,hS⟩) (λh1=>?_)
 refine Gp ?_
 refine za (λh=>⟨_,.inl ⟨by omega,rfl,rfl⟩,hS⟩) (λh2=>?_)
 refine Gp ?_
 refine⟨_,rfl,zI hS λwp w hS=>?_⟩
 have hS:=jC.nil hS
 exact⟨_,.inr ⟨by omega,wp,rfl,rfl⟩,SL.b_ (iE.put (wp:=wp) (m9 n) (.slice none 0 0) hS Xp) Xi⟩
section
variable (wp:Nat) (k:ir)
theorem Za:SP 117 [eF wp] [.ob (iE wp k)] (eW (.int .i64 k.state) [.ob (iE wp k)]):=by
 intro W F w hS;apply cI4;delta Kd bF;(try simp only[app]at hS)
 obtain⟨rv,hS⟩:=iE.iff.1 hS
 unfold oK at hS
 refine Gp ?_
 exact⟨_,⟨rfl,rfl⟩,SL.b_ (iE.put k rv hS Xp) Xi⟩
theorem Yq:SP 131 [eF wp] [.ob (iE wp k)] (eW (.int .i64 k.mark) [.ob (iE wp k)]):=by
 intro W F w hS;apply cRj;delta Kr a_ d_;(try simp only[app]at hS)
 obtain⟨rv,hS⟩:=iE.iff.1 hS
 unfold oK at hS
 refine Gp ?_
 exact⟨_,⟨rfl,rfl⟩,SL.b_ (iE.put k rv hS Xp) Xi⟩
theorem dW1:SP 132 [eF wp] [.ob (iE wp k)] (eW (.int .i64 k.id) [.ob (iE wp k)]):=by
 intro W F w hS;apply cRk;delta Ks a_ d_;(try simp only[app]at hS)
 obtain⟨rv,hS⟩:=iE.iff.1 hS
 unfold oK at hS
 refine Gp ?_
 exact⟨_,⟨rfl,rfl⟩,SL.b_ (iE.put k rv hS Xp) Xi⟩
theorem ZV:SP 48 [eF wp] [.ob (iE wp k)] (eW (.int .i64 k.table) [.ob (iE wp k)]):=by
 intro W F w hS;apply dRk;delta NU a_ d_;(try simp only[app]at hS)
 obtain⟨rv,hS⟩:=iE.iff.1 hS
 unfold oK at hS
 refine Gp ?_
 exact⟨_,⟨rfl,rfl⟩,SL.b_ (iE.put k rv hS Xp) Xi⟩
theorem ZU:SP 124 [eF wp] [.ob (iE wp k)] (eW (.int .i64 k.after) [.ob (iE wp k)]):=by
 intro W F w hS;apply cRc;delta Kl a_ d_;(try simp only[app]at hS)
 obtain⟨rv,hS⟩:=iE.iff.1 hS
 unfold oK at hS
 refine Gp ?_
 exact⟨_,⟨rfl,rfl⟩,SL.b_ (iE.put k rv hS Xp) Xi⟩
theorem dW6(hn:k.rows.length<=1000000):SP 133 [eF wp] [.ob (iE wp k)] (λu post=>post=[jC u k.rows,.ob (iE wp k)]):=by
 intro W F w hS;apply cRl;delta Kt a_ d_;(try simp only[app]at hS)
 obtain⟨rv,hS⟩:=iE.iff.1 hS
 unfold oK at hS
 refine Gp ?_
 refine Cc (W6 rv k.rows hn) ?_;clear hS
 rintro u post rfl w hS
 try simp only[app]at hS
 exact⟨_,rfl,SL.b_ (iE.put k rv hS Xp) Xi⟩
theorem dW4(mark id table after:Int):SP 205 [eF wp,.int .i64 mark,.int .i64 id,.int .i64 table,.int .i64 after] [.ob (iE wp k)] (λv post=>(∃q,v= .bool q)/\post=[.ob (iE wp (k.oE mark id table after))]):=by
 intro W F w hS;apply c_i;delta Ly aF bF fR d_ cw ai bR;(try simp only[app]at hS)
 obtain⟨rv,hS⟩:=iE.iff.1 hS
 unfold oK at hS
 have gi:∀{w:World},k.uW mark id table after->SL W (.pt wp [.int .i64 k.mark,.int .i64 k.after,.int .i64 k.id,.int .i64 k.table,rv,.int .i64 k.iJ,.bool k.last,.int .i64 k.n,.int .i64 k.state] 209::jC rv k.rows::F) w->∃post,((∃q,Value.bool false= .bool q)/\post=[.ob (iE wp (k.oE mark id table after))])/\SL W (app post F) w:=λh hS=>by
  rw[show k.oE mark id table after=k from if_pos h]
  exact⟨_,⟨⟨_,rfl⟩,rfl⟩,SL.b_ (iE.put k rv hS Xp) Xi⟩
 refine Gp ?_
 refine za (λh=>gi (.inl h) hS) (λh0=>?_)
 refine Gp ?_
 refine za (λh=>gi (.inr (by omega)) hS) (λh1=>?_)
 refine Gp ?_
 refine za (λh=>gi (.inr (by omega)) hS) (λh2=>?_)
 refine Gp ?_
 refine za (λh=>gi (.inr (by omega)) hS) (λh3=>?_)
 refine Gp ?_
 refine za (λh=>gi (.inr (by omega)) hS) (λh4=>?_)
 refine Gp ?_
 refine za (λh=>gi (.inr (by omega)) hS) (λh5=>?_)
 refine Gp ?_
 refine za (λh=>gi (.inr (by omega)) hS) (λh6=>?_)
 refine Gp ?_
 refine za (λh=>gi (.inr (by omega)) hS) (λh7=>?_)
 refine Gp ?_
 refine za (λh=>gi (.inr (by omega)) hS) (λh8=>?_)
 clear gi
 have cR:¬k.uW mark id table after:=by unfold ir.uW;omega
 rw[show k.oE mark id table after=⟨k.n,1,mark,after,id,table,[],0,false⟩ from if_neg cR]
 refine Gp ?_
 refine Qn hS Xu rfl (by simp) (by simp[Value.oneCell']) λw hS=>?_
 simp only[List.take,List.drop,List.cons_append,List.nil_append]at hS
 refine Gn λw hS=>?_
 have hS:=jC.nil hS
 exact⟨_,⟨⟨_,rfl⟩,rfl⟩,SL.b_ (iE.put (wp:=wp) ⟨k.n,1,mark,after,id,table,[],0,false⟩ (.slice none 0 0) hS Xp) Xi⟩
theorem dW8:SP 207 [eF wp] [.ob (iE wp k)] (λv post=>(∃q,v= .bool q)/\post=[.ob (iE wp k.shut)]):=by
 intro W F w hS;apply c_k;delta LA aF bF fR cw ai;(try simp only[app]at hS)
 obtain⟨rv,hS⟩:=iE.iff.1 hS
 unfold oK at hS
 unfold ir.shut
 refine b9 (λh=>?_) (λh=>?_)
 ·rw[if_neg h]
  exact⟨_,⟨⟨_,rfl⟩,rfl⟩,SL.b_ (iE.put k rv hS Xp) Xi⟩
 ·rw[if_pos (by omega)]
  refine Gn λw hS=>?_
  exact⟨_,⟨⟨_,rfl⟩,rfl⟩,SL.b_ (iE.put {k with state:=3} rv hS Xp) Xi⟩
theorem dW2(mark:Int):SP 121 [eF wp,.int .i64 mark] [.ob (iE wp k)] (λv post=>(∃q,v= .bool q)/\post=[.ob (iE wp (k.low mark))]):=by
 intro W F w hS;apply cI9;delta Ki aF bF a_ fR d_ cw ai;(try simp only[app]at hS)
 obtain⟨rv,hS⟩:=iE.iff.1 hS
 unfold oK at hS
 unfold ir.low
 refine b9 (λh=>?_) (λh=>?_)
 ·rw[if_neg (by omega)]
  exact⟨_,⟨⟨_,rfl⟩,rfl⟩,SL.b_ (iE.put k rv hS Xp) Xi⟩
 ·refine b9 (λh2=>?_) (λh2=>?_)
  ·rw[if_neg (by omega)]
   exact⟨_,⟨⟨_,rfl⟩,rfl⟩,SL.b_ (iE.put k rv hS Xp) Xi⟩
  ·rw[if_pos (by omega)]
   refine Gn λw hS=>?_
   exact⟨_,⟨⟨_,rfl⟩,rfl⟩,SL.b_ (iE.put {k with state:=4} rv hS Xp) Xi⟩
theorem Qs(x:mu):SP 135 [eF wp,agg (iG x)] [.ob (iE wp k)] (eW (.bool (k.waits x.kind x.mark)) [.ob (iE wp k)]):=by
 intro W F w hS;apply cRn;delta Kv aF bF a_ d_ cw ai;(try simp only[app]at hS)
 obtain⟨rv,hS⟩:=iE.iff.1 hS
 unfold oK at hS
 refine zC hS λxb w hS=>?_
 unfold iG at hS
 unfold ir.waits
 refine Gn λw hS=>?_
 refine za (λh=>?_) (λh=>?_)
 ·refine b9 (λh2=>?_) (λh2=>?_)
  ·refine b9 (λh3=>?_) (λh3=>?_)
   ·rw[decide_eq_true (by omega)]
    exact⟨_,⟨rfl,rfl⟩,SL.b_ (iE.put k rv hS Xp) Xi⟩
   ·refine Gp ?_
    rw[show decide (x.kind=2/\x.mark=k.mark/\(k.state=1\/k.state=2))=decide (k.state=2) by rw[decide_eq_decide];omega]
    exact⟨_,⟨rfl,rfl⟩,SL.b_ (iE.put k rv hS Xp) Xi⟩
  ·rw[decide_eq_false (by omega)]
   exact⟨_,⟨rfl,rfl⟩,SL.b_ (iE.put k rv hS Xp) Xi⟩
 ·rw[decide_eq_false (by omega)]
  exact⟨_,⟨rfl,rfl⟩,SL.b_ (iE.put k rv hS Xp) Xi⟩
end
theorem De:∀(A B:List Row) (k:Int),np k (A++B)=(np k A && np (mQ k A) B)
 | [],B,k=>by simp[np,mQ]
 | r::A,B,k=>by
  have e:mQ k (r::A)=mQ r.key A:=by
   unfold mQ
   cases A with
   | nil=>rfl
   | cons y A=>rw[List.getLast?_cons_cons];rfl
  show (decide (k<r.key/\r.key<=1099511627776) && np r.key (A++B))=((decide (k<r.key/\r.key<=1099511627776) && np r.key A) && np (mQ k (r::A)) B)
  rw[De A B r.key,e,Bool.and_assoc]
theorem T_(a:Int)(A:List Row)(r:Row):mQ a (A++[r])=r.key:=by
 unfold mQ
 rw[List.getLast?_append];simp
theorem dW0(wp:Nat)(k:ir)(H:bw)(v:Value)(C:List Row)(hv:fW H 2 v C.length (C.map iu).flatten)(hn:C.length<=1000000):
  SP 123 [eF wp,v] [.ob (iE wp k),.mem H] (λu post=>(∃q,u= .bool q)/\post=[.ob (iE wp (k.fill C)),.mem H]):=by
 intro W F w hS;apply cRb;delta Kk aF bF a_ fR d_ cw ai dw;(try simp only[app]at hS)
 obtain⟨rv,hS⟩:=iE.iff.1 hS
 have gi:∀{w:World} {l:List Chunk},k.vo C->SL W l w->mI [.pt wp (oK k rv) 209,jC rv k.rows,.mem H] l->True:=λ_ _ _=>trivial
 clear gi
 unfold oK at hS
 have gi:∀{w:World},k.vo C->SL W (.pt wp [.int .i64 k.mark,.int .i64 k.after,.int .i64 k.id,.int .i64 k.table,rv,.int .i64 k.iJ,.bool k.last,.int .i64 k.n,.int .i64 k.state] 209::jC rv k.rows::.mem H::F) w->∃post,((∃q,Value.bool false= .bool q)/\post=[.ob (iE wp (k.fill C)),.mem H])/\SL W (app post F) w:=λh hS=>by
  rw[show k.fill C=k from if_pos h]
  exact⟨_,⟨⟨_,rfl⟩,rfl⟩,SL.b_ (iE.put k rv hS Xp) Xi⟩
 refine Gp ?_
 refine za (λh=>gi (.inl h) hS) (λh1=>?_)
 refine zn hv ?_
 refine Gp ?_
 refine za (λh=>gi (.inr (.inl (by omega))) hS) (λh2=>?_)
 refine Gp ?_
 refine zn hv ?_
 refine⟨λus w=>∃i:Nat,us=[.int .i64 (mQ k.after (C.take i)),.int .i64 i]/\i<=C.length/\np k.after (C.take i)=true/\SL W (.pt wp [.int .i64 k.mark,.int .i64 k.after,.int .i64 k.id,.int .i64 k.table,rv,.int .i64 k.iJ,.bool k.last,.int .i64 k.n,.int .i64 k.state] 209::jC rv k.rows::.mem H::F) w,
  λus _=>match us with|[_,.int _ i]=>(C.length-i).toNat|_=>0,⟨0,rfl,by omega,rfl,hS⟩,?_⟩
 clear hS
 rintro v5 v29 w ⟨i,dR,hi,hr,hS⟩
 cases dR
 refine b9 (λh=>?_) (λh=>?_)
 ·have b8:i<C.length:=by omega
  have hx:C[i]?=some C[i]:=List.getElem?_eq_getElem b8
  have kK:C.take (i+1)=C.take i++[C[i]]:=List.take_succ_eq_append_getElem b8
  have iD:np k.after C=true->np k.after (C.take (i+1))=true:=λh=>by
   rw[<- List.take_append_drop (i+1) C,De,Bool.and_eq_true]at h;exact h.1
  have oV:np k.after (C.take (i+1))=decide (mQ k.after (C.take i)<C[i].key/\C[i].key<=1099511627776):=by
   rw[kK,De,hr];unfold np;simp[np]
  refine zK hS Xh jG hv hx b8 ?_
  generalize C[i]=r at *
  refine Gb λxb w hS=>?_
  have kX:∀{w:World},¬(mQ k.after (C.take i)<r.key/\r.key<=1099511627776)->SL W (.pt xb (iu r) 52::.pt wp [.int .i64 k.mark,.int .i64 k.after,.int .i64 k.id,.int .i64 k.table,rv,.int .i64 k.iJ,.bool k.last,.int .i64 k.n,.int .i64 k.state] 209::jC rv k.rows::.mem H::F) w->∃post,((∃q,Value.bool false= .bool q)/\post=[.ob (iE wp (k.fill C)),.mem H])/\SL W (app post F) w:=λhb hS=>by
   refine gi (.inr (.inr ?_)) (aR hS)
   cases hq:np k.after C with
   | false=>rfl
   | true=>rw[iD hq]at oV;exact absurd (of_decide_eq_true oV.symm) hb
  have RY:=@kX
  clear gi kX
  refine za (λh=>RY (by omega) hS) (λh3=>?_)
  refine Gp ?_
  refine za (λh=>RY (by omega) hS) (λh4=>?_)
  refine Gp ?_
  refine⟨⟨i+1,?_,by omega,?_,aR hS⟩,by dsimp only;omega⟩
  ·rw[kK,T_]
  ·rw[oV];exact decide_eq_true (by omega)
 ·have he:C.take i=C:=List.take_of_length_le (by omega)
  rw[he]at hr
  have cR:¬k.vo C:=by
   rintro (h|h|h)
   ·exact h1 h
   ·omega
   ·rw[hr]at h;cases h
  rw[show k.fill C={k with state:=2,rows:=C,iJ:=mQ k.after C,last:=decide ((C.length:Int)<k.n)} from if_neg cR]
  clear gi
  refine Cc (Pn (λv0 w R h=>Jw v0 w R h) rfl (by decide) hv (pD s7 C) (by omega) (by omega)) ?_;clear hS
  rintro u post rfl w hS
  try simp only[app]at hS
  have hS:SL W (jC u C::_) w:=hS
  have o1:u.oneCell'=true:=bI.one hS
  refine Gn λw hS=>?_
  refine Cg (b8a H v C k.after k.n hv hn) λw hS=>?_
  exact⟨_,⟨⟨_,rfl⟩,rfl⟩,SL.b_ (iE.put (wp:=wp) {k with state:=2,rows:=C,iJ:=mQ k.after C,last:=decide ((C.length:Int)<k.n)} u hS Xp) Xi⟩
theorem aiq{D:List Row}{i:Nat}(hi:i<D.length)(x:Row)(rest:List Value):((D.map iu).flatten++rest).take (0+i*2)++iu x++((D.map iu).flatten++rest).drop (0+i*2+2)=((D.set i x).map iu).flatten++rest:=by
 have hl:((D.map iu).flatten).length=D.length*2:=l8 jG D
 rw[Nat.zero_add,List.take_append_of_le_length (by omega),List.drop_append_of_le_length (by omega),show i*2+2=(i+1)*2 by omega,sA jG,rN jG,List.set_eq_take_append_cons_drop,if_pos hi]
 simp
theorem YR(cb:Nat)(c:iy)(r:Row):SP 262 [agg (iu r),eF cb] [.pt cb (jE c) 82] (eW (.bool (decide (r.key=c.key))) [.pt cb (jE c) 82]):=by
 intro W F w hS;apply dw2;delta Mw a_;(try simp only[app]at hS)
 refine zC hS λxb w hS=>?_
 unfold iu at hS
 unfold jE at hS ⊢
 refine Gp ?_
 (exact fw hS)
theorem XF(cb:Nat)(c:iy)(v:Value)(C:List Row)(hn:C.length<=1000000):
  SP 261 [v,.func (.func 262) #[] #[eF cb]] [.pt cb (jE c) 82,jC v C] (λu post=>post=[.pt cb (jE c) 82,jC u (C.filter λr=>!decide (r.key=c.key))]):=by
 intro W F w hS;apply dw1;delta Mv aF dW ai dw;(try simp only[app]at hS)
 have hC:=SM (t:=52) jG rfl (λv0 v1 w R h=>dId v0 v1 w R h) (λr=>YR cb c r) v C (by omega)
 simp only[List.cons_append,List.nil_append]at hC
 refine Cg (hC) λw hS=>?_
 cases hf:C.findIdx? (λr=>decide (r.key=c.key)) with
 | none=>
  simp only[nj]
  refine za (λ_=>?_) (λh=>absurd trivial h)
  have e:C.filter (λr=>!decide (r.key=c.key))=C:=List.filter_eq_self.2 λr hr=>by
   have:=List.findIdx?_eq_none_iff.1 hf r hr
   rw[this];rfl
  rw[e]
  exact⟨_,rfl,aR hS⟩
 | some i0=>
  obtain⟨AT,EC,wI⟩:=List.findIdx?_eq_some_iff_getElem.1 hf
  have tR:(C.take (i0+1)).filter (λr=>!decide (r.key=c.key))=C.take i0:=by
   rw[List.take_succ_eq_append_getElem AT,List.filter_append,List.filter_eq_self.2 λr hr=>by
    obtain⟨j,hj,rfl⟩:=List.getElem_of_mem hr
    rw[List.length_take]at hj
    rw[List.getElem_take]
    have:=wI j (by omega)
    simpa using this]
   simp at EC
   simp[EC]
  simp only[nj]
  refine za (λh=>by omega) (λ_=>?_)
  rcases bI.open (SL.b_ hS (t:=jC v C::.pt cb (jE c) 82::F) Xi) with ⟨_,h0,_⟩|⟨b,cap,rest,rfl,wD,hlen,mW,hS⟩
  ·omega
  refine Gp ?_
  refine⟨λus w=>∃(i j:Nat) (D:List Row),us=[.int .i64 i,.int .i64 j]/\i<j/\j<=C.length/\D.length=C.length/\D.take i=(C.take j).filter (λr=>!decide (r.key=c.key))/\D.drop j=C.drop j/\SL W (.pt b ((D.map iu).flatten++rest) 52::.pt cb (jE c) 82::F) w,
   λus _=>match us with|[_,.int _ j]=>(C.length-j).toNat|_=>0,⟨i0,i0+1,C,rfl,by omega,by omega,rfl,tR.symm,rfl,aR hS⟩,?_⟩
  clear hS hf AT EC wI tR
  rintro v5 v6 w ⟨i,j,D,dR,vC,hj,hD,ht,hd,hS⟩
  cases dR
  refine b9 (λh=>?_) (λh=>?_)
  ·have jI:j<C.length:=by omega
   have R_:j<D.length:=by omega
   have hxe:D[j]=C[j]:=by
    have h1:(D.drop j)[0]?=(C.drop j)[0]?:=by rw[hd]
    rw[List.getElem?_drop,List.getElem?_drop,Nat.add_zero,List.getElem?_eq_getElem R_,List.getElem?_eq_getElem jI]at h1
    simpa using h1
   have kK:C.take (j+1)=C.take j++[C[j]]:=List.take_succ_eq_append_getElem jI
   have Cm:D.drop (j+1)=C.drop (j+1):=by
    rw[<- List.drop_drop,<- List.drop_drop,hd]
   have oT:∀q u,(iu D[j])[q]?=some u->((D.map iu).flatten++rest)[0+j*2+q]?=some u:=λq u hu=>by
    rw[Nat.zero_add]
    have:=sy jG D j q D[j] u (List.getElem?_eq_getElem R_) hu
    rw[List.getElem?_append_left (List.getElem?_eq_some_iff.1 this).1];exact this
   refine zH jI ?_
   refine Yk hS Xh rfl oT ?_
   rw[hxe]
   generalize C[j]=r at *
   refine Gb λxb w hS=>?_
   refine ZX (args':=[agg (iu r),eF cb]) rfl (YR cb c r) rfl hS Xp ?_
   clear hS
   rintro _ post ⟨rfl,rfl⟩ w hS
   (try simp only[app]at hS);refine Gp ?_
   refine zz (λhq=>?_) (λhq=>?_)
   ·refine zL hS Xh rfl ?_
    refine zH (show i<C.length by omega) ?_
    refine Qn hS Xu rfl ?_ (s7 _) λw hS=>?_
    ·rw[List.length_append,l8 jG];omega
    rw[aiq (by omega)]at hS
    refine Gp ?_
    refine⟨⟨i+1,j+1,D.set i r,rfl,by omega,by omega,by rw[List.length_set];exact hD,?_,?_,aR hS⟩,by dsimp only;omega⟩
    ·rw[kK,List.filter_append,<- ht]
     have:([r].filter λr=>!decide (r.key=c.key))=[r]:=by simp[hq]
     rw[this,List.take_succ_eq_append_getElem (by rw[List.length_set];omega),List.getElem_set_self,List.take_set_of_le (Nat.le_refl _)]
    ·rw[List.drop_set_of_lt (by omega)];exact Cm
   ·refine Gp ?_
    refine⟨⟨i,j+1,D,rfl,by omega,by omega,hD,?_,Cm,aR hS⟩,by dsimp only;omega⟩
    rw[kK,List.filter_append,<- ht]
    have:([r].filter λr=>!decide (r.key=c.key))=[]:=by simp[hq]
    rw[this,List.append_nil]
  ·have hjc:j=C.length:=by omega
   subst hjc
   rw[List.take_length]at ht
   rw[<- ht]
   have hl:((D.map iu).flatten).length=D.length*2:=l8 jG D
   refine⟨some ⟨b,0,none⟩,C.length,cap,i,C.length,cap,rfl,rfl,rfl,⟨_,rfl⟩,by omega,by omega,by omega,?_⟩
   rw[if_neg (show ¬cap=i by omega)]
   simp only[Option.map_some,Addr.add_lit,Nat.zero_add]
   have hA:((D.map iu).flatten.take (i*2)).length=i*2:=by rw[List.length_take,hl];omega
   have e2:((D.map iu).flatten++rest).take (i*2)++cW [.int .i64 0,.string ⟨#[]⟩] (C.length-i)++((D.map iu).flatten++rest).drop (i*2+(cW [.int .i64 0,.string ⟨#[]⟩] (C.length-i)).length)=(D.map iu).flatten.take (i*2)++(cW [.int .i64 0,.string ⟨#[]⟩] (C.length-i)++rest):=by
    have:=Po ((D.map iu).flatten.take (i*2)) ((D.map iu).flatten.drop (i*2)) (cW [.int .i64 0,.string ⟨#[]⟩] (C.length-i)) rest (by rw[List.length_drop,hl,om];show _=(C.length-i)*2;omega)
    rw[hA,<- List.append_assoc ((D.map iu).flatten.take (i*2)) ((D.map iu).flatten.drop (i*2)) rest,List.take_append_drop]at this
    exact this
   refine UB (tt:=52) (z:=[.int .i64 0,.string ⟨#[]⟩]) (zv:=.agg #[.int .i64 0,.string ⟨#[]⟩]) (n:=C.length-i) (o:=i*2) (cs:=(D.map iu).flatten++rest) (l':=.pt b ((D.map iu).flatten.take (i*2)++(cW [.int .i64 0,.string ⟨#[]⟩] (C.length-i)++rest)) 52::.pt cb (jE c) 82::F) hS ?_ Tryz.underlying53 (λw=>by kernel_rfl) rfl (by simp[Value.oneCell']) (by omega) (by rw[List.length_append,hl];show i*2+(C.length-i)*2<=_;omega) ?_
   ·rw[show (C.length-i)*([Value.int .i64 0,Value.string ⟨#[]⟩]:List Value).length=(cW [.int .i64 0,.string ⟨#[]⟩] (C.length-i)).length from (om _ _).symm,e2]
    exact kH.hd
   ·intro u w hS
    refine⟨some ⟨b,0,none⟩,C.length,cap,0,i,cap,rfl,rfl,⟨_,rfl⟩,rfl,by omega,by omega,by omega,?_⟩
    rw[if_neg (show ¬cap=0 by omega)]
    simp only[Option.map_some,Addr.add_lit,Nat.zero_mul,Nat.add_zero,Nat.sub_zero]
    have hS:=bI.mk (n:=i) (cap:=cap) (sz:=2) (rest:=cW [.int .i64 0,.string ⟨#[]⟩] (C.length-i)++rest) (by omega) hA (by rw[List.length_append,mW,om];show (C.length-i)*2+_=_;omega) hS
    rw[sA jG]at hS
    have b8:(D.take i).length=i:=by rw[List.length_take];omega
    refine⟨_,rfl,?_⟩
    have hS:SL W (jC (.slice (some ⟨b,0,none⟩) i cap) (D.take i)::.pt cb (jE c) 82::F) w:=by unfold jC;rw[b8];exact hS
    exact aR hS
theorem R9(t:Int)(l:List iy)(i:Nat)(h:i<l.length)(r:Row):lg t (l.take (i+1)) r=(lg t (l.take i) r || decide (l[i].table=t/\l[i].key=r.key)):=by
 unfold lg
 rw[List.take_succ_eq_append_getElem h,List.any_append];simp
theorem dW7(wp:Nat)(k:ir)(H:bw)(v:Value)(l:List iy)(hv:fW H 4 v l.length (l.map jE).flatten)(hn:k.rows.length<=1000000)(hl:l.length<=140737488351232):
  SP 199 [eF wp,v] [.ob (iE wp k),.mem H] (λu post=>(∃q,u= .int .i64 q)/\post=[.ob (iE wp (k.tA l)),.mem H]):=by
 intro W F w hS;apply c_c;delta Ls aF bF a_ d_ ai dw;(try simp only[app]at hS)
 obtain⟨rv,hS⟩:=iE.iff.1 hS
 unfold oK at hS
 unfold ir.tA
 refine b9 (λh=>?_) (λh=>?_)
 ·rw[if_neg h]
  exact⟨_,⟨⟨_,rfl⟩,rfl⟩,SL.b_ (iE.put k rv hS Xp) Xi⟩
 rw[if_pos (by omega)]
 refine Gp ?_
 refine zx hS (v:=rv) (t:=52) (sz:=2) (n:=k.rows.length) (cells:=(k.rows.map iu).flatten) Xh ?_
 refine zn hv ?_
 refine⟨λus w=>∃(i:Nat) (ru:Value),us=[.int .i64 i]/\i<=l.length/\SL W (.pt wp [.int .i64 k.mark,.int .i64 k.after,.int .i64 k.id,.int .i64 k.table,ru,.int .i64 k.iJ,.bool k.last,.int .i64 k.n,.int .i64 k.state] 209::jC ru (k.rows.filter λr=>!lg k.table (l.take i) r)::.mem H::F) w,
  λus _=>match us with|[.int _ i]=>(l.length-i).toNat|_=>0,⟨0,rv,rfl,by omega,?_⟩,?_⟩
 ·have:(k.rows.filter λr=>!lg k.table (l.take 0) r)=k.rows:=List.filter_eq_self.2 λr _=>by simp[lg]
  rw[this];exact aR hS
 clear hS
 rintro Dt w ⟨i,ru,dR,hi,hS⟩
 cases dR
 refine b9 (λh=>?_) (λh=>?_)
 ·have b8:i<l.length:=by omega
  have hx:l[i]?=some l[i]:=List.getElem?_eq_getElem b8
  have pP:(k.rows.filter λr=>!lg k.table (l.take i) r).length<=k.rows.length:=List.length_filter_le _ _
  refine zK hS Xh mP hv hx b8 ?_
  have lZ:∀r,lg k.table (l.take (i+1)) r=(lg k.table (l.take i) r || decide (l[i].table=k.table/\l[i].key=r.key)):=R9 k.table l i b8
  generalize l[i]=c at *
  refine Gb λxb w hS=>?_
  refine za (λh2=>?_) (λh2=>?_)
  ·refine Gp ?_
   refine Cc (XF xb c ru (k.rows.filter λr=>!lg k.table (l.take i) r) (by omega)) ?_;clear hS
   rintro u post rfl w hS
   try simp only[app]at hS
   have hS:SL W (jC u ((k.rows.filter λr=>!lg k.table (l.take i) r).filter λr=>!decide (r.key=c.key))::.pt xb (jE c) 82::.pt wp [.int .i64 k.mark,.int .i64 k.after,.int .i64 k.id,.int .i64 k.table,ru,.int .i64 k.iJ,.bool k.last,.int .i64 k.n,.int .i64 k.state] 209::.mem H::F) w:=aR hS
   have o1:u.oneCell'=true:=bI.one hS
   refine Gn λw hS=>?_
   refine⟨⟨i+1,u,rfl,by omega,?_⟩,by dsimp only;omega⟩
   have e:(k.rows.filter λr=>!lg k.table (l.take (i+1)) r)=((k.rows.filter λr=>!lg k.table (l.take i) r).filter λr=>!decide (r.key=c.key)):=by
    rw[List.filter_filter]
    refine List.filter_congr λr _=>?_
    rw[lZ r]
    have:decide (c.table=k.table/\c.key=r.key)=decide (r.key=c.key):=by rw[decide_eq_decide];omega
    rw[this]
    cases lg k.table (l.take i) r<;>cases decide (r.key=c.key)<;>rfl
   rw[e]
   exact aR hS
  ·refine Gp ?_
   refine⟨⟨i+1,ru,rfl,by omega,?_⟩,by dsimp only;omega⟩
   have e:(k.rows.filter λr=>!lg k.table (l.take (i+1)) r)=(k.rows.filter λr=>!lg k.table (l.take i) r):=by
    refine List.filter_congr λr _=>?_
    rw[lZ r,decide_eq_false (by omega),Bool.or_false]
   rw[e]
   exact aR hS
 ·have:l.take i=l:=List.take_of_length_le (by omega)
  rw[this]at hS
  have pP:(k.rows.filter λr=>!lg k.table l r).length<=k.rows.length:=List.length_filter_le _ _
  refine Gp ?_
  refine zx hS (v:=ru) (t:=52) (sz:=2) (n:=(k.rows.filter λr=>!lg k.table l r).length) (cells:=((k.rows.filter λr=>!lg k.table l r).map iu).flatten) Xh ?_
  refine Gp ?_
  exact⟨_,⟨⟨_,rfl⟩,rfl⟩,SL.b_ (iE.put {k with rows:=k.rows.filter λr=>!lg k.table l r} ru hS Xp) Xi⟩
abbrev uf:pd:=⟨0,.slice none 0 0,.slice none 0 0⟩
def w4(wp:Nat)(k:ir)(H:bw)(mark aI:Int)(u:Value)(post:List Chunk):Prop:=match (k.high mark aI).2 with
 | none=>u= .tuple #[agg (kT uf),.bool false]/\post=[.ob (iE wp k),.mem H]
 | some t=>∃(x:pd) (H':bw),H.le H'/\u= .tuple #[agg (kT x),.bool true]/\pc H' x t/\post=[.ob (iE wp (m9 k.n)),.mem H']
theorem y'{a:Int}{u v:Value}(h1:u.oneCell'=true)(h2:v.oneCell'=true):∀x∈[Value.int .i64 a,u,v],x.oneCell'=true:=by
 intro x hx
 simp only[List.mem_cons,List.not_mem_nil,or_false]at hx
 rcases hx with rfl|rfl|rfl
 ·rfl
 ·exact h1
 ·exact h2
theorem Yp(wp:Nat)(k:ir)(H:bw)(mark aI:Int)(hn:k.rows.length<=1000000):SP 200 [eF wp,.int .i64 mark,.int .i64 aI] [.ob (iE wp k),.mem H] (w4 wp k H mark aI):=by
 intro W F w hS;apply c_d;delta Lt aF bF a_ fR aW d_ ai dw bR;(try simp only[app]at hS)
 obtain⟨rv,hS⟩:=iE.iff.1 hS
 have gi:∀{w:World} {rb:Nat},k.tT mark aI->SL W (.pt rb [.int .i64 0,.slice none 0 0,.slice none 0 0] 100::.pt wp (oK k rv) 209::jC rv k.rows::.mem H::F) w->∃post,w4 wp k H mark aI (.tuple #[agg (kT uf),.bool false]) post/\SL W (app post F) w:=λh hS=>by
  have e:(k.high mark aI).2=none:=by unfold ir.high;rw[if_pos h]
  refine⟨[.ob (iE wp k),.mem H],?_,SL.b_ (iE.put k rv hS Xp) Xi⟩
  unfold w4;rw[e];exact⟨rfl,rfl⟩
 refine Gb λrb w hS=>?_
 refine za (λh=>?_) (λh1=>?_)
 ·refine Gn λw hS=>?_
  exact gi (.inl h) hS
 refine b9 (λh=>?_) (λh2=>?_)
 ·refine Gn λw hS=>?_
  exact gi (.inr (.inl h)) hS
 refine b9 (λh=>?_) (λh3=>?_)
 ·refine Gn λw hS=>?_
  exact gi (.inr (.inr (by omega))) hS
 refine b9 (λh=>?_) (λh4=>?_)
 ·refine Gn λw hS=>?_
  exact gi (.inr (.inr (by omega))) hS
 clear gi
 have cR:¬k.tT mark aI:=by unfold ir.tT;omega
 have e:(k.high mark aI).2=some ⟨aI,kZ k aI,[wQ k]⟩:=by unfold ir.high;rw[if_neg cR]
 refine⟨λus w=>∃(b nb:Nat),us=[eF b]/\SL W (.pt b [.int .i64 aI,.slice none 0 0,.slice (some ⟨nb,0,none⟩) 1 1] 100::.pt nb [.int .i64 2,.int .i64 k.id,.int .i64 0,.int .i64 0,.int .i64 0,.int .i64 k.iJ,.bool k.last] 295::.pt rb [.int .i64 0,.slice none 0 0,.slice none 0 0] 100::.pt wp (oK k rv) 209::jC rv k.rows::.mem H::F) w,?_,?_⟩
 ·refine Gn λw hS=>?_
  refine⟨?_,?_⟩
  ·refine Gb λnb w hS=>?_
   refine Gb λb w hS=>?_
   exact⟨b,nb,rfl,aR hS⟩
  ·refine Gb λb w hS=>?_
   refine Gb λnb w hS=>?_
   exact⟨b,nb,rfl,aR hS⟩
 clear hS
 rintro v8 w ⟨b,nb,dR,hS⟩
 cases dR
 refine Gp ?_
 refine zx hS (v:=rv) (t:=52) (sz:=2) (n:=k.rows.length) (cells:=(k.rows.map iu).flatten) Xh ?_
 have A0:(kZ k aI).length=k.rows.length:=List.length_map ..
 have hS:SL W (.ob (bI (.slice none 0 0) 123 5 ((kZ k aI).take 0).length (((kZ k aI).take 0).map oO).flatten)::_) w:=bI.nil hS
 refine⟨λus w=>∃(i:Nat) (ov:Value),us=[.int .i64 i]/\i<=k.rows.length/\SL W (.ob (bI ov 123 5 ((kZ k aI).take i).length (((kZ k aI).take i).map oO).flatten)::.pt b [.int .i64 aI,ov,.slice (some ⟨nb,0,none⟩) 1 1] 100::.pt nb [.int .i64 2,.int .i64 k.id,.int .i64 0,.int .i64 0,.int .i64 0,.int .i64 k.iJ,.bool k.last] 295::.pt rb [.int .i64 0,.slice none 0 0,.slice none 0 0] 100::.pt wp (oK k rv) 209::jC rv k.rows::.mem H::F) w,
  λus _=>match us with|[.int _ i]=>(k.rows.length-i).toNat|_=>0,⟨0,.slice none 0 0,rfl,by omega,aR hS⟩,?_⟩
 clear hS
 rintro Jr w ⟨i,ov,dR,hi,hS⟩
 cases dR
 refine b9 (λh=>?_) (λh=>?_)
 ·have b8:i<k.rows.length:=by omega
  have hx:k.rows[i]?=some k.rows[i]:=List.getElem?_eq_getElem b8
  have i_:(kZ k aI)[i]'(by omega)=⟨aI,k.table,k.rows[i].key,false,k.rows[i].val⟩:=by unfold kZ;rw[List.getElem_map]
  have kK:(kZ k aI).take (i+1)=(kZ k aI).take i++[⟨aI,k.table,k.rows[i].key,false,k.rows[i].val⟩]:=by rw[List.take_succ_eq_append_getElem (by omega),i_]
  have Hm:((kZ k aI).take i).length=i:=by rw[List.length_take];omega
  refine yd hS (v:=rv) (t:=52) Xh jG hx b8 ?_
  generalize k.rows[i]=r at *
  refine Gb λxb w hS=>?_
  refine Gb λyb w hS=>?_
  refine zX (n:=((kZ k aI).take i).length) (xs:=(kZ k aI).take i) (y:=⟨aI,k.table,r.key,false,r.val⟩) (enc:=oO) hS Xr Xh BV (λx=>D0 x) rfl (by omega) (by omega) λv2 w hS=>?_
  have hS:=hS.o9 (x:=(⟨aI,k.table,r.key,false,r.val⟩:pU))
  rw[<- kK]at hS
  have o1:v2.oneCell'=true:=bI.one hS
  refine Gn λw hS=>?_
  exact⟨⟨i+1,v2,rfl,by omega,aR hS⟩,by dsimp only;omega⟩
 ·have he:(kZ k aI).take i=kZ k aI:=List.take_of_length_le (by omega)
  rw[he]at hS
  have o1:ov.oneCell'=true:=bI.one hS
  refine Gp ?_
  refine Qn hS Xu rfl (by simp) (by simp[Value.oneCell']) λw hS=>?_
  simp only[List.take,List.drop,List.cons_append,List.nil_append]at hS
  refine Gn λw hS=>?_
  refine zB (vs:=[.int .i64 aI,ov,.slice (some ⟨nb,0,none⟩) 1 1]) hS Xu rfl rfl (y' o1 rfl) λw hS=>?_
  refine Gp ?_
  obtain⟨H1,fF,l9,hS⟩:=zu (H:=H) (v:=ov) hS Xp
  obtain⟨H2,f',l_,hS⟩:=SL.Fs (sz:=7) (H:=H1) (b:=nb) hS Xp rfl
  have hS:=jC.nil hS
  have hS:=iE.put (wp:=wp) (m9 k.n) (.slice none 0 0) hS Xp
  refine⟨[.ob (iE wp (m9 k.n)),.mem H2],?_,aR hS⟩
  unfold w4;rw[e]
  exact⟨⟨aI,ov,.slice (some ⟨nb,0,none⟩) 1 1⟩,H2,bw.le_trans fF f',rfl,⟨rfl,l9.mono f',l_⟩,rfl⟩
end Go.Proofs.YtfenmffiidchcaaGreat
