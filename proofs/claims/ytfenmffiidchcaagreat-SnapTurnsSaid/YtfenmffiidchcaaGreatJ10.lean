/-
  Texts of the proof, joined: SnpM, WinS, WinS2.
-/
import Derived.Test.YtfenmffiidchcaaGreatJ9
import Derived.Test.YtfenmffiidchcaaGreatQVcW
namespace Go.Proofs.YtfenmffiidchcaaGreat
set_option linter.unusedVariables false
open Go.RowKit
theorem Gh:∀(n:Nat) (l:List Int),l.Nodup->(∀x∈l,1<=x/\x<=(n:Int))->l.length<=n
 | 0,l,_,h=>by
  cases l with
  | nil=>exact Nat.le_refl _
  | cons x l=>have:=h x (.head _);omega
 | n+1,l,hd,h=>by
  by_cases hm:((n+1:Nat):Int)∈l
  ·have h1:=Gh n (l.erase ((n+1:Nat):Int)) (hd.erase _) λx hx=>by
    have h2:=hd.mem_erase_iff.1 hx
    have:=h x h2.2
    have:=h2.1
    omega
   rw[List.length_erase_of_mem hm]at h1
   omega
  ·have:=Gh n l hd λx hx=>by
    have:=h x hx
    have:x≠((n+1:Nat):Int):=λe=>hm (e▸hx)
    omega
   omega
theorem dt.Ok.len{d:dt}(h:d.Ok):d.l.length<=64:=by
 have:=Gh 64 (d.l.map Prod.fst) h.nd λx hx=>by
  obtain⟨m,hm,rfl⟩:=List.mem_map.1 hx
  have:=h.w m hm
  omega
 rw[List.length_map]at this;exact this
theorem D7:gu.Ok:=⟨by decide,by decide,by decide,by decide,λ_=>rfl,by simp,by simp⟩
theorem dt.Ok.add{d:dt}(h:d.Ok)(id w:Int):(d.add id w).Ok:=by
 unfold dt.add
 split
 ·exact h
 ·rename_i hr
  split
  ·exact h
  ·rename_i hf
   have h1:=h.vp
   refine⟨h.jB,by show d.at_<((d.l++[(id,w)]).length:Nat);rw[List.length_append];simp;omega,h.uQ,h.Cm,h.neg,λm hm=>?_,?_⟩
   ·rcases List.mem_append.1 hm with hm|hm
    ·exact h.w m hm
    ·rw[List.mem_singleton.1 hm];simp only;omega
   ·show ((d.l++[(id,w)]).map Prod.fst).Nodup
    rw[List.map_append,List.nodup_append]
    refine⟨h.nd,by simp,λa ha b hb=>?_⟩
    obtain⟨m,hm,rfl⟩:=List.mem_map.1 ha
    have hb:b=id:=by simpa using hb
    subst hb
    have:=List.findIdx?_eq_none_iff.1 hf m hm
    simpa using this
theorem dt.Ok.del{d:dt}(h:d.Ok)(id:Int):(d.del id).Ok:=by
 unfold dt.del
 split
 ·exact h
 ·rename_i i hf
  have hi:i<d.l.length:=(List.findIdx?_eq_some_iff_getElem.1 hf).1
  have h0:=h.jB
  have h1:=h.vp
  have hl:(d.l.eraseIdx i).length=d.l.length-1:=by rw[List.length_eraseIdx,if_pos hi]
  refine⟨?_,?_,?_,?_,λhn=>?_,λm hm=>h.w m (List.mem_of_mem_eraseIdx hm),?_⟩
  ·simp only;split<;>omega
  ·simp only[hl];split<;>omega
  ·simp only;split
   ·exact Int.le_refl _
   ·exact h.uQ
  ·simp only;split
   ·decide
   ·exact h.Cm
  ·simp only at hn ⊢
   split
   ·rfl
   ·split at hn
    ·omega
    ·exact h.neg hn
  ·simp only
   exact h.nd.sublist ((List.eraseIdx_sublist _ _).map _)
theorem dt.Ok.pl{d:dt}(h:d.Ok)(dV:d.l≠[]):0<=d.place/\d.place<d.l.length/\d.j_∈d.l:=by
 have fo:0<=d.place/\d.place<d.l.length:=by
  have:=h.neg
  have:=h.jB
  have:=h.vp
  have:0<d.l.length:=List.length_pos_iff.2 dV
  unfold dt.place
  split
  ·split<;>omega
  ·omega
 refine⟨fo.1,fo.2,?_⟩
 unfold dt.j_
 rw[List.getElem?_eq_getElem (show d.place.toNat<d.l.length by omega)]
 exact List.getElem_mem _
theorem dt.Ok.next{d:dt}(h:d.Ok):d.next.1.Ok:=by
 unfold dt.next
 split
 ·exact h
 ·rename_i dV
  obtain⟨h1,h2,h3⟩:=h.pl dV
  have hw:=h.w _ h3
  have x8:=h.uQ
  have oy:=h.Cm
  refine⟨by simp only;omega,by simp only;omega,?_,?_,λhn=>?_,h.w,h.nd⟩
  ·simp only;split<;>omega
  ·simp only;split<;>omega
  ·simp only at hn;omega
theorem Rl{d:dt}(h:d.Ok)(dV:d.l≠[]):d.next.2=d.j_.1/\d.j_∈d.l:=by
 unfold dt.next
 rw[if_neg dV]
 exact⟨rfl,(h.pl dV).2.2⟩
theorem Gg(d:dt):d.next.1.l=d.l:=by
 unfold dt.next
 split<;>rfl
theorem MO:∀(L:List Rq) {d:dt},d.Ok->(L.foldl (λd r=>d.del r.id) d).Ok
 | [],_,h=>h
 | r::L,_,h=>MO L (h.del r.id)
theorem LN:∀(L:List Rq) {d:dt},d.Ok->(L.foldl (λd r=>d.add r.id r.weight) d).Ok
 | [],_,h=>h
 | r::L,_,h=>LN L (h.add r.id r.weight)
theorem R6{d:dt}(h:d.Ok)(L:List Rq):(fY d L).Ok:=LN _ (MO _ h)
theorem D3(d:dt)(id:Int):∀m∈(d.del id).l,m∈d.l:=λm hm=>by
 unfold dt.del at hm
 split at hm
 ·exact hm
 ·exact List.mem_of_mem_eraseIdx hm
theorem xd:∀(L:List Rq) (d:dt),∀m∈(L.foldl (λd r=>d.del r.id) d).l,m∈d.l
 | [],_,m,h=>h
 | r::L,d,m,h=>D3 d r.id m (xd L (d.del r.id) m h)
theorem TF(d:dt)(id w:Int):∀m∈(d.add id w).l,m∈d.l\/m=(id,w):=λm hm=>by
 unfold dt.add at hm
 split at hm
 ·exact .inl hm
 ·split at hm
  ·exact .inl hm
  ·rcases List.mem_append.1 hm with hm|hm
   ·exact .inl hm
   ·exact .inr (List.mem_singleton.1 hm)
theorem TG(d:dt)(id w:Int):∀m∈d.l,m∈(d.add id w).l:=λm hm=>by
 unfold dt.add
 split
 ·exact hm
 ·split
  ·exact hm
  ·exact List.mem_append_left _ hm
theorem Dy:∀(L:List Rq) (d:dt),∀m∈(L.foldl (λd r=>d.add r.id r.weight) d).l,m∈d.l\/∃r∈L,m=(r.id,r.weight)
 | [],_,m,h=>.inl h
 | r::L,d,m,h=>by
  rcases Dy L (d.add r.id r.weight) m h with h|⟨x,hx,e⟩
  ·rcases TF d r.id r.weight m h with h|h
   ·exact .inl h
   ·exact .inr ⟨r,.head _,h⟩
  ·exact .inr ⟨x,.tail _ hx,e⟩
theorem LO:∀(L:List Rq) (d:dt),∀m∈d.l,m∈(L.foldl (λd r=>d.add r.id r.weight) d).l
 | [],_,m,h=>h
 | r::L,d,m,h=>LO L (d.add r.id r.weight) m (TG d r.id r.weight m h)
theorem aR2(d:dt)(L:List Rq):∀m∈(fY d L).l,m∈d.l\/∃r∈gQ L,m=(r.id,r.weight):=λm hm=>by
 rcases Dy _ _ m hm with h|h
 ·exact .inl (xd _ _ m h)
 ·exact .inr h
theorem TE(d:dt){id w:Int}(h1:1<=id/\id<=64)(h2:1<=w/\w<=8):∃m∈(d.add id w).l,m.1=id:=by
 unfold dt.add
 rw[if_neg (by omega)]
 cases hf:nH d id with
 | some i=>
  obtain⟨hi,hk,_⟩:=List.findIdx?_eq_some_iff_getElem.1 hf
  exact⟨_,List.getElem_mem hi,of_decide_eq_true hk⟩
 | none=>exact⟨(id,w),by simp,rfl⟩
theorem gn.at{L:List Rq}(h:gn L){r:Rq}(hr:r∈L):1<=r.id/\r.id<=L.length/\r.id<=64/\1<=r.weight/\r.weight<=8/\0<=r.table/\r.table<8/\0<=r.dL/\r.dL<=1099511627776:=by
 obtain⟨i,hi,rfl⟩:=List.getElem_of_mem hr
 obtain⟨⟨h1,h2,h3,h4,h5,h6,h7,h8,h9,oe,xu⟩,_⟩:=h.2 i hi
 have:=h.1
 exact⟨by omega,by omega,by omega,h4,h5,h2,h3,h8,h9⟩
theorem R5{d:dt}{L:List Rq}(hL:gn L)(h:gQ L≠[]):(fY d L).l≠[]:=by
 unfold fY
 generalize (L.filter (·.done)).foldl (λd r=>d.del r.id) d=d1
 have kF:∀r∈gQ L,r∈L:=λr hr=>(List.mem_filter.1 hr).1
 generalize gQ L=O at *
 match O,h with
 | r::O,_=>
  have ha:=hL.at (kF r (.head _))
  obtain⟨m,hm,_⟩:=TE d1 (id:=r.id) (w:=r.weight) (by omega) (by omega)
  have:=LO O (d1.add r.id r.weight) m hm
  intro e
  rw[List.foldl_cons]at e
  rw[e]at this
  cases this
structure dA.Good(p:dA)(N:Nat):Prop where
 reqs:gn p.m.reqs
 t1:1<=p.m.tables/\p.m.tables<=8
 jB:0<=p.m.at_/\p.m.at_<=1099511627776
 wn:p.m.b8.n<=64
 rows:p.m.b8.rows.length<=64
 wid:0<=p.m.b8.id/\p.m.b8.id<=64
 d:p.d.Ok
 ids:∀m∈p.d.l,m.1<=p.m.reqs.length
 n:1<=p.n/\p.n<=64
 src:jz p.k N
theorem dA.Good.row{p:dA}{N:Nat}(h:p.Good N):(fY p.d p.m.reqs).Ok/\∀m∈(fY p.d p.m.reqs).l,m.1<=p.m.reqs.length:=by
 refine⟨R6 h.d _,λm hm=>?_⟩
 rcases aR2 _ _ m hm with hm|⟨r,hr,rfl⟩
 ·exact h.ids m hm
 ·exact (h.reqs.at (List.mem_filter.1 hr).1).2.1
theorem dA.Good.ke{p:dA}{N:Nat}(h:p.Good N)(ho:gQ p.m.reqs≠[]):∃r,tz p.m.reqs (fY p.d p.m.reqs).next.2=some r/\r∈p.m.reqs/\r.id=(fY p.d p.m.reqs).next.2:=by
 obtain⟨h1,h2⟩:=h.row
 have dV:=R5 (d:=p.d) h.reqs ho
 obtain⟨e,hm⟩:=Rl h1 dV
 have ha:=h1.w _ hm
 have hb:=h2 _ hm
 rw[e]
 generalize (fY p.d p.m.reqs).j_.1=id at *
 have dZ:(id-1).toNat<p.m.reqs.length:=by omega
 refine⟨p.m.reqs[(id-1).toNat],?_,List.getElem_mem _,?_⟩
 ·unfold tz
  rw[if_neg (by omega),List.getElem?_eq_getElem dZ]
 ·have:=(h.reqs.2 _ dZ).1.1
  omega
theorem jz.mark{k:du}{N:Nat}(h:jz k N)(kind mark:Int):jz (k.jx kind mark).1 (N+2000):=by
 unfold du.jx
 split
 ·rename_i hc;exact h.add hc.2
 ·exact h.mono (by omega)
theorem aFh(w:dQ)(mark id table after:Int):(w.l9 mark id table after).n=w.n/\(w.l9 mark id table after).rows.length<=w.rows.length/\(w.l9 mark id table after=w\/((w.l9 mark id table after).id=id/\1<=id/\id<=64)):=by
 unfold dQ.l9
 split
 ·exact⟨rfl,Nat.le_refl _,.inl rfl⟩
 ·rename_i hb
  unfold dQ.tg at hb
  exact⟨rfl,Nat.zero_le _,.inr ⟨rfl,by omega,by omega⟩⟩
theorem dA.Good.step{p:dA}{N:Nat}(h:p.Good N):(p.step.1).Good (N+2000):=by
 have hs:∀kind mark,jz (p.k.jx kind mark).1 (N+2000):=λa b=>h.src.mark a b
 have h0:p.Good (N+2000):=⟨h.reqs,h.t1,h.jB,h.wn,h.rows,h.wid,h.d,h.ids,h.n,h.src.mono (by omega)⟩
 obtain⟨Ae,B5⟩:=h.row
 unfold dA.step
 split
 ·exact h0
 ·split
  ·unfold dA.uS dA.rh
   have EU:(fY p.d p.m.reqs).next.1.Ok:=Ae.next
   have rU:∀m∈(fY p.d p.m.reqs).next.1.l,m.1<=p.m.reqs.length:=by rw[Gg];exact B5
   split
   ·exact⟨h.reqs,h.t1,h.jB,h.wn,h.rows,h.wid,EU,rU,h.n,h.src.mono (by omega)⟩
   ·rename_i r _
    unfold dA.tc
    simp only
    split
    ·exact⟨h.reqs,h.t1,h.jB,h.wn,h.rows,h.wid,EU,rU,h.n,hs _ _⟩
    ·obtain⟨a,b,c⟩:=aFh p.m.b8 (b9 p.k.g.bI+1) r.id r.table r.dL
     have Ap:=h.wn
     have Xm:=h.rows
     have FO:=h.wid
     refine⟨h.reqs,h.t1,h.jB,by show (p.m.b8.l9 _ _ _ _).n<=64;rw[a];exact Ap,Nat.le_trans b Xm,?_,EU,rU,h.n,hs _ _⟩
     show 0<=(p.m.b8.l9 _ _ _ _).id/\(p.m.b8.l9 _ _ _ _).id<=64
     rcases c with c|c
     ·rw[c];exact FO
     ·rw[c.1];omega
  ·split
   ·refine⟨h.reqs,h.t1,h.jB,?_,?_,?_,h.d,h.ids,h.n,h.src.mono (by omega)⟩
    ·show (p.m.b8.fill _).n<=64
     unfold dQ.fill;split<;>exact h.wn
    ·show (p.m.b8.fill _).rows.length<=64
     unfold dQ.fill
     split
     ·exact h.rows
     ·rename_i hb
      have:=h.wn
      unfold dQ.sQ at hb
      simp only at hb ⊢
      omega
    ·show 0<=(p.m.b8.fill _).id/\(p.m.b8.fill _).id<=64
     unfold dQ.fill;split<;>exact h.wid
   ·unfold dA.ux
    simp only
    split
    ·exact⟨h.reqs,h.t1,h.jB,h.wn,h.rows,h.wid,h.d,h.ids,h.n,hs _ _⟩
    ·have e:p.m.b8.shut.n=p.m.b8.n/\p.m.b8.shut.rows=p.m.b8.rows/\p.m.b8.shut.id=p.m.b8.id:=by unfold dQ.shut;split<;>exact⟨rfl,rfl,rfl⟩
     exact⟨h.reqs,h.t1,h.jB,by show p.m.b8.shut.n<=64;rw[e.1];exact h.wn,by show p.m.b8.shut.rows.length<=64;rw[e.2.1];exact h.rows,by show 0<=p.m.b8.shut.id/\p.m.b8.shut.id<=64;rw[e.2.2];exact h.wid,h.d,h.ids,h.n,hs _ _⟩
theorem TC{L L':List Rq}{t w a:Int}(h:nZ L t w a=some L'):L'.length=L.length+1:=by
 unfold nZ at h
 split at h
 ·cases h;simp
 ·cases h
theorem Ux{L L':List Rq}{id c:Int}{dn:Bool}(h:ml L id c dn=some L'):L'.length=L.length:=by
 unfold ml at h
 split at h
 ·split at h
  ·split at h
   ·cases h
   ·cases h;exact List.length_set
  ·cases h
 ·cases h
theorem TD(m:dD)(s:ByteArray)(aI:Int):m.reqs.length<=(m.accept s aI).1.length/\(gn m.reqs->gn (m.accept s aI).1):=by
 unfold dD.accept
 split
 ·exact⟨Nat.le_refl _,id⟩
 ·split
  ·exact⟨Nat.le_refl _,id⟩
  ·split
   ·exact⟨Nat.le_refl _,id⟩
   ·rename_i L hL
    exact⟨by have:=TC hL;simp only;omega,λ_=>LI hL⟩
theorem Dt(aI:Int):∀(l:List ByteArray) (m:dD),m.reqs.length<=(m.fJ aI l).1.reqs.length/\(gn m.reqs->gn (m.fJ aI l).1.reqs)/\(m.fJ aI l).1.b8=m.b8/\(m.fJ aI l).1.tables=m.tables/\(m.fJ aI l).1.late=m.late/\(m.fJ aI l).1.at_=m.at_
 | [],m=>⟨Nat.le_refl _,id,rfl,rfl,rfl,rfl⟩
 | s::l,m=>by
  obtain⟨a,b⟩:=TD m s aI
  obtain⟨c,d,e⟩:=Dt aI l {m with reqs:=(m.accept s aI).1}
  exact⟨Nat.le_trans a c,λh=>d (b h),e⟩
theorem a_o{m:dD}{t:cW}(h:gn m.reqs)(hr:m.b8.rows.length<=64)(hn:m.b8.n<=64)(hi:0<=m.b8.id/\m.b8.id<=64)(ha:0<=m.at_/\m.at_<=1099511627776):
  m.reqs.length<=(m.take t).1.reqs.length/\gn (m.take t).1.reqs/\(m.take t).1.tables=m.tables/\(0<=(m.take t).1.at_/\(m.take t).1.at_<=1099511627776)/\(m.take t).1.b8.n<=64/\(m.take t).1.b8.rows.length<=64/\0<=(m.take t).1.b8.id/\(m.take t).1.b8.id<=64:=by
 have vX:m.reqs.length<=m.reqs.length/\gn m.reqs/\m.tables=m.tables/\(0<=m.at_/\m.at_<=1099511627776)/\m.b8.n<=64/\m.b8.rows.length<=64/\0<=m.b8.id/\m.b8.id<=64:=⟨Nat.le_refl _,h,rfl,ha,hn,hr,hi⟩
 unfold dD.take
 split
 ·exact vX
 ·rename_i hm
  obtain⟨m1,_⟩:=kJ (show eH t=true by cases hq:eH t with
   | true=>rfl
   | false=>exact absurd hq hm)
  split
  ·exact vX
  ·split
   ·unfold dD.sM
    simp only
    obtain⟨a,b,c,d,_,f⟩:=Dt t.aI t.signals {m with at_:=t.aI}
    generalize ({m with at_:=t.aI}:dD).fJ t.aI t.signals=y at *
    refine⟨a,b h,d,by rw[f];exact⟨by show 0<=t.aI;omega,by show t.aI<=_;omega⟩,?_⟩
    rw[c]
    unfold dQ.sn
    simp only
    split
    ·exact⟨hn,Nat.le_trans (List.length_filter_le _ _) hr,hi⟩
    ·exact⟨hn,hr,hi⟩
   ·split
    ·unfold dD.high
     simp only
     have BY:∀w o,m.b8.high t.mark t.aI=(w,o)->w.n<=64/\w.rows.length<=64/\0<=w.id/\w.id<=64:=λw o e=>by
      unfold dQ.high at e
      split at e
      ·cases e;exact⟨hn,hr,hi⟩
      ·cases e;exact⟨hn,Nat.zero_le _,Int.le_refl _,show (0:Int)<=64 by decide⟩
     split
     ·exact⟨Nat.le_refl _,h,rfl,⟨by show 0<=t.aI;omega,by show t.aI<=_;omega⟩,hn,hr,hi⟩
     ·rename_i w x e
      have hw:=BY _ _ e
      split
      ·exact⟨Nat.le_refl _,h,rfl,⟨by show 0<=t.aI;omega,by show t.aI<=_;omega⟩,hw⟩
      ·rename_i L hL
       exact⟨by have:=Ux hL;simp only at this ⊢;omega,Uy hL,rfl,⟨by show 0<=t.aI;omega,by show t.aI<=_;omega⟩,hw⟩
    ·refine⟨Nat.le_refl _,h,rfl,⟨by show 0<=t.aI;omega,by show t.aI<=_;omega⟩,?_⟩
     show (m.b8.low t.mark).n<=64/\(m.b8.low t.mark).rows.length<=64/\0<=(m.b8.low t.mark).id/\(m.b8.low t.mark).id<=64
     unfold dQ.low
     split<;>exact⟨hn,hr,hi⟩
theorem dA.Good.take{p:dA}{N:Nat}(h:p.Good N)(t:cW):({p with m:=(p.m.take t).1}:dA).Good N:=by
 obtain⟨a,b,c,d,e,f,g,i⟩:=a_o (t:=t) h.reqs h.rows h.wn h.wid h.jB
 exact⟨b,by show 1<=(p.m.take t).1.tables/\(p.m.take t).1.tables<=8;rw[c];exact h.t1,d,e,f,⟨g,i⟩,h.d,λm hm=>by have:=h.ids m hm;show m.1<=((p.m.take t).1.reqs.length:Int);omega,h.n,h.src⟩
theorem dA.Good.oU{p:dA}{N:Nat}(h:p.Good N)(sg:List ByteArray)(l:List dW):({p with k:=(p.k.jE sg l).1}:dA).Good (N+2000):=
 ⟨h.reqs,h.t1,h.jB,h.wn,h.rows,h.wid,h.d,h.ids,h.n,h.src.oU sg l⟩
set_option maxRecDepth 100000
theorem aFu{after:Int}{C:List Row}{j:Nat}(h:j+1=C.length)(hj:j<C.length):ji after C=C[j].key:=by
 unfold ji
 rw[List.getLast?_eq_getElem?,show C.length-1=j by omega,List.getElem?_eq_getElem hj];rfl
theorem Q1(H:aW)(v:Value)(C:List Row)(after n:Int)(hv:dy H 2 v C.length (C.map dX).flatten)(hn:C.length<=1000000):
  SP 206 [.int .i64 after,.int .i64 n,v] [.mem H] (dj (.tuple #[.int .i64 (ji after C),.bool (decide ((C.length:Int)<n))]) [.mem H]):=by
 intro W F w hS;apply bIt;delta Ji aF a_ ai;(try simp only[app]at hS)
 refine zm hv ?_
 refine bR (λh=>?_) (λh=>?_)
 ·obtain⟨j,hj⟩:∃j:Nat,j+1=C.length:=⟨C.length-1,by omega⟩
  have fG:j<C.length:=by omega
  rw[aFu (after:=after) hj fG]
  refine zm hv ?_
  refine Gp ?_
  rw[show (C.length:Int)-1=(j:Int) by omega]
  refine zJ hS Xh fQ hv (x:=C[j]) (List.getElem?_eq_getElem fG) fG (i:=0) rfl ?_
  refine zm hv ?_
  refine Gp ?_
  (exact dq hS)
 ·have he:C=[]:=List.eq_nil_of_length_eq_zero (by omega)
  rw[show ji after C=after by rw[he];rfl]
  refine zm hv ?_
  refine Gp ?_
  (exact dq hS)
abbrev lQ(w:dQ)(rv:Value):List Value:=[.int .i64 w.mark,.int .i64 w.after,.int .i64 w.id,.int .i64 w.table,rv,.int .i64 w.dL,.bool w.last,.int .i64 w.n,.int .i64 w.state]
def eg(wp:Nat)(k:dQ):zC:=jQ λrv:Value=>zP True [.pt wp (lQ k rv) 209,fO rv k.rows]
theorem eg.iff{W w:World}{l:List Chunk}{wp:Nat}{k:dQ}:SL W (.ob (eg wp k)::l) w↔∃rv,SL W (.pt wp (lQ k rv) 209::fO rv k.rows::l) w:=by
 unfold eg
 simp only[SL.ex,SL.fact,true_and,List.cons_append,List.nil_append]
theorem eg.put{W w:World}{l F:List Chunk}{wp:Nat}(k:dQ)(rv:Value)(hS:SL W l w)(p:gq [.pt wp (lQ k rv) 209,fO rv k.rows] l F):SL W (.ob (eg wp k)::F) w:=eg.iff.2 ⟨rv,hS.pick p⟩
theorem fO.nil{W w:World}{l:List Chunk}(h:SL W l w):SL W (fO (.slice none 0 0) []::l) w:=a7.nil h
theorem b67(n:Int):SP 194 [.int .i64 n] [] (λv post=>(¬(1<=n/\n<=64)/\v= .tuple #[.pointer none,.int .i64 1]/\post=[])\/((1<=n/\n<=64)/\∃wp:Nat,v= .tuple #[dg wp,.int .i64 0]/\post=[.ob (eg wp (gl n))])):=by
 intro W F w hS;apply bIh;delta I8 aF ai dk bF;(try simp only[app]at hS)
 refine Gp ?_
 refine za (λh=>⟨_,.inl ⟨by omega,rfl,rfl⟩,hS⟩) (λh1=>?_)
 refine Gp ?_
 refine za (λh=>⟨_,.inl ⟨by omega,rfl,rfl⟩,hS⟩) (λh2=>?_)
 refine Gp ?_
 refine⟨_,rfl,zI hS λwp w hS=>?_⟩
 have hS:=fO.nil hS
 exact⟨_,.inr ⟨by omega,wp,rfl,rfl⟩,SL.b6 (eg.put (wp:=wp) (gl n) (.slice none 0 0) hS Xp) Xi⟩
section
variable (wp:Nat) (k:dQ)
theorem ZL:SP 117 [dg wp] [.ob (eg wp k)] (dj (.int .i64 k.state) [.ob (eg wp k)]):=by
 intro W F w hS;apply bwt;delta HW bw;(try simp only[app]at hS)
 obtain⟨rv,hS⟩:=eg.iff.1 hS
 unfold lQ at hS
 refine Gp ?_
 exact⟨_,⟨rfl,rfl⟩,SL.b6 (eg.put k rv hS Xp) Xi⟩
theorem Qr:SP 131 [dg wp] [.ob (eg wp k)] (dj (.int .i64 k.mark) [.ob (eg wp k)]):=by
 intro W F w hS;apply bw4;delta Ig a_ df;(try simp only[app]at hS)
 obtain⟨rv,hS⟩:=eg.iff.1 hS
 unfold lQ at hS
 refine Gp ?_
 exact⟨_,⟨rfl,rfl⟩,SL.b6 (eg.put k rv hS Xp) Xi⟩
theorem ZM:SP 48 [dg wp] [.ob (eg wp k)] (dj (.int .i64 k.table) [.ob (eg wp k)]):=by
 intro W F w hS;apply b5w;delta K2 a_ df;(try simp only[app]at hS)
 obtain⟨rv,hS⟩:=eg.iff.1 hS
 unfold lQ at hS
 refine Gp ?_
 exact⟨_,⟨rfl,rfl⟩,SL.b6 (eg.put k rv hS Xp) Xi⟩
theorem qw:SP 124 [dg wp] [.ob (eg wp k)] (dj (.int .i64 k.after) [.ob (eg wp k)]):=by
 intro W F w hS;apply bw1;delta Ic a_ df;(try simp only[app]at hS)
 obtain⟨rv,hS⟩:=eg.iff.1 hS
 unfold lQ at hS
 refine Gp ?_
 exact⟨_,⟨rfl,rfl⟩,SL.b6 (eg.put k rv hS Xp) Xi⟩
theorem Qs(mark id table after:Int):SP 205 [dg wp,.int .i64 mark,.int .i64 id,.int .i64 table,.int .i64 after] [.ob (eg wp k)] (λv post=>(∃q,v= .bool q)/\post=[.ob (eg wp (k.l9 mark id table after))]):=by
 intro W F w hS;apply bIs;delta Jh aF bw dx df b7 ai bF;(try simp only[app]at hS)
 obtain⟨rv,hS⟩:=eg.iff.1 hS
 unfold lQ at hS
 have dK:∀{w:World},k.tg mark id table after->SL W (.pt wp [.int .i64 k.mark,.int .i64 k.after,.int .i64 k.id,.int .i64 k.table,rv,.int .i64 k.dL,.bool k.last,.int .i64 k.n,.int .i64 k.state] 209::fO rv k.rows::F) w->∃post,((∃q,Value.bool false= .bool q)/\post=[.ob (eg wp (k.l9 mark id table after))])/\SL W (app post F) w:=λh hS=>by
  rw[show k.l9 mark id table after=k from if_pos h]
  exact⟨_,⟨⟨_,rfl⟩,rfl⟩,SL.b6 (eg.put k rv hS Xp) Xi⟩
 refine Gp ?_
 refine za (λh=>dK (.inl h) hS) (λh0=>?_)
 refine Gp ?_
 refine za (λh=>dK (.inr (by omega)) hS) (λh1=>?_)
 refine Gp ?_
 refine za (λh=>dK (.inr (by omega)) hS) (λh2=>?_)
 refine Gp ?_
 refine za (λh=>dK (.inr (by omega)) hS) (λh3=>?_)
 refine Gp ?_
 refine za (λh=>dK (.inr (by omega)) hS) (λh4=>?_)
 refine Gp ?_
 refine za (λh=>dK (.inr (by omega)) hS) (λh5=>?_)
 refine Gp ?_
 refine za (λh=>dK (.inr (by omega)) hS) (λh6=>?_)
 refine Gp ?_
 refine za (λh=>dK (.inr (by omega)) hS) (λh7=>?_)
 refine Gp ?_
 refine za (λh=>dK (.inr (by omega)) hS) (λh8=>?_)
 clear dK
 have b5:¬k.tg mark id table after:=by unfold dQ.tg;omega
 rw[show k.l9 mark id table after=⟨k.n,1,mark,after,id,table,[],0,false⟩ from if_neg b5]
 refine Gp ?_
 refine QB hS Xu rfl (by simp) (by simp[Value.oneCell']) λw hS=>?_
 simp only[List.take,List.drop,List.cons_append,List.nil_append]at hS
 refine Gn λw hS=>?_
 have hS:=fO.nil hS
 exact⟨_,⟨⟨_,rfl⟩,rfl⟩,SL.b6 (eg.put (wp:=wp) ⟨k.n,1,mark,after,id,table,[],0,false⟩ (.slice none 0 0) hS Xp) Xi⟩
theorem Qt:SP 207 [dg wp] [.ob (eg wp k)] (λv post=>(∃q,v= .bool q)/\post=[.ob (eg wp k.shut)]):=by
 intro W F w hS;apply bIu;delta Jj aF bw dx b7 ai;(try simp only[app]at hS)
 obtain⟨rv,hS⟩:=eg.iff.1 hS
 unfold lQ at hS
 unfold dQ.shut
 refine bR (λh=>?_) (λh=>?_)
 ·rw[if_neg h]
  exact⟨_,⟨⟨_,rfl⟩,rfl⟩,SL.b6 (eg.put k rv hS Xp) Xi⟩
 ·rw[if_pos (by omega)]
  refine Gn λw hS=>?_
  exact⟨_,⟨⟨_,rfl⟩,rfl⟩,SL.b6 (eg.put {k with state:=3} rv hS Xp) Xi⟩
theorem b66(mark:Int):SP 121 [dg wp,.int .i64 mark] [.ob (eg wp k)] (λv post=>(∃q,v= .bool q)/\post=[.ob (eg wp (k.low mark))]):=by
 intro W F w hS;apply bwy;delta H_ aF bw a_ dx df b7 ai;(try simp only[app]at hS)
 obtain⟨rv,hS⟩:=eg.iff.1 hS
 unfold lQ at hS
 unfold dQ.low
 refine bR (λh=>?_) (λh=>?_)
 ·rw[if_neg (by omega)]
  exact⟨_,⟨⟨_,rfl⟩,rfl⟩,SL.b6 (eg.put k rv hS Xp) Xi⟩
 ·refine bR (λh2=>?_) (λh2=>?_)
  ·rw[if_neg (by omega)]
   exact⟨_,⟨⟨_,rfl⟩,rfl⟩,SL.b6 (eg.put k rv hS Xp) Xi⟩
  ·rw[if_pos (by omega)]
   refine Gn λw hS=>?_
   exact⟨_,⟨⟨_,rfl⟩,rfl⟩,SL.b6 (eg.put {k with state:=4} rv hS Xp) Xi⟩
theorem qx(x:jq):SP 135 [dg wp,agg (eI x)] [.ob (eg wp k)] (dj (.bool (k.waits x.kind x.mark)) [.ob (eg wp k)]):=by
 intro W F w hS;apply bw5;delta Ih aF bw a_ df b7 ai;(try simp only[app]at hS)
 obtain⟨rv,hS⟩:=eg.iff.1 hS
 unfold lQ at hS
 refine zK hS λxb w hS=>?_
 unfold eI at hS
 unfold dQ.waits
 refine Gn λw hS=>?_
 refine za (λh=>?_) (λh=>?_)
 ·refine bR (λh2=>?_) (λh2=>?_)
  ·refine bR (λh3=>?_) (λh3=>?_)
   ·rw[decide_eq_true (by omega)]
    exact⟨_,⟨rfl,rfl⟩,SL.b6 (eg.put k rv hS Xp) Xi⟩
   ·refine Gp ?_
    rw[show decide (x.kind=2/\x.mark=k.mark/\(k.state=1\/k.state=2))=decide (k.state=2) by rw[decide_eq_decide];omega]
    exact⟨_,⟨rfl,rfl⟩,SL.b6 (eg.put k rv hS Xp) Xi⟩
  ·rw[decide_eq_false (by omega)]
   exact⟨_,⟨rfl,rfl⟩,SL.b6 (eg.put k rv hS Xp) Xi⟩
 ·rw[decide_eq_false (by omega)]
  exact⟨_,⟨rfl,rfl⟩,SL.b6 (eg.put k rv hS Xp) Xi⟩
end
theorem GI:∀(A B:List Row) (k:Int),ll k (A++B)=(ll k A && ll (ji k A) B)
 | [],B,k=>by simp[ll,ji]
 | r::A,B,k=>by
  have e:ji k (r::A)=ji r.key A:=by
   unfold ji
   cases A with
   | nil=>rfl
   | cons y A=>rw[List.getLast?_cons_cons];rfl
  show (decide (k<r.key/\r.key<=1099511627776) && ll r.key (A++B))=((decide (k<r.key/\r.key<=1099511627776) && ll r.key A) && ll (ji k (r::A)) B)
  rw[GI A B r.key,e,Bool.and_assoc]
theorem aFw(a:Int)(A:List Row)(r:Row):ji a (A++[r])=r.key:=by
 unfold ji
 rw[List.getLast?_append];simp
theorem Qq(wp:Nat)(k:dQ)(H:aW)(v:Value)(C:List Row)(hv:dy H 2 v C.length (C.map dX).flatten)(hn:C.length<=1000000):
  SP 123 [dg wp,v] [.ob (eg wp k),.mem H] (λu post=>(∃q,u= .bool q)/\post=[.ob (eg wp (k.fill C)),.mem H]):=by
 intro W F w hS;apply bw0;delta Ib aF bw a_ dx df b7 ai c_;(try simp only[app]at hS)
 obtain⟨rv,hS⟩:=eg.iff.1 hS
 have dK:∀{w:World} {l:List Chunk},k.sQ C->SL W l w->je [.pt wp (lQ k rv) 209,fO rv k.rows,.mem H] l->True:=λ_ _ _=>trivial
 clear dK
 unfold lQ at hS
 have dK:∀{w:World},k.sQ C->SL W (.pt wp [.int .i64 k.mark,.int .i64 k.after,.int .i64 k.id,.int .i64 k.table,rv,.int .i64 k.dL,.bool k.last,.int .i64 k.n,.int .i64 k.state] 209::fO rv k.rows::.mem H::F) w->∃post,((∃q,Value.bool false= .bool q)/\post=[.ob (eg wp (k.fill C)),.mem H])/\SL W (app post F) w:=λh hS=>by
  rw[show k.fill C=k from if_pos h]
  exact⟨_,⟨⟨_,rfl⟩,rfl⟩,SL.b6 (eg.put k rv hS Xp) Xi⟩
 refine Gp ?_
 refine za (λh=>dK (.inl h) hS) (λh1=>?_)
 refine zm hv ?_
 refine Gp ?_
 refine za (λh=>dK (.inr (.inl (by omega))) hS) (λh2=>?_)
 refine Gp ?_
 refine zm hv ?_
 refine⟨λus w=>∃i:Nat,us=[.int .i64 (ji k.after (C.take i)),.int .i64 i]/\i<=C.length/\ll k.after (C.take i)=true/\SL W (.pt wp [.int .i64 k.mark,.int .i64 k.after,.int .i64 k.id,.int .i64 k.table,rv,.int .i64 k.dL,.bool k.last,.int .i64 k.n,.int .i64 k.state] 209::fO rv k.rows::.mem H::F) w,
  λus _=>match us with|[_,.int _ i]=>(C.length-i).toNat|_=>0,⟨0,rfl,by omega,rfl,hS⟩,?_⟩
 clear hS
 rintro v5 v29 w ⟨i,da,hi,hr,hS⟩
 cases da
 refine bR (λh=>?_) (λh=>?_)
 ·have bW:i<C.length:=by omega
  have hx:C[i]?=some C[i]:=List.getElem?_eq_getElem bW
  have gK:C.take (i+1)=C.take i++[C[i]]:=List.take_succ_eq_append_getElem bW
  have dY:ll k.after C=true->ll k.after (C.take (i+1))=true:=λh=>by
   rw[<- List.take_append_drop (i+1) C,GI,Bool.and_eq_true]at h;exact h.1
  have mX:ll k.after (C.take (i+1))=decide (ji k.after (C.take i)<C[i].key/\C[i].key<=1099511627776):=by
   rw[gK,GI,hr];unfold ll;simp[ll]
  refine zS hS Xh fQ hv hx bW ?_
  generalize C[i]=r at *
  refine Gb λxb w hS=>?_
  have jG:∀{w:World},¬(ji k.after (C.take i)<r.key/\r.key<=1099511627776)->SL W (.pt xb (dX r) 52::.pt wp [.int .i64 k.mark,.int .i64 k.after,.int .i64 k.id,.int .i64 k.table,rv,.int .i64 k.dL,.bool k.last,.int .i64 k.n,.int .i64 k.state] 209::fO rv k.rows::.mem H::F) w->∃post,((∃q,Value.bool false= .bool q)/\post=[.ob (eg wp (k.fill C)),.mem H])/\SL W (app post F) w:=λhb hS=>by
   refine dK (.inr (.inr ?_)) (aR hS)
   cases hq:ll k.after C with
   | false=>rfl
   | true=>rw[dY hq]at mX;exact absurd (of_decide_eq_true mX.symm) hb
  have Ov:=@jG
  clear dK jG
  refine za (λh=>Ov (by omega) hS) (λh3=>?_)
  refine Gp ?_
  refine za (λh=>Ov (by omega) hS) (λh4=>?_)
  refine Gp ?_
  refine⟨⟨i+1,?_,by omega,?_,aR hS⟩,by dsimp only;omega⟩
  ·rw[gK,aFw]
  ·rw[mX];exact decide_eq_true (by omega)
 ·have he:C.take i=C:=List.take_of_length_le (by omega)
  rw[he]at hr
  have b5:¬k.sQ C:=by
   rintro (h|h|h)
   ·exact h1 h
   ·omega
   ·rw[hr]at h;cases h
  rw[show k.fill C={k with state:=2,rows:=C,dL:=ji k.after C,last:=decide ((C.length:Int)<k.n)} from if_neg b5]
  clear dK
  refine Cc (Mq (λv0 w R h=>S6 v0 w R h) rfl (by decide) hv (m_ sO C) (by omega) (by omega)) ?_;clear hS
  rintro u post rfl w hS
  try simp only[app]at hS
  have hS:SL W (fO u C::_) w:=hS
  have o1:u.oneCell'=true:=a7.one hS
  refine Gn λw hS=>?_
  refine Cg (Q1 H v C k.after k.n hv hn) λw hS=>?_
  exact⟨_,⟨⟨_,rfl⟩,rfl⟩,SL.b6 (eg.put (wp:=wp) {k with state:=2,rows:=C,dL:=ji k.after C,last:=decide ((C.length:Int)<k.n)} u hS Xp) Xi⟩
theorem VA{D:List Row}{i:Nat}(hi:i<D.length)(x:Row)(rest:List Value):((D.map dX).flatten++rest).take (0+i*2)++dX x++((D.map dX).flatten++rest).drop (0+i*2+2)=((D.set i x).map dX).flatten++rest:=by
 have hl:((D.map dX).flatten).length=D.length*2:=jF fQ D
 rw[Nat.zero_add,List.take_append_of_le_length (by omega),List.drop_append_of_le_length (by omega),show i*2+2=(i+1)*2 by omega,od fQ,nA fQ,List.set_eq_take_append_cons_drop,if_pos hi]
 simp
theorem Yv(cb:Nat)(c:dW)(r:Row):SP 262 [agg (dX r),dg cb] [.pt cb (gi c) 82] (dj (.bool (decide (r.key=c.key))) [.pt cb (gi c) 82]):=by
 intro W F w hS;apply bR1;delta J2 a_;(try simp only[app]at hS)
 refine zK hS λxb w hS=>?_
 unfold dX at hS
 unfold gi at hS ⊢
 refine Gp ?_
 (exact dq hS)
theorem QJ(cb:Nat)(c:dW)(v:Value)(C:List Row)(hn:C.length<=1000000):
  SP 261 [v,.func (.func 262) #[] #[dg cb]] [.pt cb (gi c) 82,fO v C] (λu post=>post=[.pt cb (gi c) 82,fO u (C.filter λr=>!decide (r.key=c.key))]):=by
 intro W F w hS;apply bR0;delta J1 aF dc ai c_;(try simp only[app]at hS)
 have hC:=Pj (t:=52) fQ rfl (λv0 v1 w R h=>bW0 v0 v1 w R h) (λr=>Yv cb c r) v C (by omega)
 simp only[List.cons_append,List.nil_append]at hC
 refine Cg (hC) λw hS=>?_
 cases hf:C.findIdx? (λr=>decide (r.key=c.key)) with
 | none=>
  simp only[k9]
  refine za (λ_=>?_) (λh=>absurd trivial h)
  have e:C.filter (λr=>!decide (r.key=c.key))=C:=List.filter_eq_self.2 λr hr=>by
   have:=List.findIdx?_eq_none_iff.1 hf r hr
   rw[this];rfl
  rw[e]
  exact⟨_,rfl,aR hS⟩
 | some i0=>
  obtain⟨vP,B1,sZ⟩:=List.findIdx?_eq_some_iff_getElem.1 hf
  have pa:(C.take (i0+1)).filter (λr=>!decide (r.key=c.key))=C.take i0:=by
   rw[List.take_succ_eq_append_getElem vP,List.filter_append,List.filter_eq_self.2 λr hr=>by
    obtain⟨j,hj,rfl⟩:=List.getElem_of_mem hr
    rw[List.length_take]at hj
    rw[List.getElem_take]
    have:=sZ j (by omega)
    simpa using this]
   simp at B1
   simp[B1]
  simp only[k9]
  refine za (λh=>by omega) (λ_=>?_)
  rcases a7.open (SL.b6 hS (t:=fO v C::.pt cb (gi c) 82::F) Xi) with ⟨_,h0,_⟩|⟨b,cap,rest,rfl,sX,hlen,jW,hS⟩
  ·omega
  refine Gp ?_
  refine⟨λus w=>∃(i j:Nat) (D:List Row),us=[.int .i64 i,.int .i64 j]/\i<j/\j<=C.length/\D.length=C.length/\D.take i=(C.take j).filter (λr=>!decide (r.key=c.key))/\D.drop j=C.drop j/\SL W (.pt b ((D.map dX).flatten++rest) 52::.pt cb (gi c) 82::F) w,
   λus _=>match us with|[_,.int _ j]=>(C.length-j).toNat|_=>0,⟨i0,i0+1,C,rfl,by omega,by omega,rfl,pa.symm,rfl,aR hS⟩,?_⟩
  clear hS hf vP B1 sZ pa
  rintro v5 v6 w ⟨i,j,D,da,rW,hj,hD,ht,hd,hS⟩
  cases da
  refine bR (λh=>?_) (λh=>?_)
  ·have fG:j<C.length:=by omega
   have OG:j<D.length:=by omega
   have XI:D[j]=C[j]:=by
    have h1:(D.drop j)[0]?=(C.drop j)[0]?:=by rw[hd]
    rw[List.getElem?_drop,List.getElem?_drop,Nat.add_zero,List.getElem?_eq_getElem OG,List.getElem?_eq_getElem fG]at h1
    simpa using h1
   have gK:C.take (j+1)=C.take j++[C[j]]:=List.take_succ_eq_append_getElem fG
   have xK:D.drop (j+1)=C.drop (j+1):=by
    rw[<- List.drop_drop,<- List.drop_drop,hd]
   have ix:∀q u,(dX D[j])[q]?=some u->((D.map dX).flatten++rest)[0+j*2+q]?=some u:=λq u hu=>by
    rw[Nat.zero_add]
    have:=nz fQ D j q D[j] u (List.getElem?_eq_getElem OG) hu
    rw[List.getElem?_append_left (List.getElem?_eq_some_iff.1 this).1];exact this
   refine zB fG ?_
   refine Z8 hS Xh rfl ix ?_
   rw[XI]
   generalize C[j]=r at *
   refine Gb λxb w hS=>?_
   refine Qx (args':=[agg (dX r),dg cb]) rfl (Yv cb c r) rfl hS Xp ?_
   clear hS
   rintro _ post ⟨rfl,rfl⟩ w hS
   (try simp only[app]at hS);refine Gp ?_
   refine zA (λhq=>?_) (λhq=>?_)
   ·refine yy hS Xh rfl ?_
    refine zB (show i<C.length by omega) ?_
    refine QB hS Xu rfl ?_ (sO _) λw hS=>?_
    ·rw[List.length_append,jF fQ];omega
    rw[VA (by omega)]at hS
    refine Gp ?_
    refine⟨⟨i+1,j+1,D.set i r,rfl,by omega,by omega,by rw[List.length_set];exact hD,?_,?_,aR hS⟩,by dsimp only;omega⟩
    ·rw[gK,List.filter_append,<- ht]
     have:([r].filter λr=>!decide (r.key=c.key))=[r]:=by simp[hq]
     rw[this,List.take_succ_eq_append_getElem (by rw[List.length_set];omega),List.getElem_set_self,List.take_set_of_le (Nat.le_refl _)]
    ·rw[List.drop_set_of_lt (by omega)];exact xK
   ·refine Gp ?_
    refine⟨⟨i,j+1,D,rfl,by omega,by omega,hD,?_,xK,aR hS⟩,by dsimp only;omega⟩
    rw[gK,List.filter_append,<- ht]
    have:([r].filter λr=>!decide (r.key=c.key))=[]:=by simp[hq]
    rw[this,List.append_nil]
  ·have WR:j=C.length:=by omega
   subst WR
   rw[List.take_length]at ht
   rw[<- ht]
   have hl:((D.map dX).flatten).length=D.length*2:=jF fQ D
   refine⟨some ⟨b,0,none⟩,C.length,cap,i,C.length,cap,rfl,rfl,rfl,⟨_,rfl⟩,by omega,by omega,by omega,?_⟩
   rw[if_neg (show ¬cap=i by omega)]
   simp only[Option.map_some,Addr.add_lit,Nat.zero_add]
   have hA:((D.map dX).flatten.take (i*2)).length=i*2:=by rw[List.length_take,hl];omega
   have e2:((D.map dX).flatten++rest).take (i*2)++db [.int .i64 0,.string ⟨#[]⟩] (C.length-i)++((D.map dX).flatten++rest).drop (i*2+(db [.int .i64 0,.string ⟨#[]⟩] (C.length-i)).length)=(D.map dX).flatten.take (i*2)++(db [.int .i64 0,.string ⟨#[]⟩] (C.length-i)++rest):=by
    have:=Ms ((D.map dX).flatten.take (i*2)) ((D.map dX).flatten.drop (i*2)) (db [.int .i64 0,.string ⟨#[]⟩] (C.length-i)) rest (by rw[List.length_drop,hl,ku];show _=(C.length-i)*2;omega)
    rw[hA,<- List.append_assoc ((D.map dX).flatten.take (i*2)) ((D.map dX).flatten.drop (i*2)) rest,List.take_append_drop]at this
    exact this
   refine Qy (tt:=52) (z:=[.int .i64 0,.string ⟨#[]⟩]) (zv:=.agg #[.int .i64 0,.string ⟨#[]⟩]) (n:=C.length-i) (o:=i*2) (cs:=(D.map dX).flatten++rest) (l':=.pt b ((D.map dX).flatten.take (i*2)++(db [.int .i64 0,.string ⟨#[]⟩] (C.length-i)++rest)) 52::.pt cb (gi c) 82::F) hS ?_ Tryz.underlying53 (λw=>by kernel_rfl) rfl (by simp[Value.oneCell']) (by omega) (by rw[List.length_append,hl];show i*2+(C.length-i)*2<=_;omega) ?_
   ·rw[show (C.length-i)*([Value.int .i64 0,Value.string ⟨#[]⟩]:List Value).length=(db [.int .i64 0,.string ⟨#[]⟩] (C.length-i)).length from (ku _ _).symm,e2]
    exact gh.hd
   ·intro u w hS
    refine⟨some ⟨b,0,none⟩,C.length,cap,0,i,cap,rfl,rfl,⟨_,rfl⟩,rfl,by omega,by omega,by omega,?_⟩
    rw[if_neg (show ¬cap=0 by omega)]
    simp only[Option.map_some,Addr.add_lit,Nat.zero_mul,Nat.add_zero,Nat.sub_zero]
    have hS:=a7.mk (n:=i) (cap:=cap) (sz:=2) (rest:=db [.int .i64 0,.string ⟨#[]⟩] (C.length-i)++rest) (by omega) hA (by rw[List.length_append,jW,ku];show (C.length-i)*2+_=_;omega) hS
    rw[od fQ]at hS
    have bW:(D.take i).length=i:=by rw[List.length_take];omega
    refine⟨_,rfl,?_⟩
    have hS:SL W (fO (.slice (some ⟨b,0,none⟩) i cap) (D.take i)::.pt cb (gi c) 82::F) w:=by unfold fO;rw[bW];exact hS
    exact aR hS
theorem WQ(t:Int)(l:List dW)(i:Nat)(h:i<l.length)(r:Row):j7 t (l.take (i+1)) r=(j7 t (l.take i) r || decide (l[i].table=t/\l[i].key=r.key)):=by
 unfold j7
 rw[List.take_succ_eq_append_getElem h,List.any_append];simp
theorem b69(wp:Nat)(k:dQ)(H:aW)(v:Value)(l:List dW)(hv:dy H 4 v l.length (l.map gi).flatten)(hn:k.rows.length<=1000000)(hl:l.length<=140737488351232):
  SP 199 [dg wp,v] [.ob (eg wp k),.mem H] (λu post=>(∃q,u= .int .i64 q)/\post=[.ob (eg wp (k.sn l)),.mem H]):=by
 intro W F w hS;apply bIm;delta Jb aF bw a_ df ai c_;(try simp only[app]at hS)
 obtain⟨rv,hS⟩:=eg.iff.1 hS
 unfold lQ at hS
 unfold dQ.sn
 refine bR (λh=>?_) (λh=>?_)
 ·rw[if_neg h]
  exact⟨_,⟨⟨_,rfl⟩,rfl⟩,SL.b6 (eg.put k rv hS Xp) Xi⟩
 rw[if_pos (by omega)]
 refine Gp ?_
 refine zr hS (v:=rv) (t:=52) (sz:=2) (n:=k.rows.length) (cells:=(k.rows.map dX).flatten) Xh ?_
 refine zm hv ?_
 refine⟨λus w=>∃(i:Nat) (ru:Value),us=[.int .i64 i]/\i<=l.length/\SL W (.pt wp [.int .i64 k.mark,.int .i64 k.after,.int .i64 k.id,.int .i64 k.table,ru,.int .i64 k.dL,.bool k.last,.int .i64 k.n,.int .i64 k.state] 209::fO ru (k.rows.filter λr=>!j7 k.table (l.take i) r)::.mem H::F) w,
  λus _=>match us with|[.int _ i]=>(l.length-i).toNat|_=>0,⟨0,rv,rfl,by omega,?_⟩,?_⟩
 ·have:(k.rows.filter λr=>!j7 k.table (l.take 0) r)=k.rows:=List.filter_eq_self.2 λr _=>by simp[j7]
  rw[this];exact aR hS
 clear hS
 rintro Hd w ⟨i,ru,da,hi,hS⟩
 cases da
 refine bR (λh=>?_) (λh=>?_)
 ·have bW:i<l.length:=by omega
  have hx:l[i]?=some l[i]:=List.getElem?_eq_getElem bW
  have ou:(k.rows.filter λr=>!j7 k.table (l.take i) r).length<=k.rows.length:=List.length_filter_le _ _
  refine zS hS Xh kh hv hx bW ?_
  have iy:∀r,j7 k.table (l.take (i+1)) r=(j7 k.table (l.take i) r || decide (l[i].table=k.table/\l[i].key=r.key)):=WQ k.table l i bW
  generalize l[i]=c at *
  refine Gb λxb w hS=>?_
  refine za (λh2=>?_) (λh2=>?_)
  ·refine Gp ?_
   refine Cc (QJ xb c ru (k.rows.filter λr=>!j7 k.table (l.take i) r) (by omega)) ?_;clear hS
   rintro u post rfl w hS
   try simp only[app]at hS
   have hS:SL W (fO u ((k.rows.filter λr=>!j7 k.table (l.take i) r).filter λr=>!decide (r.key=c.key))::.pt xb (gi c) 82::.pt wp [.int .i64 k.mark,.int .i64 k.after,.int .i64 k.id,.int .i64 k.table,ru,.int .i64 k.dL,.bool k.last,.int .i64 k.n,.int .i64 k.state] 209::.mem H::F) w:=aR hS
   have o1:u.oneCell'=true:=a7.one hS
   refine Gn λw hS=>?_
   refine⟨⟨i+1,u,rfl,by omega,?_⟩,by dsimp only;omega⟩
   have e:(k.rows.filter λr=>!j7 k.table (l.take (i+1)) r)=((k.rows.filter λr=>!j7 k.table (l.take i) r).filter λr=>!decide (r.key=c.key)):=by
    rw[List.filter_filter]
    refine List.filter_congr λr _=>?_
    rw[iy r]
    have:decide (c.table=k.table/\c.key=r.key)=decide (r.key=c.key):=by rw[decide_eq_decide];omega
    rw[this]
    cases j7 k.table (l.take i) r<;>cases decide (r.key=c.key)<;>rfl
   rw[e]
   exact aR hS
  ·refine Gp ?_
   refine⟨⟨i+1,ru,rfl,by omega,?_⟩,by dsimp only;omega⟩
   have e:(k.rows.filter λr=>!j7 k.table (l.take (i+1)) r)=(k.rows.filter λr=>!j7 k.table (l.take i) r):=by
    refine List.filter_congr λr _=>?_
    rw[iy r,decide_eq_false (by omega),Bool.or_false]
   rw[e]
   exact aR hS
 ·have:l.take i=l:=List.take_of_length_le (by omega)
  rw[this]at hS
  have ou:(k.rows.filter λr=>!j7 k.table l r).length<=k.rows.length:=List.length_filter_le _ _
  refine Gp ?_
  refine zr hS (v:=ru) (t:=52) (sz:=2) (n:=(k.rows.filter λr=>!j7 k.table l r).length) (cells:=((k.rows.filter λr=>!j7 k.table l r).map dX).flatten) Xh ?_
  refine Gp ?_
  exact⟨_,⟨⟨_,rfl⟩,rfl⟩,SL.b6 (eg.put {k with rows:=k.rows.filter λr=>!j7 k.table l r} ru hS Xp) Xi⟩
abbrev we:pF:=⟨0,.slice none 0 0,.slice none 0 0⟩
def tK(wp:Nat)(k:dQ)(H:aW)(mark aI:Int)(u:Value)(post:List Chunk):Prop:=match (k.high mark aI).2 with
 | none=>u= .tuple #[agg (kC we),.bool false]/\post=[.ob (eg wp k),.mem H]
 | some t=>∃(x:pF) (H':aW),H.le H'/\u= .tuple #[agg (kC x),.bool true]/\rz H' x t/\post=[.ob (eg wp (gl k.n)),.mem H']
theorem Gq{a:Int}{u v:Value}(h1:u.oneCell'=true)(h2:v.oneCell'=true):∀x∈[Value.int .i64 a,u,v],x.oneCell'=true:=by
 intro x hx
 simp only[List.mem_cons,List.not_mem_nil,or_false]at hx
 rcases hx with rfl|rfl|rfl
 ·rfl
 ·exact h1
 ·exact h2
theorem Yd(wp:Nat)(k:dQ)(H:aW)(mark aI:Int)(hn:k.rows.length<=1000000):SP 200 [dg wp,.int .i64 mark,.int .i64 aI] [.ob (eg wp k),.mem H] (tK wp k H mark aI):=by
 intro W F w hS;apply bIn;delta Jc aF bw a_ dx cF df ai c_ bF;(try simp only[app]at hS)
 obtain⟨rv,hS⟩:=eg.iff.1 hS
 have dK:∀{w:World} {rb:Nat},k.rV mark aI->SL W (.pt rb [.int .i64 0,.slice none 0 0,.slice none 0 0] 100::.pt wp (lQ k rv) 209::fO rv k.rows::.mem H::F) w->∃post,tK wp k H mark aI (.tuple #[agg (kC we),.bool false]) post/\SL W (app post F) w:=λh hS=>by
  have e:(k.high mark aI).2=none:=by unfold dQ.high;rw[if_pos h]
  refine⟨[.ob (eg wp k),.mem H],?_,SL.b6 (eg.put k rv hS Xp) Xi⟩
  unfold tK;rw[e];exact⟨rfl,rfl⟩
 refine Gb λrb w hS=>?_
 refine za (λh=>?_) (λh1=>?_)
 ·refine Gn λw hS=>?_
  exact dK (.inl h) hS
 refine bR (λh=>?_) (λh2=>?_)
 ·refine Gn λw hS=>?_
  exact dK (.inr (.inl h)) hS
 refine bR (λh=>?_) (λh3=>?_)
 ·refine Gn λw hS=>?_
  exact dK (.inr (.inr (by omega))) hS
 refine bR (λh=>?_) (λh4=>?_)
 ·refine Gn λw hS=>?_
  exact dK (.inr (.inr (by omega))) hS
 clear dK
 have b5:¬k.rV mark aI:=by unfold dQ.rV;omega
 have e:(k.high mark aI).2=some ⟨aI,jh k aI,[rj k]⟩:=by unfold dQ.high;rw[if_neg b5]
 refine⟨λus w=>∃(b nb:Nat),us=[dg b]/\SL W (.pt b [.int .i64 aI,.slice none 0 0,.slice (some ⟨nb,0,none⟩) 1 1] 100::.pt nb [.int .i64 2,.int .i64 k.id,.int .i64 0,.int .i64 0,.int .i64 0,.int .i64 k.dL,.bool k.last] 295::.pt rb [.int .i64 0,.slice none 0 0,.slice none 0 0] 100::.pt wp (lQ k rv) 209::fO rv k.rows::.mem H::F) w,?_,?_⟩
 ·refine Gn λw hS=>?_
  refine⟨?_,?_⟩
  ·refine Gb λnb w hS=>?_
   refine Gb λb w hS=>?_
   exact⟨b,nb,rfl,aR hS⟩
  ·refine Gb λb w hS=>?_
   refine Gb λnb w hS=>?_
   exact⟨b,nb,rfl,aR hS⟩
 clear hS
 rintro v8 w ⟨b,nb,da,hS⟩
 cases da
 refine Gp ?_
 refine zr hS (v:=rv) (t:=52) (sz:=2) (n:=k.rows.length) (cells:=(k.rows.map dX).flatten) Xh ?_
 have Fv:(jh k aI).length=k.rows.length:=List.length_map ..
 have hS:SL W (.ob (a7 (.slice none 0 0) 123 5 ((jh k aI).take 0).length (((jh k aI).take 0).map pQ).flatten)::_) w:=a7.nil hS
 refine⟨λus w=>∃(i:Nat) (ov:Value),us=[.int .i64 i]/\i<=k.rows.length/\SL W (.ob (a7 ov 123 5 ((jh k aI).take i).length (((jh k aI).take i).map pQ).flatten)::.pt b [.int .i64 aI,ov,.slice (some ⟨nb,0,none⟩) 1 1] 100::.pt nb [.int .i64 2,.int .i64 k.id,.int .i64 0,.int .i64 0,.int .i64 0,.int .i64 k.dL,.bool k.last] 295::.pt rb [.int .i64 0,.slice none 0 0,.slice none 0 0] 100::.pt wp (lQ k rv) 209::fO rv k.rows::.mem H::F) w,
  λus _=>match us with|[.int _ i]=>(k.rows.length-i).toNat|_=>0,⟨0,.slice none 0 0,rfl,by omega,aR hS⟩,?_⟩
 clear hS
 rintro S5 w ⟨i,ov,da,hi,hS⟩
 cases da
 refine bR (λh=>?_) (λh=>?_)
 ·have bW:i<k.rows.length:=by omega
  have hx:k.rows[i]?=some k.rows[i]:=List.getElem?_eq_getElem bW
  have ff:(jh k aI)[i]'(by omega)=⟨aI,k.table,k.rows[i].key,false,k.rows[i].val⟩:=by unfold jh;rw[List.getElem_map]
  have gK:(jh k aI).take (i+1)=(jh k aI).take i++[⟨aI,k.table,k.rows[i].key,false,k.rows[i].val⟩]:=by rw[List.take_succ_eq_append_getElem (by omega),ff]
  have OF:((jh k aI).take i).length=i:=by rw[List.length_take];omega
  refine z6 hS (v:=rv) (t:=52) Xh fQ hx bW ?_
  generalize k.rows[i]=r at *
  refine Gb λxb w hS=>?_
  refine Gb λyb w hS=>?_
  refine yu (n:=((jh k aI).take i).length) (xs:=(jh k aI).take i) (y:=⟨aI,k.table,r.key,false,r.val⟩) (enc:=pQ) hS Xr Xh M3 (λx=>M4 x) rfl (by omega) (by omega) λv2 w hS=>?_
  have hS:=hS.oJ (x:=(⟨aI,k.table,r.key,false,r.val⟩:mf))
  rw[<- gK]at hS
  have o1:v2.oneCell'=true:=a7.one hS
  refine Gn λw hS=>?_
  exact⟨⟨i+1,v2,rfl,by omega,aR hS⟩,by dsimp only;omega⟩
 ·have he:(jh k aI).take i=jh k aI:=List.take_of_length_le (by omega)
  rw[he]at hS
  have o1:ov.oneCell'=true:=a7.one hS
  refine Gp ?_
  refine QB hS Xu rfl (by simp) (by simp[Value.oneCell']) λw hS=>?_
  simp only[List.take,List.drop,List.cons_append,List.nil_append]at hS
  refine Gn λw hS=>?_
  refine zz (vs:=[.int .i64 aI,ov,.slice (some ⟨nb,0,none⟩) 1 1]) hS Xu rfl rfl (Gq o1 rfl) λw hS=>?_
  refine Gp ?_
  obtain⟨H1,d_,om,hS⟩:=zE (H:=H) (v:=ov) hS Xp
  obtain⟨H2,eh,jU,hS⟩:=SL.AJ (sz:=7) (H:=H1) (b:=nb) hS Xp rfl
  have hS:=fO.nil hS
  have hS:=eg.put (wp:=wp) (gl k.n) (.slice none 0 0) hS Xp
  refine⟨[.ob (eg wp (gl k.n)),.mem H2],?_,aR hS⟩
  unfold tK;rw[e]
  exact⟨⟨aI,ov,.slice (some ⟨nb,0,none⟩) 1 1⟩,H2,aW.le_trans d_ eh,rfl,⟨rfl,om.mono eh,jU⟩,rfl⟩
end Go.Proofs.YtfenmffiidchcaaGreat
