/-
  Texts of the proof, joined: SnpM, WinS, WinS2.
-/
import Derived.Test.YtfenmffiidchcaaGreatJ9
import Derived.Test.YtfenmffiidchcaaGreatQVcW
namespace Go.Proofs.YtfenmffiidchcaaGreat
set_option linter.unusedVariables false
open Go.RowKit
theorem Ic:∀(n:Nat) (l:List Int),l.Nodup->(∀x∈l,1<=x/\x<=(n:Int))->l.length<=n
 | 0,l,_,h=>by
  cases l with
  | nil=>exact Nat.le_refl _
  | cons x l=>have:=h x (.head _);omega
 | n+1,l,hd,h=>by
  by_cases hm:((n+1:Nat):Int)∈l
  ·have h1:=Ic n (l.erase ((n+1:Nat):Int)) (hd.erase _) λx hx=>by
    have h2:=hd.mem_erase_iff.1 hx
    have:=h x h2.2
    have:=h2.1
    omega
   rw[List.length_erase_of_mem hm]at h1
   omega
  ·have:=Ic n l hd λx hx=>by
    have:=h x hx
    have:x≠((n+1:Nat):Int):=λe=>hm (e▸hx)
    omega
   omega
theorem g_.Ok.len{d:g_}(h:d.Ok):d.l.length<=64:=by
 have:=Ic 64 (d.l.map Prod.fst) h.nd λx hx=>by
  obtain⟨m,hm,rfl⟩:=List.mem_map.1 hx
  have:=h.w m hm
  omega
 rw[List.length_map]at this;exact this
theorem OH:lT.Ok:=⟨by decide,by decide,by decide,by decide,λ_=>rfl,by simp,by simp⟩
theorem g_.Ok.add{d:g_}(h:d.Ok)(id w:Int):(d.add id w).Ok:=by
 unfold g_.add
 split
 ·exact h
 ·rename_i hr
  split
  ·exact h
  ·rename_i hf
   have h1:=h.Bz
   refine⟨h.mZ,by show d.at_<((d.l++[(id,w)]).length:Nat);rw[List.length_append];simp;omega,h.Eo,h.Ep,h.neg,λm hm=>?_,?_⟩
   ·rcases List.mem_append.1 hm with hm|hm
    ·exact h.w m hm
    ·rw[List.mem_singleton.1 hm];simp only;omega
   ·show ((d.l++[(id,w)]).map Prod.fst).Nodup
    rw[List.map_append,List.nodup_append]
    refine⟨h.nd,by simp,λa ha b hb=>?_⟩
    obtain⟨m,hm,rfl⟩:=List.mem_map.1 ha
    have hb:b=id:=by simpa using hb
    subst hb
    have:=List.findIdx?_eq_none_iff.1 hf m hm
    simpa using this
theorem g_.Ok.del{d:g_}(h:d.Ok)(id:Int):(d.del id).Ok:=by
 unfold g_.del
 split
 ·exact h
 ·rename_i i hf
  have hi:i<d.l.length:=(List.findIdx?_eq_some_iff_getElem.1 hf).1
  have h0:=h.mZ
  have h1:=h.Bz
  have hl:(d.l.eraseIdx i).length=d.l.length-1:=by rw[List.length_eraseIdx,if_pos hi]
  refine⟨?_,?_,?_,?_,λhn=>?_,λm hm=>h.w m (List.mem_of_mem_eraseIdx hm),?_⟩
  ·simp only;split<;>omega
  ·simp only[hl];split<;>omega
  ·simp only;split
   ·exact Int.le_refl _
   ·exact h.Eo
  ·simp only;split
   ·decide
   ·exact h.Ep
  ·simp only at hn ⊢
   split
   ·rfl
   ·split at hn
    ·omega
    ·exact h.neg hn
  ·simp only
   exact h.nd.sublist ((List.eraseIdx_sublist _ _).map _)
theorem g_.Ok.pl{d:g_}(h:d.Ok)(iW:d.l≠[]):0<=d.place/\d.place<d.l.length/\d.nX∈d.l:=by
 have jO:0<=d.place/\d.place<d.l.length:=by
  have:=h.neg
  have:=h.mZ
  have:=h.Bz
  have:0<d.l.length:=List.length_pos_iff.2 iW
  unfold g_.place
  split
  ·split<;>omega
  ·omega
 refine⟨jO.1,jO.2,?_⟩
 unfold g_.nX
 rw[List.getElem?_eq_getElem (show d.place.toNat<d.l.length by omega)]
 exact List.getElem_mem _
theorem g_.Ok.next{d:g_}(h:d.Ok):d.next.1.Ok:=by
 unfold g_.next
 split
 ·exact h
 ·rename_i iW
  obtain⟨h1,h2,h3⟩:=h.pl iW
  have hw:=h.w _ h3
  have G7:=h.Eo
  have sG:=h.Ep
  refine⟨by simp only;omega,by simp only;omega,?_,?_,λhn=>?_,h.w,h.nd⟩
  ·simp only;split<;>omega
  ·simp only;split<;>omega
  ·simp only at hn;omega
theorem S0{d:g_}(h:d.Ok)(iW:d.l≠[]):d.next.2=d.nX.1/\d.nX∈d.l:=by
 unfold g_.next
 rw[if_neg iW]
 exact⟨rfl,(h.pl iW).2.2⟩
theorem aW9(d:g_):d.next.1.l=d.l:=by
 unfold g_.next
 split<;>rfl
theorem OC:∀(L:List Rq) {d:g_},d.Ok->(L.foldl (λd r=>d.del r.id) d).Ok
 | [],_,h=>h
 | r::L,_,h=>OC L (h.del r.id)
theorem NH:∀(L:List Rq) {d:g_},d.Ok->(L.foldl (λd r=>d.add r.id r.weight) d).Ok
 | [],_,h=>h
 | r::L,_,h=>NH L (h.add r.id r.weight)
theorem bFl{d:g_}(h:d.Ok)(L:List Rq):(kY d L).Ok:=NH _ (OC _ h)
theorem WB(d:g_)(id:Int):∀m∈(d.del id).l,m∈d.l:=λm hm=>by
 unfold g_.del at hm
 split at hm
 ·exact hm
 ·exact List.mem_of_mem_eraseIdx hm
theorem BH:∀(L:List Rq) (d:g_),∀m∈(L.foldl (λd r=>d.del r.id) d).l,m∈d.l
 | [],_,m,h=>h
 | r::L,d,m,h=>WB d r.id m (BH L (d.del r.id) m h)
theorem U'(d:g_)(id w:Int):∀m∈(d.add id w).l,m∈d.l\/m=(id,w):=λm hm=>by
 unfold g_.add at hm
 split at hm
 ·exact .inl hm
 ·split at hm
  ·exact .inl hm
  ·rcases List.mem_append.1 hm with hm|hm
   ·exact .inl hm
   ·exact .inr (List.mem_singleton.1 hm)
theorem U_(d:g_)(id w:Int):∀m∈d.l,m∈(d.add id w).l:=λm hm=>by
 unfold g_.add
 split
 ·exact hm
 ·split
  ·exact hm
  ·exact List.mem_append_left _ hm
theorem Fz:∀(L:List Rq) (d:g_),∀m∈(L.foldl (λd r=>d.add r.id r.weight) d).l,m∈d.l\/∃r∈L,m=(r.id,r.weight)
 | [],_,m,h=>.inl h
 | r::L,d,m,h=>by
  rcases Fz L (d.add r.id r.weight) m h with h|⟨x,hx,e⟩
  ·rcases U' d r.id r.weight m h with h|h
   ·exact .inl h
   ·exact .inr ⟨r,.head _,h⟩
  ·exact .inr ⟨x,.tail _ hx,e⟩
theorem NI:∀(L:List Rq) (d:g_),∀m∈d.l,m∈(L.foldl (λd r=>d.add r.id r.weight) d).l
 | [],_,m,h=>h
 | r::L,d,m,h=>NI L (d.add r.id r.weight) m (U_ d r.id r.weight m h)
theorem bFm(d:g_)(L:List Rq):∀m∈(kY d L).l,m∈d.l\/∃r∈lz L,m=(r.id,r.weight):=λm hm=>by
 rcases Fz _ _ m hm with h|h
 ·exact .inl (BH _ _ m h)
 ·exact .inr h
theorem U9(d:g_){id w:Int}(h1:1<=id/\id<=64)(h2:1<=w/\w<=8):∃m∈(d.add id w).l,m.1=id:=by
 unfold g_.add
 rw[if_neg (by omega)]
 cases hf:AS d id with
 | some i=>
  obtain⟨hi,hk,_⟩:=List.findIdx?_eq_some_iff_getElem.1 hf
  exact⟨_,List.getElem_mem hi,of_decide_eq_true hk⟩
 | none=>exact⟨(id,w),by simp,rfl⟩
theorem kx.at{L:List Rq}(h:kx L){r:Rq}(hr:r∈L):1<=r.id/\r.id<=L.length/\r.id<=64/\1<=r.weight/\r.weight<=8/\0<=r.table/\r.table<8/\0<=r.h_/\r.h_<=1099511627776:=by
 obtain⟨i,hi,rfl⟩:=List.getElem_of_mem hr
 obtain⟨⟨h1,h2,h3,h4,h5,h6,h7,h8,h9,vR,xa⟩,_⟩:=h.2 i hi
 have:=h.1
 exact⟨by omega,by omega,by omega,h4,h5,h2,h3,h8,h9⟩
theorem TD{d:g_}{L:List Rq}(hL:kx L)(h:lz L≠[]):(kY d L).l≠[]:=by
 unfold kY
 generalize (L.filter (·.done)).foldl (λd r=>d.del r.id) d=d1
 have oZ:∀r∈lz L,r∈L:=λr hr=>(List.mem_filter.1 hr).1
 generalize lz L=O at *
 match O,h with
 | r::O,_=>
  have ha:=hL.at (oZ r (.head _))
  obtain⟨m,hm,_⟩:=U9 d1 (id:=r.id) (w:=r.weight) (by omega) (by omega)
  have:=NI O (d1.add r.id r.weight) m hm
  intro e
  rw[List.foldl_cons]at e
  rw[e]at this
  cases this
structure gF.Good(p:gF)(N:Nat):Prop where
 reqs:kx p.m.reqs
 t1:1<=p.m.tables/\p.m.tables<=8
 mZ:0<=p.m.at_/\p.m.at_<=1099511627776
 wn:p.m.b8.n<=64
 rows:p.m.b8.rows.length<=64
 wid:0<=p.m.b8.id/\p.m.b8.id<=64
 d:p.d.Ok
 ids:∀m∈p.d.l,m.1<=p.m.reqs.length
 n:1<=p.n/\p.n<=64
 src:mY p.k N
theorem gF.Good.row{p:gF}{N:Nat}(h:p.Good N):(kY p.d p.m.reqs).Ok/\∀m∈(kY p.d p.m.reqs).l,m.1<=p.m.reqs.length:=by
 refine⟨bFl h.d _,λm hm=>?_⟩
 rcases bFm _ _ m hm with hm|⟨r,hr,rfl⟩
 ·exact h.ids m hm
 ·exact (h.reqs.at (List.mem_filter.1 hr).1).2.1
theorem gF.Good.oJ{p:gF}{N:Nat}(h:p.Good N)(ho:lz p.m.reqs≠[]):∃r,wy p.m.reqs (kY p.d p.m.reqs).next.2=some r/\r∈p.m.reqs/\r.id=(kY p.d p.m.reqs).next.2:=by
 obtain⟨h1,h2⟩:=h.row
 have iW:=TD (d:=p.d) h.reqs ho
 obtain⟨e,hm⟩:=S0 h1 iW
 have ha:=h1.w _ hm
 have hb:=h2 _ hm
 rw[e]
 generalize (kY p.d p.m.reqs).nX.1=id at *
 have ix:(id-1).toNat<p.m.reqs.length:=by omega
 refine⟨p.m.reqs[(id-1).toNat],?_,List.getElem_mem _,?_⟩
 ·unfold wy
  rw[if_neg (by omega),List.getElem?_eq_getElem ix]
 ·have:=(h.reqs.2 _ ix).1.1
  omega
theorem mY.mark{k:fR}{N:Nat}(h:mY k N)(kind mark:Int):mY (k.mL kind mark).1 (N+2000):=by
 unfold fR.mL
 split
 ·rename_i hc;exact h.add hc.2
 ·exact h.mono (by omega)
theorem a7v(w:ik)(mark id table after:Int):(w.pA mark id table after).n=w.n/\(w.pA mark id table after).rows.length<=w.rows.length/\(w.pA mark id table after=w\/((w.pA mark id table after).id=id/\1<=id/\id<=64)):=by
 unfold ik.pA
 split
 ·exact⟨rfl,Nat.le_refl _,.inl rfl⟩
 ·rename_i hb
  unfold ik.wo at hb
  exact⟨rfl,Nat.zero_le _,.inr ⟨rfl,by omega,by omega⟩⟩
theorem gF.Good.step{p:gF}{N:Nat}(h:p.Good N):(p.step.1).Good (N+2000):=by
 have hs:∀kind mark,mY (p.k.mL kind mark).1 (N+2000):=λa b=>h.src.mark a b
 have h0:p.Good (N+2000):=⟨h.reqs,h.t1,h.mZ,h.wn,h.rows,h.wid,h.d,h.ids,h.n,h.src.mono (by omega)⟩
 obtain⟨Ct,D8⟩:=h.row
 unfold gF.step
 split
 ·exact h0
 ·split
  ·unfold gF.xM gF.uB
   have GY:(kY p.d p.m.reqs).next.1.Ok:=Ct.next
   have ve:∀m∈(kY p.d p.m.reqs).next.1.l,m.1<=p.m.reqs.length:=by rw[aW9];exact D8
   split
   ·exact⟨h.reqs,h.t1,h.mZ,h.wn,h.rows,h.wid,GY,ve,h.n,h.src.mono (by omega)⟩
   ·rename_i r _
    unfold gF.wk
    simp only
    split
    ·exact⟨h.reqs,h.t1,h.mZ,h.wn,h.rows,h.wid,GY,ve,h.n,hs _ _⟩
    ·obtain⟨a,b,c⟩:=a7v p.m.b8 (b9 p.k.g.bR+1) r.id r.table r.h_
     have CE:=h.wn
     have hrw:=h.rows
     have RR:=h.wid
     refine⟨h.reqs,h.t1,h.mZ,by show (p.m.b8.pA _ _ _ _).n<=64;rw[a];exact CE,Nat.le_trans b hrw,?_,GY,ve,h.n,hs _ _⟩
     show 0<=(p.m.b8.pA _ _ _ _).id/\(p.m.b8.pA _ _ _ _).id<=64
     rcases c with c|c
     ·rw[c];exact RR
     ·rw[c.1];omega
  ·split
   ·refine⟨h.reqs,h.t1,h.mZ,?_,?_,?_,h.d,h.ids,h.n,h.src.mono (by omega)⟩
    ·show (p.m.b8.fill _).n<=64
     unfold ik.fill;split<;>exact h.wn
    ·show (p.m.b8.fill _).rows.length<=64
     unfold ik.fill
     split
     ·exact h.rows
     ·rename_i hb
      have:=h.wn
      unfold ik.vP at hb
      simp only at hb ⊢
      omega
    ·show 0<=(p.m.b8.fill _).id/\(p.m.b8.fill _).id<=64
     unfold ik.fill;split<;>exact h.wid
   ·unfold gF.xm
    simp only
    split
    ·exact⟨h.reqs,h.t1,h.mZ,h.wn,h.rows,h.wid,h.d,h.ids,h.n,hs _ _⟩
    ·have e:p.m.b8.shut.n=p.m.b8.n/\p.m.b8.shut.rows=p.m.b8.rows/\p.m.b8.shut.id=p.m.b8.id:=by unfold ik.shut;split<;>exact⟨rfl,rfl,rfl⟩
     exact⟨h.reqs,h.t1,h.mZ,by show p.m.b8.shut.n<=64;rw[e.1];exact h.wn,by show p.m.b8.shut.rows.length<=64;rw[e.2.1];exact h.rows,by show 0<=p.m.b8.shut.id/\p.m.b8.shut.id<=64;rw[e.2.2];exact h.wid,h.d,h.ids,h.n,hs _ _⟩
theorem U7{L L':List Rq}{t w a:Int}(h:su L t w a=some L'):L'.length=L.length+1:=by
 unfold su at h
 split at h
 ·cases h;simp
 ·cases h
theorem V5{L L':List Rq}{id c:Int}{dn:Bool}(h:pI L id c dn=some L'):L'.length=L.length:=by
 unfold pI at h
 split at h
 ·split at h
  ·split at h
   ·cases h
   ·cases h;exact List.length_set
  ·cases h
 ·cases h
theorem U8(m:g7)(s:ByteArray)(aI:Int):m.reqs.length<=(m.accept s aI).1.length/\(kx m.reqs->kx (m.accept s aI).1):=by
 unfold g7.accept
 split
 ·exact⟨Nat.le_refl _,id⟩
 ·split
  ·exact⟨Nat.le_refl _,id⟩
  ·split
   ·exact⟨Nat.le_refl _,id⟩
   ·rename_i L hL
    exact⟨by have:=U7 hL;simp only;omega,λ_=>NB hL⟩
theorem ND(aI:Int):∀(l:List ByteArray) (m:g7),m.reqs.length<=(m.j1 aI l).1.reqs.length/\(kx m.reqs->kx (m.j1 aI l).1.reqs)/\(m.j1 aI l).1.b8=m.b8/\(m.j1 aI l).1.tables=m.tables/\(m.j1 aI l).1.late=m.late/\(m.j1 aI l).1.at_=m.at_
 | [],m=>⟨Nat.le_refl _,id,rfl,rfl,rfl,rfl⟩
 | s::l,m=>by
  obtain⟨a,b⟩:=U8 m s aI
  obtain⟨c,d,e⟩:=ND aI l {m with reqs:=(m.accept s aI).1}
  exact⟨Nat.le_trans a c,λh=>d (b h),e⟩
theorem bWe{m:g7}{t:dR}(h:kx m.reqs)(hr:m.b8.rows.length<=64)(hn:m.b8.n<=64)(hi:0<=m.b8.id/\m.b8.id<=64)(ha:0<=m.at_/\m.at_<=1099511627776):
  m.reqs.length<=(m.take t).1.reqs.length/\kx (m.take t).1.reqs/\(m.take t).1.tables=m.tables/\(0<=(m.take t).1.at_/\(m.take t).1.at_<=1099511627776)/\(m.take t).1.b8.n<=64/\(m.take t).1.b8.rows.length<=64/\0<=(m.take t).1.b8.id/\(m.take t).1.b8.id<=64:=by
 have AM:m.reqs.length<=m.reqs.length/\kx m.reqs/\m.tables=m.tables/\(0<=m.at_/\m.at_<=1099511627776)/\m.b8.n<=64/\m.b8.rows.length<=64/\0<=m.b8.id/\m.b8.id<=64:=⟨Nat.le_refl _,h,rfl,ha,hn,hr,hi⟩
 unfold g7.take
 split
 ·exact AM
 ·rename_i hm
  obtain⟨m1,_⟩:=nW (show iM t=true by cases hq:iM t with
   | true=>rfl
   | false=>exact absurd hq hm)
  split
  ·exact AM
  ·split
   ·unfold g7.wU
    simp only
    obtain⟨a,b,c,d,_,f⟩:=ND t.aI t.signals {m with at_:=t.aI}
    generalize ({m with at_:=t.aI}:g7).j1 t.aI t.signals=y at *
    refine⟨a,b h,d,by rw[f];exact⟨by show 0<=t.aI;omega,by show t.aI<=_;omega⟩,?_⟩
    rw[c]
    unfold ik.vv
    simp only
    split
    ·exact⟨hn,Nat.le_trans (List.length_filter_le _ _) hr,hi⟩
    ·exact⟨hn,hr,hi⟩
   ·split
    ·unfold g7.high
     simp only
     have DY:∀w o,m.b8.high t.mark t.aI=(w,o)->w.n<=64/\w.rows.length<=64/\0<=w.id/\w.id<=64:=λw o e=>by
      unfold ik.high at e
      split at e
      ·cases e;exact⟨hn,hr,hi⟩
      ·cases e;exact⟨hn,Nat.zero_le _,Int.le_refl _,show (0:Int)<=64 by decide⟩
     split
     ·exact⟨Nat.le_refl _,h,rfl,⟨by show 0<=t.aI;omega,by show t.aI<=_;omega⟩,hn,hr,hi⟩
     ·rename_i w x e
      have hw:=DY _ _ e
      split
      ·exact⟨Nat.le_refl _,h,rfl,⟨by show 0<=t.aI;omega,by show t.aI<=_;omega⟩,hw⟩
      ·rename_i L hL
       exact⟨by have:=V5 hL;simp only at this ⊢;omega,V6 hL,rfl,⟨by show 0<=t.aI;omega,by show t.aI<=_;omega⟩,hw⟩
    ·refine⟨Nat.le_refl _,h,rfl,⟨by show 0<=t.aI;omega,by show t.aI<=_;omega⟩,?_⟩
     show (m.b8.low t.mark).n<=64/\(m.b8.low t.mark).rows.length<=64/\0<=(m.b8.low t.mark).id/\(m.b8.low t.mark).id<=64
     unfold ik.low
     split<;>exact⟨hn,hr,hi⟩
theorem gF.Good.take{p:gF}{N:Nat}(h:p.Good N)(t:dR):({p with m:=(p.m.take t).1}:gF).Good N:=by
 obtain⟨a,b,c,d,e,f,g,i⟩:=bWe (t:=t) h.reqs h.rows h.wn h.wid h.mZ
 exact⟨b,by show 1<=(p.m.take t).1.tables/\(p.m.take t).1.tables<=8;rw[c];exact h.t1,d,e,f,⟨g,i⟩,h.d,λm hm=>by have:=h.ids m hm;show m.1<=((p.m.take t).1.reqs.length:Int);omega,h.n,h.src⟩
theorem gF.Good.ta{p:gF}{N:Nat}(h:p.Good N)(sg:List ByteArray)(l:List ig):({p with k:=(p.k.mR sg l).1}:gF).Good (N+2000):=
 ⟨h.reqs,h.t1,h.mZ,h.wn,h.rows,h.wid,h.d,h.ids,h.n,h.src.ta sg l⟩
set_option maxRecDepth 100000
theorem a_a{after:Int}{C:List Row}{j:Nat}(h:j+1=C.length)(hj:j<C.length):mw after C=C[j].key:=by
 unfold mw
 rw[List.getLast?_eq_getElem?,show C.length-1=j by omega,List.getElem?_eq_getElem hj];rfl
theorem a_f(H:bw)(v:Value)(C:List Row)(after n:Int)(hv:gi H 2 v C.length (C.map iq).flatten)(hn:C.length<=1000000):
  SP 206 [.int .i64 after,.int .i64 n,v] [.mem H] (dW (.tuple #[.int .i64 (mw after C),.bool (decide ((C.length:Int)<n))]) [.mem H]):=by
 intro W F w hS;apply b5i;delta K1 aF a7 ai;(try simp only[app]at hS)
 refine zo hv ?_
 refine bW (λh=>?_) (λh=>?_)
 ·obtain⟨j,hj⟩:∃j:Nat,j+1=C.length:=⟨C.length-1,by omega⟩
  have jX:j<C.length:=by omega
  rw[a_a (after:=after) hj jX]
  refine zo hv ?_
  refine Gp ?_
  rw[show (C.length:Int)-1=(j:Int) by omega]
  refine zH hS Xh jY hv (x:=C[j]) (List.getElem?_eq_getElem jX) jX (i:=0) rfl ?_
  refine zo hv ?_
  refine Gp ?_
  (exact eF hS)
 ·have he:C=[]:=List.eq_nil_of_length_eq_zero (by omega)
  rw[show mw after C=after by rw[he];rfl]
  refine zo hv ?_
  refine Gp ?_
  (exact eF hS)
abbrev pc(w:ik)(rv:Value):List Value:=[.int .i64 w.mark,.int .i64 w.after,.int .i64 w.id,.int .i64 w.table,rv,.int .i64 w.h_,.bool w.last,.int .i64 w.n,.int .i64 w.state]
def iC(wp:Nat)(k:ik):zC:=mX λrv:Value=>zQ True [.pt wp (pc k rv) 209,jL rv k.rows]
theorem iC.iff{W w:World}{l:List Chunk}{wp:Nat}{k:ik}:SL W (.ob (iC wp k)::l) w↔∃rv,SL W (.pt wp (pc k rv) 209::jL rv k.rows::l) w:=by
 unfold iC
 simp only[SL.ex,SL.fact,true_and,List.cons_append,List.nil_append]
theorem iC.put{W w:World}{l F:List Chunk}{wp:Nat}(k:ik)(rv:Value)(hS:SL W l w)(p:ky [.pt wp (pc k rv) 209,jL rv k.rows] l F):SL W (.ob (iC wp k)::F) w:=iC.iff.2 ⟨rv,hS.pick p⟩
theorem jL.nil{W w:World}{l:List Chunk}(h:SL W l w):SL W (jL (.slice none 0 0) []::l) w:=a_.nil h
theorem b9z(n:Int):SP 194 [.int .i64 n] [] (λv post=>(¬(1<=n/\n<=64)/\v= .tuple #[.pointer none,.int .i64 1]/\post=[])\/((1<=n/\n<=64)/\∃wp:Nat,v= .tuple #[dF wp,.int .i64 0]/\post=[.ob (iC wp (ko n))])):=by
 intro W F w hS;apply b46;delta KO aF ai eI bI;(try simp only[app]at hS)
 refine Gp ?_
 refine za (λh=>⟨_,.inl ⟨by omega,rfl,rfl⟩,hS⟩) (λh1=>?_)
 refine Gp ?_
 refine za (λh=>⟨_,.inl ⟨by omega,rfl,rfl⟩,hS⟩) (λh2=>?_)
 refine Gp ?_
 refine⟨_,rfl,zJ hS λwp w hS=>?_⟩
 have hS:=jL.nil hS
 exact⟨_,.inr ⟨by omega,wp,rfl,rfl⟩,SL.b4 (iC.put (wp:=wp) (ko n) (.slice none 0 0) hS Xp) Xi⟩
section
variable (wp:Nat) (k:ik)
theorem ZL:SP 117 [dF wp] [.ob (iC wp k)] (dW (.int .i64 k.state) [.ob (iC wp k)]):=by
 intro W F w hS;apply b3g;delta JR bF;(try simp only[app]at hS)
 obtain⟨rv,hS⟩:=iC.iff.1 hS
 unfold pc at hS
 refine Gp ?_
 exact⟨_,⟨rfl,rfl⟩,SL.b4 (iC.put k rv hS Xp) Xi⟩
theorem Qy:SP 131 [dF wp] [.ob (iC wp k)] (dW (.int .i64 k.mark) [.ob (iC wp k)]):=by
 intro W F w hS;apply b3r;delta J1 a7 dI;(try simp only[app]at hS)
 obtain⟨rv,hS⟩:=iC.iff.1 hS
 unfold pc at hS
 refine Gp ?_
 exact⟨_,⟨rfl,rfl⟩,SL.b4 (iC.put k rv hS Xp) Xi⟩
theorem qB:SP 48 [dF wp] [.ob (iC wp k)] (dW (.int .i64 k.table) [.ob (iC wp k)]):=by
 intro W F w hS;apply b8n;delta MP a7 dI;(try simp only[app]at hS)
 obtain⟨rv,hS⟩:=iC.iff.1 hS
 unfold pc at hS
 refine Gp ?_
 exact⟨_,⟨rfl,rfl⟩,SL.b4 (iC.put k rv hS Xp) Xi⟩
theorem qA:SP 124 [dF wp] [.ob (iC wp k)] (dW (.int .i64 k.after) [.ob (iC wp k)]):=by
 intro W F w hS;apply b3o;delta JZ a7 dI;(try simp only[app]at hS)
 obtain⟨rv,hS⟩:=iC.iff.1 hS
 unfold pc at hS
 refine Gp ?_
 exact⟨_,⟨rfl,rfl⟩,SL.b4 (iC.put k rv hS Xp) Xi⟩
theorem Qz(mark id table after:Int):SP 205 [dF wp,.int .i64 mark,.int .i64 id,.int .i64 table,.int .i64 after] [.ob (iC wp k)] (λv post=>(∃q,v= .bool q)/\post=[.ob (iC wp (k.pA mark id table after))]):=by
 intro W F w hS;apply b5h;delta K0 aF bF fI dI b7 ai bI;(try simp only[app]at hS)
 obtain⟨rv,hS⟩:=iC.iff.1 hS
 unfold pc at hS
 have g9:∀{w:World},k.wo mark id table after->SL W (.pt wp [.int .i64 k.mark,.int .i64 k.after,.int .i64 k.id,.int .i64 k.table,rv,.int .i64 k.h_,.bool k.last,.int .i64 k.n,.int .i64 k.state] 209::jL rv k.rows::F) w->∃post,((∃q,Value.bool false= .bool q)/\post=[.ob (iC wp (k.pA mark id table after))])/\SL W (app post F) w:=λh hS=>by
  rw[show k.pA mark id table after=k from if_pos h]
  exact⟨_,⟨⟨_,rfl⟩,rfl⟩,SL.b4 (iC.put k rv hS Xp) Xi⟩
 refine Gp ?_
 refine za (λh=>g9 (.inl h) hS) (λh0=>?_)
 refine Gp ?_
 refine za (λh=>g9 (.inr (by omega)) hS) (λh1=>?_)
 refine Gp ?_
 refine za (λh=>g9 (.inr (by omega)) hS) (λh2=>?_)
 refine Gp ?_
 refine za (λh=>g9 (.inr (by omega)) hS) (λh3=>?_)
 refine Gp ?_
 refine za (λh=>g9 (.inr (by omega)) hS) (λh4=>?_)
 refine Gp ?_
 refine za (λh=>g9 (.inr (by omega)) hS) (λh5=>?_)
 refine Gp ?_
 refine za (λh=>g9 (.inr (by omega)) hS) (λh6=>?_)
 refine Gp ?_
 refine za (λh=>g9 (.inr (by omega)) hS) (λh7=>?_)
 refine Gp ?_
 refine za (λh=>g9 (.inr (by omega)) hS) (λh8=>?_)
 clear g9
 have b5:¬k.wo mark id table after:=by unfold ik.wo;omega
 rw[show k.pA mark id table after=⟨k.n,1,mark,after,id,table,[],0,false⟩ from if_neg b5]
 refine Gp ?_
 refine QJ hS Xu rfl (by simp) (by simp[Value.oneCell']) λw hS=>?_
 simp only[List.take,List.drop,List.cons_append,List.nil_append]at hS
 refine Gn λw hS=>?_
 have hS:=jL.nil hS
 exact⟨_,⟨⟨_,rfl⟩,rfl⟩,SL.b4 (iC.put (wp:=wp) ⟨k.n,1,mark,after,id,table,[],0,false⟩ (.slice none 0 0) hS Xp) Xi⟩
theorem QA:SP 207 [dF wp] [.ob (iC wp k)] (λv post=>(∃q,v= .bool q)/\post=[.ob (iC wp k.shut)]):=by
 intro W F w hS;apply b5j;delta K2 aF bF fI b7 ai;(try simp only[app]at hS)
 obtain⟨rv,hS⟩:=iC.iff.1 hS
 unfold pc at hS
 unfold ik.shut
 refine bW (λh=>?_) (λh=>?_)
 ·rw[if_neg h]
  exact⟨_,⟨⟨_,rfl⟩,rfl⟩,SL.b4 (iC.put k rv hS Xp) Xi⟩
 ·rw[if_pos (by omega)]
  refine Gn λw hS=>?_
  exact⟨_,⟨⟨_,rfl⟩,rfl⟩,SL.b4 (iC.put {k with state:=3} rv hS Xp) Xi⟩
theorem b9y(mark:Int):SP 121 [dF wp,.int .i64 mark] [.ob (iC wp k)] (λv post=>(∃q,v= .bool q)/\post=[.ob (iC wp (k.low mark))]):=by
 intro W F w hS;apply b3l;delta JW aF bF a7 fI dI b7 ai;(try simp only[app]at hS)
 obtain⟨rv,hS⟩:=iC.iff.1 hS
 unfold pc at hS
 unfold ik.low
 refine bW (λh=>?_) (λh=>?_)
 ·rw[if_neg (by omega)]
  exact⟨_,⟨⟨_,rfl⟩,rfl⟩,SL.b4 (iC.put k rv hS Xp) Xi⟩
 ·refine bW (λh2=>?_) (λh2=>?_)
  ·rw[if_neg (by omega)]
   exact⟨_,⟨⟨_,rfl⟩,rfl⟩,SL.b4 (iC.put k rv hS Xp) Xi⟩
  ·rw[if_pos (by omega)]
   refine Gn λw hS=>?_
   exact⟨_,⟨⟨_,rfl⟩,rfl⟩,SL.b4 (iC.put {k with state:=4} rv hS Xp) Xi⟩
theorem qC(x:oP):SP 135 [dF wp,agg (iU x)] [.ob (iC wp k)] (dW (.bool (k.waits x.kind x.mark)) [.ob (iC wp k)]):=by
 intro W F w hS;apply b3s;delta J2 aF bF a7 dI b7 ai;(try simp only[app]at hS)
 obtain⟨rv,hS⟩:=iC.iff.1 hS
 unfold pc at hS
 refine zK hS λxb w hS=>?_
 unfold iU at hS
 unfold ik.waits
 refine Gn λw hS=>?_
 refine za (λh=>?_) (λh=>?_)
 ·refine bW (λh2=>?_) (λh2=>?_)
  ·refine bW (λh3=>?_) (λh3=>?_)
   ·rw[decide_eq_true (by omega)]
    exact⟨_,⟨rfl,rfl⟩,SL.b4 (iC.put k rv hS Xp) Xi⟩
   ·refine Gp ?_
    rw[show decide (x.kind=2/\x.mark=k.mark/\(k.state=1\/k.state=2))=decide (k.state=2) by rw[decide_eq_decide];omega]
    exact⟨_,⟨rfl,rfl⟩,SL.b4 (iC.put k rv hS Xp) Xi⟩
  ·rw[decide_eq_false (by omega)]
   exact⟨_,⟨rfl,rfl⟩,SL.b4 (iC.put k rv hS Xp) Xi⟩
 ·rw[decide_eq_false (by omega)]
  exact⟨_,⟨rfl,rfl⟩,SL.b4 (iC.put k rv hS Xp) Xi⟩
end
theorem IA:∀(A B:List Row) (k:Int),oG k (A++B)=(oG k A && oG (mw k A) B)
 | [],B,k=>by simp[oG,mw]
 | r::A,B,k=>by
  have e:mw k (r::A)=mw r.key A:=by
   unfold mw
   cases A with
   | nil=>rfl
   | cons y A=>rw[List.getLast?_cons_cons];rfl
  show (decide (k<r.key/\r.key<=1099511627776) && oG r.key (A++B))=((decide (k<r.key/\r.key<=1099511627776) && oG r.key A) && oG (mw k (r::A)) B)
  rw[IA A B r.key,e,Bool.and_assoc]
theorem a_c(a:Int)(A:List Row)(r:Row):mw a (A++[r])=r.key:=by
 unfold mw
 rw[List.getLast?_append];simp
theorem Qx(wp:Nat)(k:ik)(H:bw)(v:Value)(C:List Row)(hv:gi H 2 v C.length (C.map iq).flatten)(hn:C.length<=1000000):
  SP 123 [dF wp,v] [.ob (iC wp k),.mem H] (λu post=>(∃q,u= .bool q)/\post=[.ob (iC wp (k.fill C)),.mem H]):=by
 intro W F w hS;apply b3n;delta JY aF bF a7 fI dI b7 ai cI;(try simp only[app]at hS)
 obtain⟨rv,hS⟩:=iC.iff.1 hS
 have g9:∀{w:World} {l:List Chunk},k.vP C->SL W l w->ml [.pt wp (pc k rv) 209,jL rv k.rows,.mem H] l->True:=λ_ _ _=>trivial
 clear g9
 unfold pc at hS
 have g9:∀{w:World},k.vP C->SL W (.pt wp [.int .i64 k.mark,.int .i64 k.after,.int .i64 k.id,.int .i64 k.table,rv,.int .i64 k.h_,.bool k.last,.int .i64 k.n,.int .i64 k.state] 209::jL rv k.rows::.mem H::F) w->∃post,((∃q,Value.bool false= .bool q)/\post=[.ob (iC wp (k.fill C)),.mem H])/\SL W (app post F) w:=λh hS=>by
  rw[show k.fill C=k from if_pos h]
  exact⟨_,⟨⟨_,rfl⟩,rfl⟩,SL.b4 (iC.put k rv hS Xp) Xi⟩
 refine Gp ?_
 refine za (λh=>g9 (.inl h) hS) (λh1=>?_)
 refine zo hv ?_
 refine Gp ?_
 refine za (λh=>g9 (.inr (.inl (by omega))) hS) (λh2=>?_)
 refine Gp ?_
 refine zo hv ?_
 refine⟨λus w=>∃i:Nat,us=[.int .i64 (mw k.after (C.take i)),.int .i64 i]/\i<=C.length/\oG k.after (C.take i)=true/\SL W (.pt wp [.int .i64 k.mark,.int .i64 k.after,.int .i64 k.id,.int .i64 k.table,rv,.int .i64 k.h_,.bool k.last,.int .i64 k.n,.int .i64 k.state] 209::jL rv k.rows::.mem H::F) w,
  λus _=>match us with|[_,.int _ i]=>(C.length-i).toNat|_=>0,⟨0,rfl,by omega,rfl,hS⟩,?_⟩
 clear hS
 rintro v5 v29 w ⟨i,cW,hi,hr,hS⟩
 cases cW
 refine bW (λh=>?_) (λh=>?_)
 ·have b3:i<C.length:=by omega
  have hx:C[i]?=some C[i]:=List.getElem?_eq_getElem b3
  have kP:C.take (i+1)=C.take i++[C[i]]:=List.take_succ_eq_append_getElem b3
  have iz:oG k.after C=true->oG k.after (C.take (i+1))=true:=λh=>by
   rw[<- List.take_append_drop (i+1) C,IA,Bool.and_eq_true]at h;exact h.1
  have ry:oG k.after (C.take (i+1))=decide (mw k.after (C.take i)<C[i].key/\C[i].key<=1099511627776):=by
   rw[kP,IA,hr];unfold oG;simp[oG]
  refine zS hS Xh jY hv hx b3 ?_
  generalize C[i]=r at *
  refine Gb λxb w hS=>?_
  have nI:∀{w:World},¬(mw k.after (C.take i)<r.key/\r.key<=1099511627776)->SL W (.pt xb (iq r) 52::.pt wp [.int .i64 k.mark,.int .i64 k.after,.int .i64 k.id,.int .i64 k.table,rv,.int .i64 k.h_,.bool k.last,.int .i64 k.n,.int .i64 k.state] 209::jL rv k.rows::.mem H::F) w->∃post,((∃q,Value.bool false= .bool q)/\post=[.ob (iC wp (k.fill C)),.mem H])/\SL W (app post F) w:=λhb hS=>by
   refine g9 (.inr (.inr ?_)) (aR hS)
   cases hq:oG k.after C with
   | false=>rfl
   | true=>rw[iz hq]at ry;exact absurd (of_decide_eq_true ry.symm) hb
  have P':=@nI
  clear g9 nI
  refine za (λh=>P' (by omega) hS) (λh3=>?_)
  refine Gp ?_
  refine za (λh=>P' (by omega) hS) (λh4=>?_)
  refine Gp ?_
  refine⟨⟨i+1,?_,by omega,?_,aR hS⟩,by dsimp only;omega⟩
  ·rw[kP,a_c]
  ·rw[ry];exact decide_eq_true (by omega)
 ·have he:C.take i=C:=List.take_of_length_le (by omega)
  rw[he]at hr
  have b5:¬k.vP C:=by
   rintro (h|h|h)
   ·exact h1 h
   ·omega
   ·rw[hr]at h;cases h
  rw[show k.fill C={k with state:=2,rows:=C,h_:=mw k.after C,last:=decide ((C.length:Int)<k.n)} from if_neg b5]
  clear g9
  refine Cc (Ob (λv0 w R h=>Jc v0 w R h) rfl (by decide) hv (pT uV C) (by omega) (by omega)) ?_;clear hS
  rintro u post rfl w hS
  try simp only[app]at hS
  have hS:SL W (jL u C::_) w:=hS
  have o1:u.oneCell'=true:=a_.one hS
  refine Gn λw hS=>?_
  refine Cg (a_f H v C k.after k.n hv hn) λw hS=>?_
  exact⟨_,⟨⟨_,rfl⟩,rfl⟩,SL.b4 (iC.put (wp:=wp) {k with state:=2,rows:=C,h_:=mw k.after C,last:=decide ((C.length:Int)<k.n)} u hS Xp) Xi⟩
theorem Xk{D:List Row}{i:Nat}(hi:i<D.length)(x:Row)(rest:List Value):((D.map iq).flatten++rest).take (0+i*2)++iq x++((D.map iq).flatten++rest).drop (0+i*2+2)=((D.set i x).map iq).flatten++rest:=by
 have hl:((D.map iq).flatten).length=D.length*2:=mH jY D
 rw[Nat.zero_add,List.take_append_of_le_length (by omega),List.drop_append_of_le_length (by omega),show i*2+2=(i+1)*2 by omega,sC jY,rT jY,List.set_eq_take_append_cons_drop,if_pos hi]
 simp
theorem Yu(cb:Nat)(c:ig)(r:Row):SP 262 [agg (iq r),dF cb] [.pt cb (jA c) 82] (dW (.bool (decide (r.key=c.key))) [.pt cb (jA c) 82]):=by
 intro W F w hS;apply b6q;delta LJ a7;(try simp only[app]at hS)
 refine zK hS λxb w hS=>?_
 unfold iq at hS
 unfold jA at hS ⊢
 refine Gp ?_
 (exact eF hS)
theorem QT(cb:Nat)(c:ig)(v:Value)(C:List Row)(hn:C.length<=1000000):
  SP 261 [v,.func (.func 262) #[] #[dF cb]] [.pt cb (jA c) 82,jL v C] (λu post=>post=[.pt cb (jA c) 82,jL u (C.filter λr=>!decide (r.key=c.key))]):=by
 intro W F w hS;apply b6p;delta LI aF c_ ai cI;(try simp only[app]at hS)
 have hC:=RZ (t:=52) jY rfl (λv0 v1 w R h=>b7q v0 v1 w R h) (λr=>Yu cb c r) v C (by omega)
 simp only[List.cons_append,List.nil_append]at hC
 refine Cg (hC) λw hS=>?_
 cases hf:C.findIdx? (λr=>decide (r.key=c.key)) with
 | none=>
  simp only[oy]
  refine za (λ_=>?_) (λh=>absurd trivial h)
  have e:C.filter (λr=>!decide (r.key=c.key))=C:=List.filter_eq_self.2 λr hr=>by
   have:=List.findIdx?_eq_none_iff.1 hf r hr
   rw[this];rfl
  rw[e]
  exact⟨_,rfl,aR hS⟩
 | some i0=>
  obtain⟨AE,D1,wa⟩:=List.findIdx?_eq_some_iff_getElem.1 hf
  have tz:(C.take (i0+1)).filter (λr=>!decide (r.key=c.key))=C.take i0:=by
   rw[List.take_succ_eq_append_getElem AE,List.filter_append,List.filter_eq_self.2 λr hr=>by
    obtain⟨j,hj,rfl⟩:=List.getElem_of_mem hr
    rw[List.length_take]at hj
    rw[List.getElem_take]
    have:=wa j (by omega)
    simpa using this]
   simp at D1
   simp[D1]
  simp only[oy]
  refine za (λh=>by omega) (λ_=>?_)
  rcases a_.open (SL.b4 hS (t:=jL v C::.pt cb (jA c) 82::F) Xi) with ⟨_,h0,_⟩|⟨b,cap,rest,rfl,vY,hlen,nc,hS⟩
  ·omega
  refine Gp ?_
  refine⟨λus w=>∃(i j:Nat) (D:List Row),us=[.int .i64 i,.int .i64 j]/\i<j/\j<=C.length/\D.length=C.length/\D.take i=(C.take j).filter (λr=>!decide (r.key=c.key))/\D.drop j=C.drop j/\SL W (.pt b ((D.map iq).flatten++rest) 52::.pt cb (jA c) 82::F) w,
   λus _=>match us with|[_,.int _ j]=>(C.length-j).toNat|_=>0,⟨i0,i0+1,C,rfl,by omega,by omega,rfl,tz.symm,rfl,aR hS⟩,?_⟩
  clear hS hf AE D1 wa tz
  rintro v5 v6 w ⟨i,j,D,cW,vg,hj,hD,ht,hd,hS⟩
  cases cW
  refine bW (λh=>?_) (λh=>?_)
  ·have jX:j<C.length:=by omega
   have Rj:j<D.length:=by omega
   have hxe:D[j]=C[j]:=by
    have h1:(D.drop j)[0]?=(C.drop j)[0]?:=by rw[hd]
    rw[List.getElem?_drop,List.getElem?_drop,Nat.add_zero,List.getElem?_eq_getElem Rj,List.getElem?_eq_getElem jX]at h1
    simpa using h1
   have kP:C.take (j+1)=C.take j++[C[j]]:=List.take_succ_eq_append_getElem jX
   have B4:D.drop (j+1)=C.drop (j+1):=by
    rw[<- List.drop_drop,<- List.drop_drop,hd]
   have mB:∀q u,(iq D[j])[q]?=some u->((D.map iq).flatten++rest)[0+j*2+q]?=some u:=λq u hu=>by
    rw[Nat.zero_add]
    have:=rS jY D j q D[j] u (List.getElem?_eq_getElem Rj) hu
    rw[List.getElem?_append_left (List.getElem?_eq_some_iff.1 this).1];exact this
   refine zB jX ?_
   refine Z3 hS Xh rfl mB ?_
   rw[hxe]
   generalize C[j]=r at *
   refine Gb λxb w hS=>?_
   refine QE (args':=[agg (iq r),dF cb]) rfl (Yu cb c r) rfl hS Xp ?_
   clear hS
   rintro _ post ⟨rfl,rfl⟩ w hS
   (try simp only[app]at hS);refine Gp ?_
   refine zA (λhq=>?_) (λhq=>?_)
   ·refine yj hS Xh rfl ?_
    refine zB (show i<C.length by omega) ?_
    refine QJ hS Xu rfl ?_ (uV _) λw hS=>?_
    ·rw[List.length_append,mH jY];omega
    rw[Xk (by omega)]at hS
    refine Gp ?_
    refine⟨⟨i+1,j+1,D.set i r,rfl,by omega,by omega,by rw[List.length_set];exact hD,?_,?_,aR hS⟩,by dsimp only;omega⟩
    ·rw[kP,List.filter_append,<- ht]
     have:([r].filter λr=>!decide (r.key=c.key))=[r]:=by simp[hq]
     rw[this,List.take_succ_eq_append_getElem (by rw[List.length_set];omega),List.getElem_set_self,List.take_set_of_le (Nat.le_refl _)]
    ·rw[List.drop_set_of_lt (by omega)];exact B4
   ·refine Gp ?_
    refine⟨⟨i,j+1,D,rfl,by omega,by omega,hD,?_,B4,aR hS⟩,by dsimp only;omega⟩
    rw[kP,List.filter_append,<- ht]
    have:([r].filter λr=>!decide (r.key=c.key))=[]:=by simp[hq]
    rw[this,List.append_nil]
  ·have hjc:j=C.length:=by omega
   subst hjc
   rw[List.take_length]at ht
   rw[<- ht]
   have hl:((D.map iq).flatten).length=D.length*2:=mH jY D
   refine⟨some ⟨b,0,none⟩,C.length,cap,i,C.length,cap,rfl,rfl,rfl,⟨_,rfl⟩,by omega,by omega,by omega,?_⟩
   rw[if_neg (show ¬cap=i by omega)]
   simp only[Option.map_some,Addr.add_lit,Nat.zero_add]
   have hA:((D.map iq).flatten.take (i*2)).length=i*2:=by rw[List.length_take,hl];omega
   have e2:((D.map iq).flatten++rest).take (i*2)++b_ [.int .i64 0,.string ⟨#[]⟩] (C.length-i)++((D.map iq).flatten++rest).drop (i*2+(b_ [.int .i64 0,.string ⟨#[]⟩] (C.length-i)).length)=(D.map iq).flatten.take (i*2)++(b_ [.int .i64 0,.string ⟨#[]⟩] (C.length-i)++rest):=by
    have:=Oc ((D.map iq).flatten.take (i*2)) ((D.map iq).flatten.drop (i*2)) (b_ [.int .i64 0,.string ⟨#[]⟩] (C.length-i)) rest (by rw[List.length_drop,hl,nO];show _=(C.length-i)*2;omega)
    rw[hA,<- List.append_assoc ((D.map iq).flatten.take (i*2)) ((D.map iq).flatten.drop (i*2)) rest,List.take_append_drop]at this
    exact this
   refine QF (tt:=52) (z:=[.int .i64 0,.string ⟨#[]⟩]) (zv:=.agg #[.int .i64 0,.string ⟨#[]⟩]) (n:=C.length-i) (o:=i*2) (cs:=(D.map iq).flatten++rest) (l':=.pt b ((D.map iq).flatten.take (i*2)++(b_ [.int .i64 0,.string ⟨#[]⟩] (C.length-i)++rest)) 52::.pt cb (jA c) 82::F) hS ?_ Tryz.underlying53 (λw=>by kernel_rfl) rfl (by simp[Value.oneCell']) (by omega) (by rw[List.length_append,hl];show i*2+(C.length-i)*2<=_;omega) ?_
   ·rw[show (C.length-i)*([Value.int .i64 0,Value.string ⟨#[]⟩]:List Value).length=(b_ [.int .i64 0,.string ⟨#[]⟩] (C.length-i)).length from (nO _ _).symm,e2]
    exact kr.hd
   ·intro u w hS
    refine⟨some ⟨b,0,none⟩,C.length,cap,0,i,cap,rfl,rfl,⟨_,rfl⟩,rfl,by omega,by omega,by omega,?_⟩
    rw[if_neg (show ¬cap=0 by omega)]
    simp only[Option.map_some,Addr.add_lit,Nat.zero_mul,Nat.add_zero,Nat.sub_zero]
    have hS:=a_.mk (n:=i) (cap:=cap) (sz:=2) (rest:=b_ [.int .i64 0,.string ⟨#[]⟩] (C.length-i)++rest) (by omega) hA (by rw[List.length_append,nc,nO];show (C.length-i)*2+_=_;omega) hS
    rw[sC jY]at hS
    have b3:(D.take i).length=i:=by rw[List.length_take];omega
    refine⟨_,rfl,?_⟩
    have hS:SL W (jL (.slice (some ⟨b,0,none⟩) i cap) (D.take i)::.pt cb (jA c) 82::F) w:=by unfold jL;rw[b3];exact hS
    exact aR hS
theorem awa(t:Int)(l:List ig)(i:Nat)(h:i<l.length)(r:Row):nx t (l.take (i+1)) r=(nx t (l.take i) r || decide (l[i].table=t/\l[i].key=r.key)):=by
 unfold nx
 rw[List.take_succ_eq_append_getElem h,List.any_append];simp
theorem b91(wp:Nat)(k:ik)(H:bw)(v:Value)(l:List ig)(hv:gi H 4 v l.length (l.map jA).flatten)(hn:k.rows.length<=1000000)(hl:l.length<=140737488351232):
  SP 199 [dF wp,v] [.ob (iC wp k),.mem H] (λu post=>(∃q,u= .int .i64 q)/\post=[.ob (iC wp (k.vv l)),.mem H]):=by
 intro W F w hS;apply b5b;delta KU aF bF a7 dI ai cI;(try simp only[app]at hS)
 obtain⟨rv,hS⟩:=iC.iff.1 hS
 unfold pc at hS
 unfold ik.vv
 refine bW (λh=>?_) (λh=>?_)
 ·rw[if_neg h]
  exact⟨_,⟨⟨_,rfl⟩,rfl⟩,SL.b4 (iC.put k rv hS Xp) Xi⟩
 rw[if_pos (by omega)]
 refine Gp ?_
 refine zt hS (v:=rv) (t:=52) (sz:=2) (n:=k.rows.length) (cells:=(k.rows.map iq).flatten) Xh ?_
 refine zo hv ?_
 refine⟨λus w=>∃(i:Nat) (ru:Value),us=[.int .i64 i]/\i<=l.length/\SL W (.pt wp [.int .i64 k.mark,.int .i64 k.after,.int .i64 k.id,.int .i64 k.table,ru,.int .i64 k.h_,.bool k.last,.int .i64 k.n,.int .i64 k.state] 209::jL ru (k.rows.filter λr=>!nx k.table (l.take i) r)::.mem H::F) w,
  λus _=>match us with|[.int _ i]=>(l.length-i).toNat|_=>0,⟨0,rv,rfl,by omega,?_⟩,?_⟩
 ·have:(k.rows.filter λr=>!nx k.table (l.take 0) r)=k.rows:=List.filter_eq_self.2 λr _=>by simp[nx]
  rw[this];exact aR hS
 clear hS
 rintro E9 w ⟨i,ru,cW,hi,hS⟩
 cases cW
 refine bW (λh=>?_) (λh=>?_)
 ·have b3:i<l.length:=by omega
  have hx:l[i]?=some l[i]:=List.getElem?_eq_getElem b3
  have pw:(k.rows.filter λr=>!nx k.table (l.take i) r).length<=k.rows.length:=List.length_filter_le _ _
  refine zS hS Xh m0 hv hx b3 ?_
  have lL:∀r,nx k.table (l.take (i+1)) r=(nx k.table (l.take i) r || decide (l[i].table=k.table/\l[i].key=r.key)):=awa k.table l i b3
  generalize l[i]=c at *
  refine Gb λxb w hS=>?_
  refine za (λh2=>?_) (λh2=>?_)
  ·refine Gp ?_
   refine Cc (QT xb c ru (k.rows.filter λr=>!nx k.table (l.take i) r) (by omega)) ?_;clear hS
   rintro u post rfl w hS
   try simp only[app]at hS
   have hS:SL W (jL u ((k.rows.filter λr=>!nx k.table (l.take i) r).filter λr=>!decide (r.key=c.key))::.pt xb (jA c) 82::.pt wp [.int .i64 k.mark,.int .i64 k.after,.int .i64 k.id,.int .i64 k.table,ru,.int .i64 k.h_,.bool k.last,.int .i64 k.n,.int .i64 k.state] 209::.mem H::F) w:=aR hS
   have o1:u.oneCell'=true:=a_.one hS
   refine Gn λw hS=>?_
   refine⟨⟨i+1,u,rfl,by omega,?_⟩,by dsimp only;omega⟩
   have e:(k.rows.filter λr=>!nx k.table (l.take (i+1)) r)=((k.rows.filter λr=>!nx k.table (l.take i) r).filter λr=>!decide (r.key=c.key)):=by
    rw[List.filter_filter]
    refine List.filter_congr λr _=>?_
    rw[lL r]
    have:decide (c.table=k.table/\c.key=r.key)=decide (r.key=c.key):=by rw[decide_eq_decide];omega
    rw[this]
    cases nx k.table (l.take i) r<;>cases decide (r.key=c.key)<;>rfl
   rw[e]
   exact aR hS
  ·refine Gp ?_
   refine⟨⟨i+1,ru,rfl,by omega,?_⟩,by dsimp only;omega⟩
   have e:(k.rows.filter λr=>!nx k.table (l.take (i+1)) r)=(k.rows.filter λr=>!nx k.table (l.take i) r):=by
    refine List.filter_congr λr _=>?_
    rw[lL r,decide_eq_false (by omega),Bool.or_false]
   rw[e]
   exact aR hS
 ·have:l.take i=l:=List.take_of_length_le (by omega)
  rw[this]at hS
  have pw:(k.rows.filter λr=>!nx k.table l r).length<=k.rows.length:=List.length_filter_le _ _
  refine Gp ?_
  refine zt hS (v:=ru) (t:=52) (sz:=2) (n:=(k.rows.filter λr=>!nx k.table l r).length) (cells:=((k.rows.filter λr=>!nx k.table l r).map iq).flatten) Xh ?_
  refine Gp ?_
  exact⟨_,⟨⟨_,rfl⟩,rfl⟩,SL.b4 (iC.put {k with rows:=k.rows.filter λr=>!nx k.table l r} ru hS Xp) Xi⟩
abbrev AV:sV:=⟨0,.slice none 0 0,.slice none 0 0⟩
def wG(wp:Nat)(k:ik)(H:bw)(mark aI:Int)(u:Value)(post:List Chunk):Prop:=match (k.high mark aI).2 with
 | none=>u= .tuple #[agg (nF AV),.bool false]/\post=[.ob (iC wp k),.mem H]
 | some t=>∃(x:sV) (H':bw),H.le H'/\u= .tuple #[agg (nF x),.bool true]/\tQ H' x t/\post=[.ob (iC wp (ko k.n)),.mem H']
theorem Ij{a:Int}{u v:Value}(h1:u.oneCell'=true)(h2:v.oneCell'=true):∀x∈[Value.int .i64 a,u,v],x.oneCell'=true:=by
 intro x hx
 simp only[List.mem_cons,List.not_mem_nil,or_false]at hx
 rcases hx with rfl|rfl|rfl
 ·rfl
 ·exact h1
 ·exact h2
theorem Z9(wp:Nat)(k:ik)(H:bw)(mark aI:Int)(hn:k.rows.length<=1000000):SP 200 [dF wp,.int .i64 mark,.int .i64 aI] [.ob (iC wp k),.mem H] (wG wp k H mark aI):=by
 intro W F w hS;apply b5c;delta KV aF bF a7 fI aW dI ai cI bI;(try simp only[app]at hS)
 obtain⟨rv,hS⟩:=iC.iff.1 hS
 have g9:∀{w:World} {rb:Nat},k.vf mark aI->SL W (.pt rb [.int .i64 0,.slice none 0 0,.slice none 0 0] 100::.pt wp (pc k rv) 209::jL rv k.rows::.mem H::F) w->∃post,wG wp k H mark aI (.tuple #[agg (nF AV),.bool false]) post/\SL W (app post F) w:=λh hS=>by
  have e:(k.high mark aI).2=none:=by unfold ik.high;rw[if_pos h]
  refine⟨[.ob (iC wp k),.mem H],?_,SL.b4 (iC.put k rv hS Xp) Xi⟩
  unfold wG;rw[e];exact⟨rfl,rfl⟩
 refine Gb λrb w hS=>?_
 refine za (λh=>?_) (λh1=>?_)
 ·refine Gn λw hS=>?_
  exact g9 (.inl h) hS
 refine bW (λh=>?_) (λh2=>?_)
 ·refine Gn λw hS=>?_
  exact g9 (.inr (.inl h)) hS
 refine bW (λh=>?_) (λh3=>?_)
 ·refine Gn λw hS=>?_
  exact g9 (.inr (.inr (by omega))) hS
 refine bW (λh=>?_) (λh4=>?_)
 ·refine Gn λw hS=>?_
  exact g9 (.inr (.inr (by omega))) hS
 clear g9
 have b5:¬k.vf mark aI:=by unfold ik.vf;omega
 have e:(k.high mark aI).2=some ⟨aI,mv k aI,[uD k]⟩:=by unfold ik.high;rw[if_neg b5]
 refine⟨λus w=>∃(b nb:Nat),us=[dF b]/\SL W (.pt b [.int .i64 aI,.slice none 0 0,.slice (some ⟨nb,0,none⟩) 1 1] 100::.pt nb [.int .i64 2,.int .i64 k.id,.int .i64 0,.int .i64 0,.int .i64 0,.int .i64 k.h_,.bool k.last] 295::.pt rb [.int .i64 0,.slice none 0 0,.slice none 0 0] 100::.pt wp (pc k rv) 209::jL rv k.rows::.mem H::F) w,?_,?_⟩
 ·refine Gn λw hS=>?_
  refine⟨?_,?_⟩
  ·refine Gb λnb w hS=>?_
   refine Gb λb w hS=>?_
   exact⟨b,nb,rfl,aR hS⟩
  ·refine Gb λb w hS=>?_
   refine Gb λnb w hS=>?_
   exact⟨b,nb,rfl,aR hS⟩
 clear hS
 rintro v8 w ⟨b,nb,cW,hS⟩
 cases cW
 refine Gp ?_
 refine zt hS (v:=rv) (t:=52) (sz:=2) (n:=k.rows.length) (cells:=(k.rows.map iq).flatten) Xh ?_
 have Hm:(mv k aI).length=k.rows.length:=List.length_map ..
 have hS:SL W (.ob (a_ (.slice none 0 0) 123 5 ((mv k aI).take 0).length (((mv k aI).take 0).map sy).flatten)::_) w:=a_.nil hS
 refine⟨λus w=>∃(i:Nat) (ov:Value),us=[.int .i64 i]/\i<=k.rows.length/\SL W (.ob (a_ ov 123 5 ((mv k aI).take i).length (((mv k aI).take i).map sy).flatten)::.pt b [.int .i64 aI,ov,.slice (some ⟨nb,0,none⟩) 1 1] 100::.pt nb [.int .i64 2,.int .i64 k.id,.int .i64 0,.int .i64 0,.int .i64 0,.int .i64 k.h_,.bool k.last] 295::.pt rb [.int .i64 0,.slice none 0 0,.slice none 0 0] 100::.pt wp (pc k rv) 209::jL rv k.rows::.mem H::F) w,
  λus _=>match us with|[.int _ i]=>(k.rows.length-i).toNat|_=>0,⟨0,.slice none 0 0,rfl,by omega,aR hS⟩,?_⟩
 clear hS
 rintro Uz w ⟨i,ov,cW,hi,hS⟩
 cases cW
 refine bW (λh=>?_) (λh=>?_)
 ·have b3:i<k.rows.length:=by omega
  have hx:k.rows[i]?=some k.rows[i]:=List.getElem?_eq_getElem b3
  have iX:(mv k aI)[i]'(by omega)=⟨aI,k.table,k.rows[i].key,false,k.rows[i].val⟩:=by unfold mv;rw[List.getElem_map]
  have kP:(mv k aI).take (i+1)=(mv k aI).take i++[⟨aI,k.table,k.rows[i].key,false,k.rows[i].val⟩]:=by rw[List.take_succ_eq_append_getElem (by omega),iX]
  have Ri:((mv k aI).take i).length=i:=by rw[List.length_take];omega
  refine zV hS (v:=rv) (t:=52) Xh jY hx b3 ?_
  generalize k.rows[i]=r at *
  refine Gb λxb w hS=>?_
  refine Gb λyb w hS=>?_
  refine yy (n:=((mv k aI).take i).length) (xs:=(mv k aI).take i) (y:=⟨aI,k.table,r.key,false,r.val⟩) (enc:=sy) hS Xr Xh ON (λx=>OO x) rfl (by omega) (by omega) λv2 w hS=>?_
  have hS:=hS.sS (x:=(⟨aI,k.table,r.key,false,r.val⟩:pd))
  rw[<- kP]at hS
  have o1:v2.oneCell'=true:=a_.one hS
  refine Gn λw hS=>?_
  exact⟨⟨i+1,v2,rfl,by omega,aR hS⟩,by dsimp only;omega⟩
 ·have he:(mv k aI).take i=mv k aI:=List.take_of_length_le (by omega)
  rw[he]at hS
  have o1:ov.oneCell'=true:=a_.one hS
  refine Gp ?_
  refine QJ hS Xu rfl (by simp) (by simp[Value.oneCell']) λw hS=>?_
  simp only[List.take,List.drop,List.cons_append,List.nil_append]at hS
  refine Gn λw hS=>?_
  refine zD (vs:=[.int .i64 aI,ov,.slice (some ⟨nb,0,none⟩) 1 1]) hS Xu rfl rfl (Ij o1 rfl) λw hS=>?_
  refine Gp ?_
  obtain⟨H1,iw,sD,hS⟩:=zE (H:=H) (v:=ov) hS Xp
  obtain⟨H2,iB,m_,hS⟩:=SL.CU (sz:=7) (H:=H1) (b:=nb) hS Xp rfl
  have hS:=jL.nil hS
  have hS:=iC.put (wp:=wp) (ko k.n) (.slice none 0 0) hS Xp
  refine⟨[.ob (iC wp (ko k.n)),.mem H2],?_,aR hS⟩
  unfold wG;rw[e]
  exact⟨⟨aI,ov,.slice (some ⟨nb,0,none⟩) 1 1⟩,H2,bw.le_trans iw iB,rfl,⟨rfl,sD.mono iB,m_⟩,rfl⟩
end Go.Proofs.YtfenmffiidchcaaGreat
