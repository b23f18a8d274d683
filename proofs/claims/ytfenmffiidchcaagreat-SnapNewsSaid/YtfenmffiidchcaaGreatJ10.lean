/-
  Texts of the proof, joined: SnpM, WinS, WinS2.
-/
import Derived.Test.YtfenmffiidchcaaGreatJ9
import Derived.Test.YtfenmffiidchcaaGreatQVcW
namespace Go.Proofs.YtfenmffiidchcaaGreat
set_option linter.unusedVariables false
open Go.RowKit
theorem nodup_le:∀(n:Nat) (l:List Int),l.Nodup→(∀x∈l,1≤x∧x≤(n:Int))→l.length≤n
 | 0,l,_,h=>by
  cases l with
  | nil=>exact Nat.le_refl _
  | cons x l=>have:=h x (.head _);omega
 | n+1,l,hd,h=>by
  by_cases hm:((n+1:Nat):Int)∈l
  ·have h1:=nodup_le n (l.erase ((n+1:Nat):Int)) (hd.erase _) λx hx=>by
    have h2:=hd.mem_erase_iff.1 hx
    have:=h x h2.2
    have:=h2.1
    omega
   rw[List.length_erase_of_mem hm]at h1
   omega
  ·have:=nodup_le n l hd λx hx=>by
    have:=h x hx
    have:x≠((n+1:Nat):Int):=λe=>hm (e▸hx)
    omega
   omega
theorem PDrr.Ok.len{d:PDrr}(h:d.Ok):d.l.length≤64:=by
 have:=nodup_le 64 (d.l.map Prod.fst) h.nd λx hx=>by
  obtain⟨m,hm,rfl⟩:=List.mem_map.1 hx
  have:=h.w m hm
  omega
 rw[List.length_map]at this;exact this
theorem drr0_ok:drr0.Ok:=⟨by decide,by decide,by decide,by decide,λ_=>rfl,by simp,by simp⟩
theorem PDrr.Ok.add{d:PDrr}(h:d.Ok)(id w:Int):(d.add id w).Ok:=by
 unfold PDrr.add
 split
 ·exact h
 ·rename_i hr
  split
  ·exact h
  ·rename_i hf
   have h1:=h.at1
   refine⟨h.at0,by show d.at_<((d.l++[(id,w)]).length:Nat);rw[List.length_append];simp;omega,h.left0,h.left1,h.neg,λm hm=>?_,?_⟩
   ·rcases List.mem_append.1 hm with hm|hm
    ·exact h.w m hm
    ·rw[List.mem_singleton.1 hm];simp only;omega
   ·show ((d.l++[(id,w)]).map Prod.fst).Nodup
    rw[List.map_append,List.nodup_append]
    refine⟨h.nd,by simp,λa ha b hb=>?_⟩
    obtain⟨m,hm,rfl⟩:=List.mem_map.1 ha
    have hb:b=id:=by simpa using hb
    subst hb
    have:=List.findIdx?_eq_none_iff.1 hf m hm
    simpa using this
theorem PDrr.Ok.del{d:PDrr}(h:d.Ok)(id:Int):(d.del id).Ok:=by
 unfold PDrr.del
 split
 ·exact h
 ·rename_i i hf
  have hi:i<d.l.length:=(List.findIdx?_eq_some_iff_getElem.1 hf).1
  have h0:=h.at0
  have h1:=h.at1
  have hl:(d.l.eraseIdx i).length=d.l.length-1:=by rw[List.length_eraseIdx,if_pos hi]
  refine⟨?_,?_,?_,?_,λhn=>?_,λm hm=>h.w m (List.mem_of_mem_eraseIdx hm),?_⟩
  ·simp only;split<;>omega
  ·simp only[hl];split<;>omega
  ·simp only;split
   ·exact Int.le_refl _
   ·exact h.left0
  ·simp only;split
   ·decide
   ·exact h.left1
  ·simp only at hn ⊢
   split
   ·rfl
   ·split at hn
    ·omega
    ·exact h.neg hn
  ·simp only
   exact h.nd.sublist ((List.eraseIdx_sublist _ _).map _)
theorem PDrr.Ok.pl{d:PDrr}(h:d.Ok)(hne:d.l≠[]):0≤d.place∧d.place<d.l.length∧d.memb∈d.l:=by
 have hpl:0≤d.place∧d.place<d.l.length:=by
  have:=h.neg
  have:=h.at0
  have:=h.at1
  have:0<d.l.length:=List.length_pos_iff.2 hne
  unfold PDrr.place
  split
  ·split<;>omega
  ·omega
 refine⟨hpl.1,hpl.2,?_⟩
 unfold PDrr.memb
 rw[List.getElem?_eq_getElem (show d.place.toNat<d.l.length by omega)]
 exact List.getElem_mem _
theorem PDrr.Ok.next{d:PDrr}(h:d.Ok):d.next.1.Ok:=by
 unfold PDrr.next
 split
 ·exact h
 ·rename_i hne
  obtain⟨h1,h2,h3⟩:=h.pl hne
  have hw:=h.w _ h3
  have hl0:=h.left0
  have hl1:=h.left1
  refine⟨by simp only;omega,by simp only;omega,?_,?_,λhn=>?_,h.w,h.nd⟩
  ·simp only;split<;>omega
  ·simp only;split<;>omega
  ·simp only at hn;omega
theorem next_l(d:PDrr):d.next.1.l=d.l:=by
 unfold PDrr.next
 split<;>rfl
theorem dels_ok:∀(L:List Rq) {d:PDrr},d.Ok→(L.foldl (λd r=>d.del r.id) d).Ok
 | [],_,h=>h
 | r::L,_,h=>dels_ok L (h.del r.id)
theorem adds_ok:∀(L:List Rq) {d:PDrr},d.Ok→(L.foldl (λd r=>d.add r.id r.weight) d).Ok
 | [],_,h=>h
 | r::L,_,h=>adds_ok L (h.add r.id r.weight)
theorem rowD_ok{d:PDrr}(h:d.Ok)(L:List Rq):(rowD d L).Ok:=adds_ok _ (dels_ok _ h)
theorem del_sub(d:PDrr)(id:Int):∀m∈(d.del id).l,m∈d.l:=λm hm=>by
 unfold PDrr.del at hm
 split at hm
 ·exact hm
 ·exact List.mem_of_mem_eraseIdx hm
theorem dels_sub:∀(L:List Rq) (d:PDrr),∀m∈(L.foldl (λd r=>d.del r.id) d).l,m∈d.l
 | [],_,m,h=>h
 | r::L,d,m,h=>del_sub d r.id m (dels_sub L (d.del r.id) m h)
theorem add_sub(d:PDrr)(id w:Int):∀m∈(d.add id w).l,m∈d.l∨m=(id,w):=λm hm=>by
 unfold PDrr.add at hm
 split at hm
 ·exact .inl hm
 ·split at hm
  ·exact .inl hm
  ·rcases List.mem_append.1 hm with hm|hm
   ·exact .inl hm
   ·exact .inr (List.mem_singleton.1 hm)
theorem adds_sub:∀(L:List Rq) (d:PDrr),∀m∈(L.foldl (λd r=>d.add r.id r.weight) d).l,m∈d.l∨∃r∈L,m=(r.id,r.weight)
 | [],_,m,h=>.inl h
 | r::L,d,m,h=>by
  rcases adds_sub L (d.add r.id r.weight) m h with h|⟨x,hx,e⟩
  ·rcases add_sub d r.id r.weight m h with h|h
   ·exact .inl h
   ·exact .inr ⟨r,.head _,h⟩
  ·exact .inr ⟨x,.tail _ hx,e⟩
theorem rowD_sub(d:PDrr)(L:List Rq):∀m∈(rowD d L).l,m∈d.l∨∃r∈openR L,m=(r.id,r.weight):=λm hm=>by
 rcases adds_sub _ _ m hm with h|h
 ·exact .inl (dels_sub _ _ m h)
 ·exact .inr h
theorem MayP.at{L:List Rq}(h:MayP L){r:Rq}(hr:r∈L):1≤r.id∧r.id≤L.length∧r.id≤64∧1≤r.weight∧r.weight≤8∧0≤r.table∧r.table<8∧0≤r.cursor∧r.cursor≤1099511627776:=by
 obtain⟨i,hi,rfl⟩:=List.getElem_of_mem hr
 obtain⟨⟨h1,h2,h3,h4,h5,h6,h7,h8,h9,h10,h11⟩,_⟩:=h.2 i hi
 have:=h.1
 exact⟨by omega,by omega,by omega,h4,h5,h2,h3,h8,h9⟩
structure PSnap.Good(p:PSnap)(N:Nat):Prop where
 reqs:MayP p.m.reqs
 t1:1≤p.m.tables∧p.m.tables≤8
 at0:0≤p.m.at_∧p.m.at_≤1099511627776
 wn:p.m.win.n≤64
 rows:p.m.win.rows.length≤64
 wid:0≤p.m.win.id∧p.m.win.id≤64
 d:p.d.Ok
 ids:∀m∈p.d.l,m.1≤p.m.reqs.length
 n:1≤p.n∧p.n≤64
 src:SOk p.k N
theorem PSnap.Good.row{p:PSnap}{N:Nat}(h:p.Good N):(rowD p.d p.m.reqs).Ok∧∀m∈(rowD p.d p.m.reqs).l,m.1≤p.m.reqs.length:=by
 refine⟨rowD_ok h.d _,λm hm=>?_⟩
 rcases rowD_sub _ _ m hm with hm|⟨r,hr,rfl⟩
 ·exact h.ids m hm
 ·exact (h.reqs.at (List.mem_filter.1 hr).1).2.1
theorem SOk.mark{k:PSrc}{N:Nat}(h:SOk k N)(kind mark:Int):SOk (k.markS kind mark).1 (N+2000):=by
 unfold PSrc.markS
 split
 ·rename_i hc;exact h.add hc.2
 ·exact h.mono (by omega)
theorem openW_ok(w:PWin)(mark id table after:Int):(w.openW mark id table after).n=w.n∧(w.openW mark id table after).rows.length≤w.rows.length∧(w.openW mark id table after=w∨((w.openW mark id table after).id=id∧1≤id∧id≤64)):=by
 unfold PWin.openW
 split
 ·exact⟨rfl,Nat.le_refl _,.inl rfl⟩
 ·rename_i hb
  unfold PWin.openBad at hb
  exact⟨rfl,Nat.zero_le _,.inr ⟨rfl,by omega,by omega⟩⟩
theorem PSnap.Good.step{p:PSnap}{N:Nat}(h:p.Good N):(p.step.1).Good (N+2000):=by
 have hs:∀kind mark,SOk (p.k.markS kind mark).1 (N+2000):=λa b=>h.src.mark a b
 have h0:p.Good (N+2000):=⟨h.reqs,h.t1,h.at0,h.wn,h.rows,h.wid,h.d,h.ids,h.n,h.src.mono (by omega)⟩
 obtain⟨hr1,hr2⟩:=h.row
 unfold PSnap.step
 split
 ·exact h0
 ·split
  ·unfold PSnap.lowP PSnap.lowX
   have hd2:(rowD p.d p.m.reqs).next.1.Ok:=hr1.next
   have hi2:∀m∈(rowD p.d p.m.reqs).next.1.l,m.1≤p.m.reqs.length:=by rw[next_l];exact hr2
   split
   ·exact⟨h.reqs,h.t1,h.at0,h.wn,h.rows,h.wid,hd2,hi2,h.n,h.src.mono (by omega)⟩
   ·rename_i r _
    unfold PSnap.markLow
    simp only
    split
    ·exact⟨h.reqs,h.t1,h.at0,h.wn,h.rows,h.wid,hd2,hi2,h.n,hs _ _⟩
    ·obtain⟨a,b,c⟩:=openW_ok p.m.win (headG p.k.g.segs+1) r.id r.table r.cursor
     have hwn:=h.wn
     have hrw:=h.rows
     have hwi:=h.wid
     refine⟨h.reqs,h.t1,h.at0,by show (p.m.win.openW _ _ _ _).n≤64;rw[a];exact hwn,Nat.le_trans b hrw,?_,hd2,hi2,h.n,hs _ _⟩
     show 0≤(p.m.win.openW _ _ _ _).id∧(p.m.win.openW _ _ _ _).id≤64
     rcases c with c|c
     ·rw[c];exact hwi
     ·rw[c.1];omega
  ·split
   ·refine⟨h.reqs,h.t1,h.at0,?_,?_,?_,h.d,h.ids,h.n,h.src.mono (by omega)⟩
    ·show (p.m.win.fill _).n≤64
     unfold PWin.fill;split<;>exact h.wn
    ·show (p.m.win.fill _).rows.length≤64
     unfold PWin.fill
     split
     ·exact h.rows
     ·rename_i hb
      have:=h.wn
      unfold PWin.fillBad at hb
      simp only at hb ⊢
      omega
    ·show 0≤(p.m.win.fill _).id∧(p.m.win.fill _).id≤64
     unfold PWin.fill;split<;>exact h.wid
   ·unfold PSnap.highP
    simp only
    split
    ·exact⟨h.reqs,h.t1,h.at0,h.wn,h.rows,h.wid,h.d,h.ids,h.n,hs _ _⟩
    ·have e:p.m.win.shut.n=p.m.win.n∧p.m.win.shut.rows=p.m.win.rows∧p.m.win.shut.id=p.m.win.id:=by unfold PWin.shut;split<;>exact⟨rfl,rfl,rfl⟩
     exact⟨h.reqs,h.t1,h.at0,by show p.m.win.shut.n≤64;rw[e.1];exact h.wn,by show p.m.win.shut.rows.length≤64;rw[e.2.1];exact h.rows,by show 0≤p.m.win.shut.id∧p.m.win.shut.id≤64;rw[e.2.2];exact h.wid,h.d,h.ids,h.n,hs _ _⟩
theorem acceptR_len{L L':List Rq}{t w a:Int}(h:acceptR L t w a=some L'):L'.length=L.length+1:=by
 unfold acceptR at h
 split at h
 ·cases h;simp
 ·cases h
theorem chunkR_len{L L':List Rq}{id c:Int}{dn:Bool}(h:chunkR L id c dn=some L'):L'.length=L.length:=by
 unfold chunkR at h
 split at h
 ·split at h
  ·split at h
   ·cases h
   ·cases h;exact List.length_set
  ·cases h
 ·cases h
theorem accept_len(m:PMux)(s:ByteArray)(lsn:Int):m.reqs.length≤(m.accept s lsn).1.length∧(MayP m.reqs→MayP (m.accept s lsn).1):=by
 unfold PMux.accept
 split
 ·exact⟨Nat.le_refl _,id⟩
 ·split
  ·exact⟨Nat.le_refl _,id⟩
  ·split
   ·exact⟨Nat.le_refl _,id⟩
   ·rename_i L hL
    exact⟨by have:=acceptR_len hL;simp only;omega,λ_=>acceptR_may hL⟩
theorem accepts_len(lsn:Int):∀(l:List ByteArray) (m:PMux),m.reqs.length≤(m.accepts lsn l).1.reqs.length∧(MayP m.reqs→MayP (m.accepts lsn l).1.reqs)∧(m.accepts lsn l).1.win=m.win∧(m.accepts lsn l).1.tables=m.tables∧(m.accepts lsn l).1.late=m.late∧(m.accepts lsn l).1.at_=m.at_
 | [],m=>⟨Nat.le_refl _,id,rfl,rfl,rfl,rfl⟩
 | s::l,m=>by
  obtain⟨a,b⟩:=accept_len m s lsn
  obtain⟨c,d,e⟩:=accepts_len lsn l {m with reqs:=(m.accept s lsn).1}
  exact⟨Nat.le_trans a c,λh=>d (b h),e⟩
theorem take_keep{m:PMux}{t:TxnD}(h:MayP m.reqs)(hr:m.win.rows.length≤64)(hn:m.win.n≤64)(hi:0≤m.win.id∧m.win.id≤64)(ha:0≤m.at_∧m.at_≤1099511627776):
  m.reqs.length≤(m.take t).1.reqs.length∧MayP (m.take t).1.reqs∧(m.take t).1.tables=m.tables∧(0≤(m.take t).1.at_∧(m.take t).1.at_≤1099511627776)∧(m.take t).1.win.n≤64∧(m.take t).1.win.rows.length≤64∧0≤(m.take t).1.win.id∧(m.take t).1.win.id≤64:=by
 have hsame:m.reqs.length≤m.reqs.length∧MayP m.reqs∧m.tables=m.tables∧(0≤m.at_∧m.at_≤1099511627776)∧m.win.n≤64∧m.win.rows.length≤64∧0≤m.win.id∧m.win.id≤64:=⟨Nat.le_refl _,h,rfl,ha,hn,hr,hi⟩
 unfold PMux.take
 split
 ·exact hsame
 ·rename_i hm
  obtain⟨m1,_⟩:=mayTx_all (show mayTx t=true by cases hq:mayTx t with
   | true=>rfl
   | false=>exact absurd hq hm)
  split
  ·exact hsame
  ·split
   ·unfold PMux.client
    simp only
    obtain⟨a,b,c,d,_,f⟩:=accepts_len t.lsn t.signals {m with at_:=t.lsn}
    generalize ({m with at_:=t.lsn}:PMux).accepts t.lsn t.signals=y at *
    refine⟨a,b h,d,by rw[f];exact⟨by show 0≤t.lsn;omega,by show t.lsn≤_;omega⟩,?_⟩
    rw[c]
    unfold PWin.see
    simp only
    split
    ·exact⟨hn,Nat.le_trans (List.length_filter_le _ _) hr,hi⟩
    ·exact⟨hn,hr,hi⟩
   ·split
    ·unfold PMux.high
     simp only
     have hhi:∀w o,m.win.high t.mark t.lsn=(w,o)→w.n≤64∧w.rows.length≤64∧0≤w.id∧w.id≤64:=λw o e=>by
      unfold PWin.high at e
      split at e
      ·cases e;exact⟨hn,hr,hi⟩
      ·cases e;exact⟨hn,Nat.zero_le _,Int.le_refl _,show (0:Int)≤64 by decide⟩
     split
     ·exact⟨Nat.le_refl _,h,rfl,⟨by show 0≤t.lsn;omega,by show t.lsn≤_;omega⟩,hn,hr,hi⟩
     ·rename_i w x e
      have hw:=hhi _ _ e
      split
      ·exact⟨Nat.le_refl _,h,rfl,⟨by show 0≤t.lsn;omega,by show t.lsn≤_;omega⟩,hw⟩
      ·rename_i L hL
       exact⟨by have:=chunkR_len hL;simp only at this ⊢;omega,chunkR_may hL,rfl,⟨by show 0≤t.lsn;omega,by show t.lsn≤_;omega⟩,hw⟩
    ·refine⟨Nat.le_refl _,h,rfl,⟨by show 0≤t.lsn;omega,by show t.lsn≤_;omega⟩,?_⟩
     show (m.win.low t.mark).n≤64∧(m.win.low t.mark).rows.length≤64∧0≤(m.win.low t.mark).id∧(m.win.low t.mark).id≤64
     unfold PWin.low
     split<;>exact⟨hn,hr,hi⟩
theorem PSnap.Good.take{p:PSnap}{N:Nat}(h:p.Good N)(t:TxnD):({p with m:=(p.m.take t).1}:PSnap).Good N:=by
 obtain⟨a,b,c,d,e,f,g,i⟩:=take_keep (t:=t) h.reqs h.rows h.wn h.wid h.at0
 exact⟨b,by show 1≤(p.m.take t).1.tables∧(p.m.take t).1.tables≤8;rw[c];exact h.t1,d,e,f,⟨g,i⟩,h.d,λm hm=>by have:=h.ids m hm;show m.1≤((p.m.take t).1.reqs.length:Int);omega,h.n,h.src⟩
theorem PSnap.Good.commit{p:PSnap}{N:Nat}(h:p.Good N)(sg:List ByteArray)(l:List Chg):({p with k:=(p.k.commitS sg l).1}:PSnap).Good (N+2000):=
 ⟨h.reqs,h.t1,h.at0,h.wn,h.rows,h.wid,h.d,h.ids,h.n,h.src.commit sg l⟩
set_option maxRecDepth 100000
theorem planC_last{after:Int}{C:List Row}{j:Nat}(h:j+1=C.length)(hj:j<C.length):planC after C=C[j].key:=by
 unfold planC
 rw[List.getLast?_eq_getElem?,show C.length-1=j by omega,List.getElem?_eq_getElem hj];rfl
theorem QV(H:Heap)(v:Value)(C:List Row)(after n:Int)(hv:RdSl H 2 v C.length (C.map encRow).flatten)(hn:C.length≤1000000):
  SP 206 [.int .i64 after,.int .i64 n,v] [.mem H] (Gives (.tuple #[.int .i64 (planC after C),.bool (decide ((C.length:Int)<n))]) [.mem H]):=by
 intro W F w hS;apply vc206;unfold Vc206;(try simp only[app]at hS)
 refine zn hv ?_
 refine Gp ?_
 refine zc (λh=>?_) (λh=>?_)
 ·obtain⟨j,hj⟩:∃j:Nat,j+1=C.length:=⟨C.length-1,by omega⟩
  have hjl:j<C.length:=by omega
  rw[planC_last (after:=after) hj hjl]
  refine zn hv ?_
  refine Gp ?_
  rw[show (C.length:Int)-1=(j:Int) by omega]
  refine zI hS Xh encRow_len hv (x:=C[j]) (List.getElem?_eq_getElem hjl) hjl (i:=0) rfl ?_
  refine zn hv ?_
  refine Gp ?_
  (exact⟨_,⟨rfl,rfl⟩,SL.into hS Xi⟩)
 ·have he:C=[]:=List.eq_nil_of_length_eq_zero (by omega)
  rw[show planC after C=after by rw[he];rfl]
  refine zn hv ?_
  refine Gp ?_
  (exact⟨_,⟨rfl,rfl⟩,SL.into hS Xi⟩)
abbrev wcellsW(w:PWin)(rv:Value):List Value:=[.int .i64 w.mark,.int .i64 w.after,.int .i64 w.id,.int .i64 w.table,rv,.int .i64 w.cursor,.bool w.last,.int .i64 w.n,.int .i64 w.state]
def WinO(wp:Nat)(k:PWin):zC:=HEx λrv:Value=>zQ True [.pt wp (wcellsW k rv) 209,RwO rv k.rows]
theorem WinO.iff{W w:World}{l:List Chunk}{wp:Nat}{k:PWin}:SL W (.ob (WinO wp k)::l) w↔∃rv,SL W (.pt wp (wcellsW k rv) 209::RwO rv k.rows::l) w:=by
 unfold WinO
 simp only[SL.ex,SL.fact,true_and,List.cons_append,List.nil_append]
theorem WinO.put{W w:World}{l F:List Chunk}{wp:Nat}(k:PWin)(rv:Value)(hS:SL W l w)(p:Pick [.pt wp (wcellsW k rv) 209,RwO rv k.rows] l F):SL W (.ob (WinO wp k)::F) w:=WinO.iff.2 ⟨rv,hS.pick p⟩
theorem RwO.nil{W w:World}{l:List Chunk}(h:SL W l w):SL W (RwO (.slice none 0 0) []::l) w:=OwnSl.nil h
theorem Q6(n:Int):SP 194 [.int .i64 n] [] (λv post=>(¬(1≤n∧n≤64)∧v= .tuple #[.pointer none,.int .i64 1]∧post=[])∨((1≤n∧n≤64)∧∃wp:Nat,v= .tuple #[ptrA wp,.int .i64 0]∧post=[.ob (WinO wp (win0 n))])):=by
 intro W F w hS;apply vc194;unfold Vc194;(try simp only[app]at hS)
 refine Gp ?_
 refine zc (λh=>⟨_,.inl ⟨by omega,rfl,rfl⟩,hS⟩) (λh1=>?_)
 refine Gp ?_
 refine zc (λh=>⟨_,.inl ⟨by omega,rfl,rfl⟩,hS⟩) (λh2=>?_)
 refine Gp ?_
 refine⟨_,rfl,zN hS λwp w hS=>?_⟩
 have hS:=RwO.nil hS
 exact⟨_,.inr ⟨by omega,wp,rfl,rfl⟩,SL.into (WinO.put (wp:=wp) (win0 n) (.slice none 0 0) hS Xp) Xi⟩
section
variable (wp:Nat) (k:PWin)
theorem ZB:SP 117 [ptrA wp] [.ob (WinO wp k)] (Gives (.int .i64 k.state) [.ob (WinO wp k)]):=by
 intro W F w hS;apply vc117;unfold Vc117;(try simp only[app]at hS)
 obtain⟨rv,hS⟩:=WinO.iff.1 hS
 unfold wcellsW at hS
 refine Gp ?_
 exact⟨_,⟨rfl,rfl⟩,SL.into (WinO.put k rv hS Xp) Xi⟩
theorem Qk:SP 131 [ptrA wp] [.ob (WinO wp k)] (Gives (.int .i64 k.mark) [.ob (WinO wp k)]):=by
 intro W F w hS;apply vc131;unfold Vc131;(try simp only[app]at hS)
 obtain⟨rv,hS⟩:=WinO.iff.1 hS
 unfold wcellsW at hS
 refine Gp ?_
 exact⟨_,⟨rfl,rfl⟩,SL.into (WinO.put k rv hS Xp) Xi⟩
theorem qo:SP 48 [ptrA wp] [.ob (WinO wp k)] (Gives (.int .i64 k.table) [.ob (WinO wp k)]):=by
 intro W F w hS;apply vc48;unfold Vc48;(try simp only[app]at hS)
 obtain⟨rv,hS⟩:=WinO.iff.1 hS
 unfold wcellsW at hS
 refine Gp ?_
 exact⟨_,⟨rfl,rfl⟩,SL.into (WinO.put k rv hS Xp) Xi⟩
theorem qn:SP 124 [ptrA wp] [.ob (WinO wp k)] (Gives (.int .i64 k.after) [.ob (WinO wp k)]):=by
 intro W F w hS;apply vc124;unfold Vc124;(try simp only[app]at hS)
 obtain⟨rv,hS⟩:=WinO.iff.1 hS
 unfold wcellsW at hS
 refine Gp ?_
 exact⟨_,⟨rfl,rfl⟩,SL.into (WinO.put k rv hS Xp) Xi⟩
theorem Ql(mark id table after:Int):SP 205 [ptrA wp,.int .i64 mark,.int .i64 id,.int .i64 table,.int .i64 after] [.ob (WinO wp k)] (λv post=>(∃q,v= .bool q)∧post=[.ob (WinO wp (k.openW mark id table after))]):=by
 intro W F w hS;apply vc205;unfold Vc205;(try simp only[app]at hS)
 obtain⟨rv,hS⟩:=WinO.iff.1 hS
 unfold wcellsW at hS
 have hbad:∀{w:World},k.openBad mark id table after→SL W (.pt wp [.int .i64 k.mark,.int .i64 k.after,.int .i64 k.id,.int .i64 k.table,rv,.int .i64 k.cursor,.bool k.last,.int .i64 k.n,.int .i64 k.state] 209::RwO rv k.rows::F) w→∃post,((∃q,Value.bool false= .bool q)∧post=[.ob (WinO wp (k.openW mark id table after))])∧SL W (app post F) w:=λh hS=>by
  rw[show k.openW mark id table after=k from if_pos h]
  exact⟨_,⟨⟨_,rfl⟩,rfl⟩,SL.into (WinO.put k rv hS Xp) Xi⟩
 refine Gp ?_
 refine zc (λh=>hbad (.inl h) hS) (λh0=>?_)
 refine Gp ?_
 refine zc (λh=>hbad (.inr (by omega)) hS) (λh1=>?_)
 refine Gp ?_
 refine zc (λh=>hbad (.inr (by omega)) hS) (λh2=>?_)
 refine Gp ?_
 refine zc (λh=>hbad (.inr (by omega)) hS) (λh3=>?_)
 refine Gp ?_
 refine zc (λh=>hbad (.inr (by omega)) hS) (λh4=>?_)
 refine Gp ?_
 refine zc (λh=>hbad (.inr (by omega)) hS) (λh5=>?_)
 refine Gp ?_
 refine zc (λh=>hbad (.inr (by omega)) hS) (λh6=>?_)
 refine Gp ?_
 refine zc (λh=>hbad (.inr (by omega)) hS) (λh7=>?_)
 refine Gp ?_
 refine zc (λh=>hbad (.inr (by omega)) hS) (λh8=>?_)
 clear hbad
 have hok:¬k.openBad mark id table after:=by unfold PWin.openBad;omega
 rw[show k.openW mark id table after=⟨k.n,1,mark,after,id,table,[],0,false⟩ from if_neg hok]
 refine Gp ?_
 refine Qu hS Xu rfl (by simp) (by simp[Value.oneCell']) λw hS=>?_
 simp only[List.take,List.drop,List.cons_append,List.nil_append]at hS
 refine Gn λw hS=>?_
 have hS:=RwO.nil hS
 exact⟨_,⟨⟨_,rfl⟩,rfl⟩,SL.into (WinO.put (wp:=wp) ⟨k.n,1,mark,after,id,table,[],0,false⟩ (.slice none 0 0) hS Xp) Xi⟩
theorem Qm:SP 207 [ptrA wp] [.ob (WinO wp k)] (λv post=>(∃q,v= .bool q)∧post=[.ob (WinO wp k.shut)]):=by
 intro W F w hS;apply vc207;unfold Vc207;(try simp only[app]at hS)
 obtain⟨rv,hS⟩:=WinO.iff.1 hS
 unfold wcellsW at hS
 unfold PWin.shut
 refine Gp ?_
 refine zc (λh=>?_) (λh=>?_)
 ·rw[if_neg h]
  exact⟨_,⟨⟨_,rfl⟩,rfl⟩,SL.into (WinO.put k rv hS Xp) Xi⟩
 ·rw[if_pos (by omega)]
  refine Gn λw hS=>?_
  exact⟨_,⟨⟨_,rfl⟩,rfl⟩,SL.into (WinO.put {k with state:=3} rv hS Xp) Xi⟩
theorem Q5(mark:Int):SP 121 [ptrA wp,.int .i64 mark] [.ob (WinO wp k)] (λv post=>(∃q,v= .bool q)∧post=[.ob (WinO wp (k.low mark))]):=by
 intro W F w hS;apply vc121;unfold Vc121;(try simp only[app]at hS)
 obtain⟨rv,hS⟩:=WinO.iff.1 hS
 unfold wcellsW at hS
 unfold PWin.low
 refine Gp ?_
 refine zc (λh=>?_) (λh=>?_)
 ·rw[if_neg (by omega)]
  exact⟨_,⟨⟨_,rfl⟩,rfl⟩,SL.into (WinO.put k rv hS Xp) Xi⟩
 ·refine Gp ?_
  refine zc (λh2=>?_) (λh2=>?_)
  ·rw[if_neg (by omega)]
   exact⟨_,⟨⟨_,rfl⟩,rfl⟩,SL.into (WinO.put k rv hS Xp) Xi⟩
  ·rw[if_pos (by omega)]
   refine Gn λw hS=>?_
   exact⟨_,⟨⟨_,rfl⟩,rfl⟩,SL.into (WinO.put {k with state:=4} rv hS Xp) Xi⟩
theorem qp(x:TxV):SP 135 [ptrA wp,agg (encTx x)] [.ob (WinO wp k)] (Gives (.bool (k.waits x.kind x.mark)) [.ob (WinO wp k)]):=by
 intro W F w hS;apply vc135;unfold Vc135;(try simp only[app]at hS)
 obtain⟨rv,hS⟩:=WinO.iff.1 hS
 unfold wcellsW at hS
 refine zJ hS λxb w hS=>?_
 unfold encTx at hS
 unfold PWin.waits
 refine Gn λw hS=>?_
 refine zc (λh=>?_) (λh=>?_)
 ·refine Gp ?_
  refine zc (λh2=>?_) (λh2=>?_)
  ·refine Gp ?_
   refine zc (λh3=>?_) (λh3=>?_)
   ·rw[decide_eq_true (by omega)]
    exact⟨_,⟨rfl,rfl⟩,SL.into (WinO.put k rv hS Xp) Xi⟩
   ·refine Gp ?_
    rw[show decide (x.kind=2∧x.mark=k.mark∧(k.state=1∨k.state=2))=decide (k.state=2) by rw[decide_eq_decide];omega]
    exact⟨_,⟨rfl,rfl⟩,SL.into (WinO.put k rv hS Xp) Xi⟩
  ·rw[decide_eq_false (by omega)]
   exact⟨_,⟨rfl,rfl⟩,SL.into (WinO.put k rv hS Xp) Xi⟩
 ·rw[decide_eq_false (by omega)]
  exact⟨_,⟨rfl,rfl⟩,SL.into (WinO.put k rv hS Xp) Xi⟩
end
theorem riseK_app:∀(A B:List Row) (k:Int),riseK k (A++B)=(riseK k A && riseK (planC k A) B)
 | [],B,k=>by simp[riseK,planC]
 | r::A,B,k=>by
  have e:planC k (r::A)=planC r.key A:=by
   unfold planC
   cases A with
   | nil=>rfl
   | cons y A=>rw[List.getLast?_cons_cons];rfl
  show (decide (k<r.key∧r.key≤1099511627776) && riseK r.key (A++B))=((decide (k<r.key∧r.key≤1099511627776) && riseK r.key A) && riseK (planC k (r::A)) B)
  rw[riseK_app A B r.key,e,Bool.and_assoc]
theorem planC_snoc(a:Int)(A:List Row)(r:Row):planC a (A++[r])=r.key:=by
 unfold planC
 rw[List.getLast?_append];simp
theorem Qj(wp:Nat)(k:PWin)(H:Heap)(v:Value)(C:List Row)(hv:RdSl H 2 v C.length (C.map encRow).flatten)(hn:C.length≤1000000):
  SP 123 [ptrA wp,v] [.ob (WinO wp k),.mem H] (λu post=>(∃q,u= .bool q)∧post=[.ob (WinO wp (k.fill C)),.mem H]):=by
 intro W F w hS;apply vc123;unfold Vc123;(try simp only[app]at hS)
 obtain⟨rv,hS⟩:=WinO.iff.1 hS
 have hbad:∀{w:World} {l:List Chunk},k.fillBad C→SL W l w→Into [.pt wp (wcellsW k rv) 209,RwO rv k.rows,.mem H] l→True:=λ_ _ _=>trivial
 clear hbad
 unfold wcellsW at hS
 have hbad:∀{w:World},k.fillBad C→SL W (.pt wp [.int .i64 k.mark,.int .i64 k.after,.int .i64 k.id,.int .i64 k.table,rv,.int .i64 k.cursor,.bool k.last,.int .i64 k.n,.int .i64 k.state] 209::RwO rv k.rows::.mem H::F) w→∃post,((∃q,Value.bool false= .bool q)∧post=[.ob (WinO wp (k.fill C)),.mem H])∧SL W (app post F) w:=λh hS=>by
  rw[show k.fill C=k from if_pos h]
  exact⟨_,⟨⟨_,rfl⟩,rfl⟩,SL.into (WinO.put k rv hS Xp) Xi⟩
 refine Gp ?_
 refine zc (λh=>hbad (.inl h) hS) (λh1=>?_)
 refine zn hv ?_
 refine Gp ?_
 refine zc (λh=>hbad (.inr (.inl (by omega))) hS) (λh2=>?_)
 refine Gp ?_
 refine zn hv ?_
 refine⟨λus w=>∃i:Nat,us=[.int .i64 (planC k.after (C.take i)),.int .i64 i]∧i≤C.length∧riseK k.after (C.take i)=true∧SL W (.pt wp [.int .i64 k.mark,.int .i64 k.after,.int .i64 k.id,.int .i64 k.table,rv,.int .i64 k.cursor,.bool k.last,.int .i64 k.n,.int .i64 k.state] 209::RwO rv k.rows::.mem H::F) w,
  λus _=>match us with|[_,.int _ i]=>(C.length-i).toNat|_=>0,⟨0,rfl,by omega,rfl,hS⟩,?_⟩
 clear hS
 rintro v5 v29 w ⟨i,hus,hi,hr,hS⟩
 cases hus
 refine Gp ?_
 refine zc (λh=>?_) (λh=>?_)
 ·have hil:i<C.length:=by omega
  have hx:C[i]?=some C[i]:=List.getElem?_eq_getElem hil
  have hst:C.take (i+1)=C.take i++[C[i]]:=List.take_succ_eq_append_getElem hil
  have hall:riseK k.after C=true→riseK k.after (C.take (i+1))=true:=λh=>by
   rw[← List.take_append_drop (i+1) C,riseK_app,Bool.and_eq_true]at h;exact h.1
  have hnext:riseK k.after (C.take (i+1))=decide (planC k.after (C.take i)<C[i].key∧C[i].key≤1099511627776):=by
   rw[hst,riseK_app,hr];unfold riseK;simp[riseK]
  refine zU hS Xh encRow_len hv hx hil ?_
  generalize C[i]=r at *
  refine Gb λxb w hS=>?_
  have hend:∀{w:World},¬(planC k.after (C.take i)<r.key∧r.key≤1099511627776)→SL W (.pt xb (encRow r) 52::.pt wp [.int .i64 k.mark,.int .i64 k.after,.int .i64 k.id,.int .i64 k.table,rv,.int .i64 k.cursor,.bool k.last,.int .i64 k.n,.int .i64 k.state] 209::RwO rv k.rows::.mem H::F) w→∃post,((∃q,Value.bool false= .bool q)∧post=[.ob (WinO wp (k.fill C)),.mem H])∧SL W (app post F) w:=λhb hS=>by
   refine hbad (.inr (.inr ?_)) (SL.into hS Xi)
   cases hq:riseK k.after C with
   | false=>rfl
   | true=>rw[hall hq]at hnext;exact absurd (of_decide_eq_true hnext.symm) hb
  have hend2:=@hend
  clear hbad hend
  refine zc (λh=>hend2 (by omega) hS) (λh3=>?_)
  refine Gp ?_
  refine zc (λh=>hend2 (by omega) hS) (λh4=>?_)
  refine Gp ?_
  refine⟨⟨i+1,?_,by omega,?_,SL.into hS Xi⟩,by dsimp only;omega⟩
  ·rw[hst,planC_snoc]
  ·rw[hnext];exact decide_eq_true (by omega)
 ·have he:C.take i=C:=List.take_of_length_le (by omega)
  rw[he]at hr
  have hok:¬k.fillBad C:=by
   rintro (h|h|h)
   ·exact h1 h
   ·omega
   ·rw[hr]at h;cases h
  rw[show k.fill C={k with state:=2,rows:=C,cursor:=planC k.after C,last:=decide ((C.length:Int)<k.n)} from if_neg hok]
  clear hbad
  (refine Cc (clone_rd (λv0 w R h=>vc170 v0 w R h) rfl (by decide) hv (recs_one encRow_one1 C) (by omega) (by omega)) ?_;clear hS)
  rintro u post rfl w hS
  (try simp only[app]at hS)
  have hS:SL W (RwO u C::_) w:=hS
  have o1:u.oneCell'=true:=OwnSl.one hS
  refine Gn λw hS=>?_
  refine Cg (QV H v C k.after k.n hv hn) λw hS=>?_
  exact⟨_,⟨⟨_,rfl⟩,rfl⟩,SL.into (WinO.put (wp:=wp) {k with state:=2,rows:=C,cursor:=planC k.after C,last:=decide ((C.length:Int)<k.n)} u hS Xp) Xi⟩
theorem flat_setRow{D:List Row}{i:Nat}(hi:i<D.length)(x:Row)(rest:List Value):((D.map encRow).flatten++rest).take (0+i*2)++encRow x++((D.map encRow).flatten++rest).drop (0+i*2+2)=((D.set i x).map encRow).flatten++rest:=by
 have hl:((D.map encRow).flatten).length=D.length*2:=flat_len encRow_len D
 rw[Nat.zero_add,List.take_append_of_le_length (by omega),List.drop_append_of_le_length (by omega),show i*2+2=(i+1)*2 by omega,flat_take_n encRow_len,flat_drop_n encRow_len,List.set_eq_take_append_cons_drop,if_pos hi]
 simp
theorem Ym(cb:Nat)(c:Chg)(r:Row):SP 262 [agg (encRow r),ptrA cb] [.pt cb (encChg c) 82] (Gives (.bool (decide (r.key=c.key))) [.pt cb (encChg c) 82]):=by
 intro W F w hS;apply vc262;unfold Vc262;(try simp only[app]at hS)
 refine zJ hS λxb w hS=>?_
 unfold encRow at hS
 unfold encChg at hS ⊢
 refine Gp ?_
 (exact⟨_,⟨rfl,rfl⟩,SL.into hS Xi⟩)
theorem QC(cb:Nat)(c:Chg)(v:Value)(C:List Row)(hn:C.length≤1000000):
  SP 261 [v,.func (.func 262) #[] #[ptrA cb]] [.pt cb (encChg c) 82,RwO v C] (λu post=>post=[.pt cb (encChg c) 82,RwO u (C.filter λr=>!decide (r.key=c.key))]):=by
 intro W F w hS;apply vc261;unfold Vc261;(try simp only[app]at hS)
 have hC:=idxf_gen (t:=52) encRow_len rfl (λv0 v1 w R h=>vc311 v0 v1 w R h) (λr=>Ym cb c r) v C (by omega)
 simp only[List.cons_append,List.nil_append]at hC
 refine Cg (hC) λw hS=>?_
 cases hf:C.findIdx? (λr=>decide (r.key=c.key)) with
 | none=>
  simp only[idxI]
  refine zc (λ_=>?_) (λh=>absurd trivial h)
  have e:C.filter (λr=>!decide (r.key=c.key))=C:=List.filter_eq_self.2 λr hr=>by
   have:=List.findIdx?_eq_none_iff.1 hf r hr
   rw[this];rfl
  rw[e]
  exact⟨_,rfl,SL.into hS Xi⟩
 | some i0=>
  obtain⟨hi0,hk0,hlow⟩:=List.findIdx?_eq_some_iff_getElem.1 hf
  have hf0:(C.take (i0+1)).filter (λr=>!decide (r.key=c.key))=C.take i0:=by
   rw[List.take_succ_eq_append_getElem hi0,List.filter_append,List.filter_eq_self.2 λr hr=>by
    obtain⟨j,hj,rfl⟩:=List.getElem_of_mem hr
    rw[List.length_take]at hj
    rw[List.getElem_take]
    have:=hlow j (by omega)
    simpa using this]
   simp at hk0
   simp[hk0]
  simp only[idxI]
  refine zc (λh=>by omega) (λ_=>?_)
  rcases OwnSl.open (SL.into hS (t:=RwO v C::.pt cb (encChg c) 82::F) Xi) with ⟨_,h0,_⟩|⟨b,cap,rest,rfl,hcap,hlen,hrest,hS⟩
  ·omega
  refine Gp ?_
  refine⟨λus w=>∃(i j:Nat) (D:List Row),us=[.int .i64 i,.int .i64 j]∧i<j∧j≤C.length∧D.length=C.length∧D.take i=(C.take j).filter (λr=>!decide (r.key=c.key))∧D.drop j=C.drop j∧SL W (.pt b ((D.map encRow).flatten++rest) 52::.pt cb (encChg c) 82::F) w,
   λus _=>match us with|[_,.int _ j]=>(C.length-j).toNat|_=>0,⟨i0,i0+1,C,rfl,by omega,by omega,rfl,hf0.symm,rfl,SL.into hS Xi⟩,?_⟩
  clear hS hf hi0 hk0 hlow hf0
  rintro v5 v6 w ⟨i,j,D,hus,hij,hj,hD,ht,hd,hS⟩
  cases hus
  refine Gp ?_
  refine zc (λh=>?_) (λh=>?_)
  ·have hjl:j<C.length:=by omega
   have hjD:j<D.length:=by omega
   have hxe:D[j]=C[j]:=by
    have h1:(D.drop j)[0]?=(C.drop j)[0]?:=by rw[hd]
    rw[List.getElem?_drop,List.getElem?_drop,Nat.add_zero,List.getElem?_eq_getElem hjD,List.getElem?_eq_getElem hjl]at h1
    simpa using h1
   have hst:C.take (j+1)=C.take j++[C[j]]:=List.take_succ_eq_append_getElem hjl
   have hdr:D.drop (j+1)=C.drop (j+1):=by
    rw[← List.drop_drop,← List.drop_drop,hd]
   have hcell:∀q u,(encRow D[j])[q]?=some u→((D.map encRow).flatten++rest)[0+j*2+q]?=some u:=λq u hu=>by
    rw[Nat.zero_add]
    have:=flat_at encRow_len D j q D[j] u (List.getElem?_eq_getElem hjD) hu
    rw[List.getElem?_append_left (List.getElem?_eq_some_iff.1 this).1];exact this
   refine zE hjl ?_
   refine Yk hS Xh rfl hcell ?_
   rw[hxe]
   generalize C[j]=r at *
   refine Gb λxb w hS=>?_
   refine Qq (args':=[agg (encRow r),ptrA cb]) rfl (Ym cb c r) rfl hS Xp ?_
   clear hS
   rintro _ post ⟨rfl,rfl⟩ w hS
   (try simp only[app]at hS);refine Gp ?_
   refine zA (λhq=>?_) (λhq=>?_)
   ·refine yt hS Xh rfl ?_
    refine zE (show i<C.length by omega) ?_
    refine Qu hS Xu rfl ?_ (encRow_one1 _) λw hS=>?_
    ·rw[List.length_append,flat_len encRow_len];omega
    rw[flat_setRow (by omega)]at hS
    refine Gp ?_
    refine⟨⟨i+1,j+1,D.set i r,rfl,by omega,by omega,by rw[List.length_set];exact hD,?_,?_,SL.into hS Xi⟩,by dsimp only;omega⟩
    ·rw[hst,List.filter_append,← ht]
     have:([r].filter λr=>!decide (r.key=c.key))=[r]:=by simp[hq]
     rw[this,List.take_succ_eq_append_getElem (by rw[List.length_set];omega),List.getElem_set_self,List.take_set_of_le (Nat.le_refl _)]
    ·rw[List.drop_set_of_lt (by omega)];exact hdr
   ·refine Gp ?_
    refine⟨⟨i,j+1,D,rfl,by omega,by omega,hD,?_,hdr,SL.into hS Xi⟩,by dsimp only;omega⟩
    rw[hst,List.filter_append,← ht]
    have:([r].filter λr=>!decide (r.key=c.key))=[]:=by simp[hq]
    rw[this,List.append_nil]
  ·have hjc:j=C.length:=by omega
   subst hjc
   rw[List.take_length]at ht
   rw[← ht]
   have hl:((D.map encRow).flatten).length=D.length*2:=flat_len encRow_len D
   refine⟨some ⟨b,0,none⟩,C.length,cap,i,C.length,cap,rfl,rfl,rfl,⟨_,rfl⟩,by omega,by omega,by omega,?_⟩
   rw[if_neg (show ¬cap=i by omega)]
   simp only[Option.map_some,Addr.add_lit,Nat.zero_add]
   have hA:((D.map encRow).flatten.take (i*2)).length=i*2:=by rw[List.length_take,hl];omega
   have e2:((D.map encRow).flatten++rest).take (i*2)++zrow [.int .i64 0,.string ⟨#[]⟩] (C.length-i)++((D.map encRow).flatten++rest).drop (i*2+(zrow [.int .i64 0,.string ⟨#[]⟩] (C.length-i)).length)=(D.map encRow).flatten.take (i*2)++(zrow [.int .i64 0,.string ⟨#[]⟩] (C.length-i)++rest):=by
    have:=clr_rows ((D.map encRow).flatten.take (i*2)) ((D.map encRow).flatten.drop (i*2)) (zrow [.int .i64 0,.string ⟨#[]⟩] (C.length-i)) rest (by rw[List.length_drop,hl,zrow_length];show _=(C.length-i)*2;omega)
    rw[hA,← List.append_assoc ((D.map encRow).flatten.take (i*2)) ((D.map encRow).flatten.drop (i*2)) rest,List.take_append_drop]at this
    exact this
   refine Qr (tt:=52) (z:=[.int .i64 0,.string ⟨#[]⟩]) (zv:=.agg #[.int .i64 0,.string ⟨#[]⟩]) (n:=C.length-i) (o:=i*2) (cs:=(D.map encRow).flatten++rest) (l':=.pt b ((D.map encRow).flatten.take (i*2)++(zrow [.int .i64 0,.string ⟨#[]⟩] (C.length-i)++rest)) 52::.pt cb (encChg c) 82::F) hS ?_ Tryz.underlying53 (λw=>by kernel_rfl) rfl (by simp[Value.oneCell']) (by omega) (by rw[List.length_append,hl];show i*2+(C.length-i)*2≤_;omega) ?_
   ·rw[show (C.length-i)*([Value.int .i64 0,Value.string ⟨#[]⟩]:List Value).length=(zrow [.int .i64 0,.string ⟨#[]⟩] (C.length-i)).length from (zrow_length _ _).symm,e2]
    exact Upd.hd
   ·intro u w hS
    refine⟨some ⟨b,0,none⟩,C.length,cap,0,i,cap,rfl,rfl,⟨_,rfl⟩,rfl,by omega,by omega,by omega,?_⟩
    rw[if_neg (show ¬cap=0 by omega)]
    simp only[Option.map_some,Addr.add_lit,Nat.zero_mul,Nat.add_zero,Nat.sub_zero]
    have hS:=OwnSl.mk (n:=i) (cap:=cap) (sz:=2) (rest:=zrow [.int .i64 0,.string ⟨#[]⟩] (C.length-i)++rest) (by omega) hA (by rw[List.length_append,hrest,zrow_length];show (C.length-i)*2+_=_;omega) hS
    rw[flat_take_n encRow_len]at hS
    have hil:(D.take i).length=i:=by rw[List.length_take];omega
    refine⟨_,rfl,?_⟩
    have hS:SL W (RwO (.slice (some ⟨b,0,none⟩) i cap) (D.take i)::.pt cb (encChg c) 82::F) w:=by unfold RwO;rw[hil];exact hS
    exact SL.into hS Xi
theorem hitC_take(t:Int)(l:List Chg)(i:Nat)(h:i<l.length)(r:Row):hitC t (l.take (i+1)) r=(hitC t (l.take i) r || decide (l[i].table=t∧l[i].key=r.key)):=by
 unfold hitC
 rw[List.take_succ_eq_append_getElem h,List.any_append];simp
theorem Q7(wp:Nat)(k:PWin)(H:Heap)(v:Value)(l:List Chg)(hv:RdSl H 4 v l.length (l.map encChg).flatten)(hn:k.rows.length≤1000000)(hl:l.length≤140737488351232):
  SP 199 [ptrA wp,v] [.ob (WinO wp k),.mem H] (λu post=>(∃q,u= .int .i64 q)∧post=[.ob (WinO wp (k.see l)),.mem H]):=by
 intro W F w hS;apply vc199;unfold Vc199;(try simp only[app]at hS)
 obtain⟨rv,hS⟩:=WinO.iff.1 hS
 unfold wcellsW at hS
 unfold PWin.see
 refine Gp ?_
 refine zc (λh=>?_) (λh=>?_)
 ·rw[if_neg h]
  exact⟨_,⟨⟨_,rfl⟩,rfl⟩,SL.into (WinO.put k rv hS Xp) Xi⟩
 rw[if_pos (by omega)]
 refine Gp ?_
 refine zx hS (v:=rv) (t:=52) (sz:=2) (n:=k.rows.length) (cells:=(k.rows.map encRow).flatten) Xh ?_
 refine zn hv ?_
 refine⟨λus w=>∃(i:Nat) (ru:Value),us=[.int .i64 i]∧i≤l.length∧SL W (.pt wp [.int .i64 k.mark,.int .i64 k.after,.int .i64 k.id,.int .i64 k.table,ru,.int .i64 k.cursor,.bool k.last,.int .i64 k.n,.int .i64 k.state] 209::RwO ru (k.rows.filter λr=>!hitC k.table (l.take i) r)::.mem H::F) w,
  λus _=>match us with|[.int _ i]=>(l.length-i).toNat|_=>0,⟨0,rv,rfl,by omega,?_⟩,?_⟩
 ·have:(k.rows.filter λr=>!hitC k.table (l.take 0) r)=k.rows:=List.filter_eq_self.2 λr _=>by simp[hitC]
  rw[this];exact SL.into hS Xi
 clear hS
 rintro v21 w ⟨i,ru,hus,hi,hS⟩
 cases hus
 refine Gp ?_
 refine zc (λh=>?_) (λh=>?_)
 ·have hil:i<l.length:=by omega
  have hx:l[i]?=some l[i]:=List.getElem?_eq_getElem hil
  have hfl:(k.rows.filter λr=>!hitC k.table (l.take i) r).length≤k.rows.length:=List.length_filter_le _ _
  refine zU hS Xh encChg_len hv hx hil ?_
  have hstep:∀r,hitC k.table (l.take (i+1)) r=(hitC k.table (l.take i) r || decide (l[i].table=k.table∧l[i].key=r.key)):=hitC_take k.table l i hil
  generalize l[i]=c at *
  refine Gb λxb w hS=>?_
  refine zc (λh2=>?_) (λh2=>?_)
  ·refine Gp ?_
   (refine Cc (QC xb c ru (k.rows.filter λr=>!hitC k.table (l.take i) r) (by omega)) ?_;clear hS)
   rintro u post rfl w hS
   (try simp only[app]at hS)
   have hS:SL W (RwO u ((k.rows.filter λr=>!hitC k.table (l.take i) r).filter λr=>!decide (r.key=c.key))::.pt xb (encChg c) 82::.pt wp [.int .i64 k.mark,.int .i64 k.after,.int .i64 k.id,.int .i64 k.table,ru,.int .i64 k.cursor,.bool k.last,.int .i64 k.n,.int .i64 k.state] 209::.mem H::F) w:=SL.into hS Xi
   have o1:u.oneCell'=true:=OwnSl.one hS
   refine Gn λw hS=>?_
   refine⟨⟨i+1,u,rfl,by omega,?_⟩,by dsimp only;omega⟩
   have e:(k.rows.filter λr=>!hitC k.table (l.take (i+1)) r)=((k.rows.filter λr=>!hitC k.table (l.take i) r).filter λr=>!decide (r.key=c.key)):=by
    rw[List.filter_filter]
    refine List.filter_congr λr _=>?_
    rw[hstep r]
    have:decide (c.table=k.table∧c.key=r.key)=decide (r.key=c.key):=by rw[decide_eq_decide];omega
    rw[this]
    cases hitC k.table (l.take i) r<;>cases decide (r.key=c.key)<;>rfl
   rw[e]
   exact SL.into hS Xi
  ·refine Gp ?_
   refine⟨⟨i+1,ru,rfl,by omega,?_⟩,by dsimp only;omega⟩
   have e:(k.rows.filter λr=>!hitC k.table (l.take (i+1)) r)=(k.rows.filter λr=>!hitC k.table (l.take i) r):=by
    refine List.filter_congr λr _=>?_
    rw[hstep r,decide_eq_false (by omega),Bool.or_false]
   rw[e]
   exact SL.into hS Xi
 ·have:l.take i=l:=List.take_of_length_le (by omega)
  rw[this]at hS
  have hfl:(k.rows.filter λr=>!hitC k.table l r).length≤k.rows.length:=List.length_filter_le _ _
  refine Gp ?_
  refine zx hS (v:=ru) (t:=52) (sz:=2) (n:=(k.rows.filter λr=>!hitC k.table l r).length) (cells:=((k.rows.filter λr=>!hitC k.table l r).map encRow).flatten) Xh ?_
  refine Gp ?_
  exact⟨_,⟨⟨_,rfl⟩,rfl⟩,SL.into (WinO.put {k with rows:=k.rows.filter λr=>!hitC k.table l r} ru hS Xp) Xi⟩
abbrev it0:ItV:=⟨0,.slice none 0 0,.slice none 0 0⟩
def HighQ(wp:Nat)(k:PWin)(H:Heap)(mark lsn:Int)(u:Value)(post:List Chunk):Prop:=match (k.high mark lsn).2 with
 | none=>u= .tuple #[agg (encIt it0),.bool false]∧post=[.ob (WinO wp k),.mem H]
 | some t=>∃(x:ItV) (H':Heap),H.le H'∧u= .tuple #[agg (encIt x),.bool true]∧ItIs H' x t∧post=[.ob (WinO wp (win0 k.n)),.mem H']
theorem one3{a:Int}{u v:Value}(h1:u.oneCell'=true)(h2:v.oneCell'=true):∀x∈[Value.int .i64 a,u,v],x.oneCell'=true:=by
 intro x hx
 simp only[List.mem_cons,List.not_mem_nil,or_false]at hx
 rcases hx with rfl|rfl|rfl
 ·rfl
 ·exact h1
 ·exact h2
theorem Z1(wp:Nat)(k:PWin)(H:Heap)(mark lsn:Int)(hn:k.rows.length≤1000000):SP 200 [ptrA wp,.int .i64 mark,.int .i64 lsn] [.ob (WinO wp k),.mem H] (HighQ wp k H mark lsn):=by
 intro W F w hS;apply vc200;unfold Vc200;(try simp only[app]at hS)
 obtain⟨rv,hS⟩:=WinO.iff.1 hS
 have hbad:∀{w:World} {rb:Nat},k.highBad mark lsn→SL W (.pt rb [.int .i64 0,.slice none 0 0,.slice none 0 0] 100::.pt wp (wcellsW k rv) 209::RwO rv k.rows::.mem H::F) w→∃post,HighQ wp k H mark lsn (.tuple #[agg (encIt it0),.bool false]) post∧SL W (app post F) w:=λh hS=>by
  have e:(k.high mark lsn).2=none:=by unfold PWin.high;rw[if_pos h]
  refine⟨[.ob (WinO wp k),.mem H],?_,SL.into (WinO.put k rv hS Xp) Xi⟩
  unfold HighQ;rw[e];exact⟨rfl,rfl⟩
 refine Gb λrb w hS=>?_
 refine zc (λh=>?_) (λh1=>?_)
 ·refine Gn λw hS=>?_
  exact hbad (.inl h) hS
 refine Gp ?_
 refine zc (λh=>?_) (λh2=>?_)
 ·refine Gn λw hS=>?_
  exact hbad (.inr (.inl h)) hS
 refine Gp ?_
 refine zc (λh=>?_) (λh3=>?_)
 ·refine Gn λw hS=>?_
  exact hbad (.inr (.inr (by omega))) hS
 refine Gp ?_
 refine zc (λh=>?_) (λh4=>?_)
 ·refine Gn λw hS=>?_
  exact hbad (.inr (.inr (by omega))) hS
 clear hbad
 have hok:¬k.highBad mark lsn:=by unfold PWin.highBad;omega
 have e:(k.high mark lsn).2=some ⟨lsn,opsW k lsn,[noteW k]⟩:=by unfold PWin.high;rw[if_neg hok]
 refine⟨λus w=>∃(b nb:Nat),us=[ptrA b]∧SL W (.pt b [.int .i64 lsn,.slice none 0 0,.slice (some ⟨nb,0,none⟩) 1 1] 100::.pt nb [.int .i64 2,.int .i64 k.id,.int .i64 0,.int .i64 0,.int .i64 0,.int .i64 k.cursor,.bool k.last] 295::.pt rb [.int .i64 0,.slice none 0 0,.slice none 0 0] 100::.pt wp (wcellsW k rv) 209::RwO rv k.rows::.mem H::F) w,?_,?_⟩
 ·refine Gn λw hS=>?_
  refine⟨?_,?_⟩
  ·refine Gb λnb w hS=>?_
   refine Gb λb w hS=>?_
   exact⟨b,nb,rfl,SL.into hS Xi⟩
  ·refine Gb λb w hS=>?_
   refine Gb λnb w hS=>?_
   exact⟨b,nb,rfl,SL.into hS Xi⟩
 clear hS
 rintro v8 w ⟨b,nb,hus,hS⟩
 cases hus
 refine Gp ?_
 refine zx hS (v:=rv) (t:=52) (sz:=2) (n:=k.rows.length) (cells:=(k.rows.map encRow).flatten) Xh ?_
 have hol:(opsW k lsn).length=k.rows.length:=List.length_map ..
 have hS:SL W (.ob (OwnSl (.slice none 0 0) 123 5 ((opsW k lsn).take 0).length (((opsW k lsn).take 0).map encOp).flatten)::_) w:=OwnSl.nil hS
 refine⟨λus w=>∃(i:Nat) (ov:Value),us=[.int .i64 i]∧i≤k.rows.length∧SL W (.ob (OwnSl ov 123 5 ((opsW k lsn).take i).length (((opsW k lsn).take i).map encOp).flatten)::.pt b [.int .i64 lsn,ov,.slice (some ⟨nb,0,none⟩) 1 1] 100::.pt nb [.int .i64 2,.int .i64 k.id,.int .i64 0,.int .i64 0,.int .i64 0,.int .i64 k.cursor,.bool k.last] 295::.pt rb [.int .i64 0,.slice none 0 0,.slice none 0 0] 100::.pt wp (wcellsW k rv) 209::RwO rv k.rows::.mem H::F) w,
  λus _=>match us with|[.int _ i]=>(k.rows.length-i).toNat|_=>0,⟨0,.slice none 0 0,rfl,by omega,SL.into hS Xi⟩,?_⟩
 clear hS
 rintro v59 w ⟨i,ov,hus,hi,hS⟩
 cases hus
 refine Gp ?_
 refine zc (λh=>?_) (λh=>?_)
 ·have hil:i<k.rows.length:=by omega
  have hx:k.rows[i]?=some k.rows[i]:=List.getElem?_eq_getElem hil
  have hop:(opsW k lsn)[i]'(by omega)=⟨lsn,k.table,k.rows[i].key,false,k.rows[i].val⟩:=by unfold opsW;rw[List.getElem_map]
  have hst:(opsW k lsn).take (i+1)=(opsW k lsn).take i++[⟨lsn,k.table,k.rows[i].key,false,k.rows[i].val⟩]:=by rw[List.take_succ_eq_append_getElem (by omega),hop]
  have hil2:((opsW k lsn).take i).length=i:=by rw[List.length_take];omega
  refine zZ hS (v:=rv) (t:=52) Xh encRow_len hx hil ?_
  generalize k.rows[i]=r at *
  refine Gb λxb w hS=>?_
  refine Gb λyb w hS=>?_
  refine yr (n:=((opsW k lsn).take i).length) (xs:=(opsW k lsn).take i) (y:=⟨lsn,k.table,r.key,false,r.val⟩) (enc:=encOp) hS Xr Xh encOp_len' (λx=>encOp_one x) rfl (by omega) (by omega) λv2 w hS=>?_
  have hS:=hS.snocL (x:=(⟨lsn,k.table,r.key,false,r.val⟩:AOp))
  rw[← hst]at hS
  have o1:v2.oneCell'=true:=OwnSl.one hS
  refine Gn λw hS=>?_
  exact⟨⟨i+1,v2,rfl,by omega,SL.into hS Xi⟩,by dsimp only;omega⟩
 ·have he:(opsW k lsn).take i=opsW k lsn:=List.take_of_length_le (by omega)
  rw[he]at hS
  have o1:ov.oneCell'=true:=OwnSl.one hS
  refine Gp ?_
  refine Qu hS Xu rfl (by simp) (by simp[Value.oneCell']) λw hS=>?_
  simp only[List.take,List.drop,List.cons_append,List.nil_append]at hS
  refine Gn λw hS=>?_
  refine zL (vs:=[.int .i64 lsn,ov,.slice (some ⟨nb,0,none⟩) 1 1]) hS Xu rfl rfl (one3 o1 rfl) λw hS=>?_
  refine Gp ?_
  obtain⟨H1,h01,hR1,hS⟩:=zG (H:=H) (v:=ov) hS Xp
  obtain⟨H2,h12,hR2,hS⟩:=SL.rdNew (sz:=7) (H:=H1) (b:=nb) hS Xp rfl
  have hS:=RwO.nil hS
  have hS:=WinO.put (wp:=wp) (win0 k.n) (.slice none 0 0) hS Xp
  refine⟨[.ob (WinO wp (win0 k.n)),.mem H2],?_,SL.into hS Xi⟩
  unfold HighQ;rw[e]
  exact⟨⟨lsn,ov,.slice (some ⟨nb,0,none⟩) 1 1⟩,H2,Heap.le_trans h01 h12,rfl,⟨rfl,hR1.mono h12,hR2⟩,rfl⟩
end Go.Proofs.YtfenmffiidchcaaGreat
