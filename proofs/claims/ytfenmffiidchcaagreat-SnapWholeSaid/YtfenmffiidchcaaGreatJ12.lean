/-
  Texts of the proof, joined: RLogS, RLogS2, RLogS3, RLogA, RLogB, SrcR, SrcR2, SnpR, SameC, Same1, Law12, Law12A, Law12P, PlayS.
-/
import Derived.Test.YtfenmffiidchcaaGreatJ11
import Derived.Test.YtfenmffiidchcaaGreatQVcG
import Derived.Test.YtfenmffiidchcaaGreatQVcF
namespace Go.Proofs.YtfenmffiidchcaaGreat
set_option linter.unusedVariables false
set_option maxRecDepth 100000
open Go.RowKit
theorem mn.mono{H w}(y:bw.le H w){x:oP}{t:dR}(h:mn H x t):mn w x t:=⟨h.1,h.2,h.3,h.4.mono y,h.5.mono y⟩
theorem q9(X:Chunk)(v:Value)(q:List UInt8)(hq:ie X v q)(hN:q.length<=10000000000):SP 173 [v] [X] (uL X q):=by
 intro W F w hS;apply b4o;delta Kw aF a7 ai bI;(try simp only[app]at hS)
 refine Cc (Qi X v q hq hN) ?_;clear hS
 rintro r post ⟨u,es,he,rfl,rfl⟩ w hS;(try simp only[app]at hS)
 have hr:=Tw he
 have iR:∀{w:World},jK q=none->SL W (X::F) w->∃post,uL X q (.tuple #[.int .i64 0,.slice none 0 0,.int .i64 0,.int .i64 3]) post/\SL W (app post F) w:=λh hS=>⟨[X],by unfold uL;rw[h];exact⟨rfl,rfl⟩,hS⟩
 refine Gp ?_
 refine zt hS (v:=u) (t:=62) (sz:=1) (n:=es.length) (cells:=iS es) Xh ?_
 refine bW (λh=>?_) (λh=>?_)
 ·have:es=[]:=List.eq_nil_of_length_eq_zero (by omega)
  subst this
  exact iR hr (aR hS)
 ·obtain⟨e,es,rfl⟩:∃e w6,es=e::w6:=by
   cases es with
   | nil=>simp at h
   | cons e es=>exact⟨e,es,rfl⟩
  have hr:jK q=(pr e.2).map λk=>(k,nq es,(lA q).2):=hr
  refine z8 (j:=0) hS (v:=u) (t:=62) (n:=(e::es).length) (cells:=iS (e::es)) Xh (by simp) (u:=e.1) rfl ?_
  have hS:=zh.take (t:=0) (x:=e) (SL.b4 hS (t:=.ob (zh ji (e::es))::.ob (a_ u 62 1 (e::es).length (iS (e::es)))::X::F) Xi) rfl
  have e3:(e::es).eraseIdx 0=es:=rfl
  rw[e3]at hS
  have hR:ie (.ob (ji e)) e.1 e.2:=ie.own
  have pO:e.2.length<=1048576:=(TU (q.length+1) q (by omega)).1 e.2 (by rw[<- he];simp[nq])
  refine Cc (yP (.ob (ji e)) e.1 e.2 hR (by omega)) ?_;clear hS
  intro r post hQ w hS
  unfold rH at hQ
  unfold pr at hr
  cases hd:lu e.2 with
  | error k=>
   rw[hd]at hQ hr
   obtain⟨rfl,rfl⟩:=hQ
   (try simp only[app]at hS);refine Gp ?_
   have hk:k≠0:=by
    intro hk
    rw[BG]at hd
    split at hd
    ·cases hd
    ·rename_i h0
     cases hd;exact h0 hk
   refine za (λ_=>?_) (λh=>absurd hk h)
   exact iR hr (aR hS)
  | ok l=>
   rw[hd]at hQ hr
   obtain⟨y,rfl,rfl⟩:=hQ
   (try simp only[app]at hS);refine Gp ?_
   refine za (λh=>absurd rfl h) (λ_=>?_)
   refine zt hS (v:=y) (t:=174) (sz:=3) (n:=l.length) (cells:=(l.map iD).flatten) Xh ?_
   refine bW (λh1=>?_) (λh1=>?_)
   ·have:AB l=none:=by
     match l,h1 with
     | [],_=>rfl
     | [x],h1=>simp at h1
     | _::_::_,_=>rfl
    simp only[this,Option.map_none]at hr
    exact iR hr (aR hS)
   ·obtain⟨x,rfl⟩:∃x,l=[x]:=List.length_eq_one_iff.1 (by omega)
    have hx:AB [x]=if x.kind=1/\1<=x.n/\x.n<=1099511627776 then some x.n else none:=rfl
    simp only[hx]at hr
    refine zy (j:=0) (i:=0) (x:=x) (xs:=[x]) hS (v:=y) (t:=174) (sz:=3) (n:=1) Xh pL rfl (by omega) (u:=.int .i64 x.kind) rfl ?_
    refine bW (λh2=>?_) (λh2=>?_)
    ·rw[if_neg (by omega)]at hr
     exact iR hr (aR hS)
    ·refine zy (j:=0) (i:=1) (x:=x) (xs:=[x]) hS (v:=y) (t:=174) (sz:=3) (n:=1) Xh pL rfl (by omega) (u:=.int .i64 x.n) rfl ?_
     refine bW (λh3=>?_) (λh3=>?_)
     ·rw[if_neg (by omega)]at hr
      exact iR hr (aR hS)
     ·refine zy (j:=0) (i:=1) (x:=x) (xs:=[x]) hS (v:=y) (t:=174) (sz:=3) (n:=1) Xh pL rfl (by omega) (u:=.int .i64 x.n) rfl ?_
      refine bW (λh4=>?_) (λh4=>?_)
      ·rw[if_neg (by omega)]at hr
       exact iR hr (aR hS)
      ·rw[if_pos ⟨by omega,by omega,by omega⟩]at hr
       refine Gn λw hS=>?_
       refine zy (j:=0) (i:=1) (x:=x) (xs:=[x]) hS (v:=y) (t:=174) (sz:=3) (n:=1) Xh pL rfl (by omega) (u:=.int .i64 x.n) rfl ?_
       have hS:=f_.of (SL.b4 hS (t:=.ob (a_ u 62 1 (e::es).length (iS (e::es)))::.ob (zh ji es)::X::F) Xi)
       refine Qp (k:=1) hS (by simp) ?_
       clear hS;intro z hS
       have e1:(e::es).length-1=es.length:=by simp
       have e2:(iS (e::es)).drop (1*1)=iS es:=rfl
       rw[e1,e2]at hS
       refine⟨[.ob (f_ z 62 1 es.length (iS es)),.ob (zh ji es),X],?_,aR hS⟩
       unfold uL
       rw[hr]
       exact⟨z,es,rfl,rfl,rfl⟩
def oC(base:Int)(ys:List YF):List YF:=ys.filter λy=>decide (base<=y.1.id/\y.1.id<base+4096)
theorem a72{base:Int}{ys:List YF}{R:List PF}(h:ys.map Prod.fst=R):(oC base ys).map (λy=>y.1.id)=jD base R:=by
 subst h
 unfold jD oC
 rw[List.map_map,List.filter_map]
 rfl
theorem a73{base:Int}{ys:List YF}{y:YF}(h:y∈oC base ys):y∈ys:=(List.mem_filter.1 h).1
theorem bFq(H:bw)(xp:Nat)(s:DS)(fv:Value)(ys:List YF)(k_:sm H ys)(base:Int)(b0:0<=base)(b1:base<=12288)(tI:ys.length<=100000):
  SP 172 [.pointer (some ⟨xp,0,none⟩),.int .i64 base] [.pt xp (ku fv s) 66,.ob (jT fv ys)]
   (λv post=>post=[.ob (jT v (oC base ys)),.pt xp (ku fv s) 66,.ob (jT fv ys)]):=by
 intro W F w hS;apply b4n;delta Kv aF bF a7 ai bI;(try simp only[app]at hS)
 have BW:SL W (.ob (jT (.slice none 0 0) (oC base (ys.take 0)))::.pt xp (ku fv s) 66::.ob (jT fv ys)::F) w:=a_.nil hS
 refine⟨λvs w=>∃(u:Value) (i:Nat),i<=ys.length/\vs=[u,.int .i64 i]/\SL W (.ob (jT u (oC base (ys.take i)))::.pt xp (ku fv s) 66::.ob (jT fv ys)::F) w,
  λvs _=>match vs with|[_,.int _ i]=>(ys.length-i).toNat|_=>0,⟨_,0,by omega,rfl,BW⟩,?_⟩
 clear hS BW
 rintro v5 v6 w ⟨u,i,hi,jy,hS⟩
 cases jy
 refine Gp ?_
 refine zt hS (v:=fv) (t:=186) (sz:=3) (n:=ys.length) (cells:=(ys.map jw).flatten) Xh ?_
 refine bW (λh=>?_) (λh=>?_)
 ·have b3:i<ys.length:=by omega
  have hx:ys[i]?=some ys[i]:=List.getElem?_eq_getElem b3
  have lL:oC base (ys.take (i+1))=oC base (ys.take i)++if base<=ys[i].1.id/\ys[i].1.id<base+4096 then [ys[i]] else []:=by
   unfold oC
   rw[List.take_add_one,hx,List.filter_append]
   congr 1
   simp only[Option.toList_some,List.filter_cons,List.filter_nil,decide_eq_true_eq]
  have Hm:(oC base (ys.take i)).length<=100000:=by
   unfold oC
   have:=List.length_filter_le (λy:YF=>decide (base<=y.1.id/\y.1.id<base+4096)) (ys.take i)
   rw[List.length_take]at this;omega
  have lW:=(k_ _ (List.getElem_mem b3)).one
  generalize ys[i]=y at *
  refine Gp ?_
  refine zy (i:=0) hS (v:=fv) (t:=186) Xh nG hx b3 (u:=.int .i64 y.1.id) rfl ?_
  refine bW (λh1=>?_) (λh1=>?_)
  ·refine Gp ?_
   refine zy (i:=0) hS (v:=fv) (t:=186) Xh nG hx b3 (u:=.int .i64 y.1.id) rfl ?_
   refine bW (λh2=>?_) (λh2=>?_)
   ·rw[if_pos ⟨by omega,h2⟩]at lL
    refine Gp ?_
    refine zV hS (v:=fv) (t:=186) Xh nG hx b3 ?_
    refine zz (cells:=jw y) hS rfl ?_
    clear hS;intro p w hS
    have xc:∀v∈jw y,v.oneCell'=true:=by
     intro v hv
     simp only[jw,List.mem_cons,List.not_mem_nil,or_false]at hv
     rcases hv with rfl|rfl|rfl
     ·rfl
     ·rfl
     ·exact lW
    refine zx (m:=1) (cs:=jw y) hS Xr (lP hS .hd rfl) rfl rfl xc (by omega) (by omega) ?_
    clear hS;intro u' w hS
    refine Gp ?_
    have e1:(oC base (ys.take i)).length+1=(oC base (ys.take (i+1))).length:=by rw[lL,List.length_append];rfl
    have e2:((oC base (ys.take i)).map jw).flatten++jw y=((oC base (ys.take (i+1))).map jw).flatten:=by rw[lL];simp
    rw[e1,e2]at hS
    exact⟨⟨u',i+1,by omega,rfl,aR hS⟩,by dsimp only;omega⟩
   ·rw[if_neg (by omega),List.append_nil]at lL
    refine Gp ?_
    exact⟨⟨_,i+1,by omega,rfl,by rw[lL];exact hS⟩,by dsimp only;omega⟩
  ·rw[if_neg (by omega),List.append_nil]at lL
   refine Gp ?_
   exact⟨⟨_,i+1,by omega,rfl,by rw[lL];exact hS⟩,by dsimp only;omega⟩
 ·obtain rfl:i=ys.length:=by omega
  rw[List.take_length]at hS
  exact⟨_,rfl,hS⟩
def nC(t:Option wI):Int:=match t with
 | none=>-1
 | some x=>x.file
abbrev my(sv:Value)(xp:Nat)(base size t:Int):List Value:=[.pointer (some ⟨xp,0,none⟩),.int .i64 base,.int .i64 size,sv,.int .i64 t]
abbrev lN(sv:Value)(xs:List d_):Chunk:=.ob (f_ sv 259 4 xs.length (xs.map iP).flatten)
def il(lp xp:Nat)(g:g8):zC:=mX λx:Value × List d_=>zQ (x.2.map d_.pl=g.bR) [.pt lp (my x.1 xp g.base g.size (nC g.ia)) 254,lN x.1 x.2,.ob (zh gI x.2)]
theorem il.iff{W w:World}{lp xp:Nat}{g:g8}{l:List Chunk}:SL W (.ob (il lp xp g)::l) w↔∃sv xs,xs.map d_.pl=g.bR/\SL W (.pt lp (my sv xp g.base g.size (nC g.ia)) 254::lN sv xs::.ob (zh gI xs)::l) w:=by
 unfold il
 simp only[SL.ex,SL.fact,List.cons_append,List.nil_append]
 exact⟨λ⟨x,h1,h2⟩=>⟨x.1,x.2,h1,h2⟩,λ⟨a,b,h1,h2⟩=>⟨(a,b),h1,h2⟩⟩
theorem il.close{W w:World}{lp xp:Nat}{g:g8}{l F:List Chunk}{sv:Value}{xs:List d_}(h:SL W l w)(hx:xs.map d_.pl=g.bR)(k:ml (.pt lp (my sv xp g.base g.size (nC g.ia)) 254::lN sv xs::.ob (zh gI xs)::F) l):SL W (app [.ob (il lp xp g)] F) w:=
 il.iff.2 ⟨sv,xs,hx,h.b4 k⟩
theorem il.Dp{W w:World}{lp xp:Nat}{L:List fW}{base size:Int}{l F:List Chunk}{sv:Value}{xs:List d_}(h:SL W l w)(hx:xs.map d_.pl=L)(k:ml (.pt lp (my sv xp base size (-1)) 254::lN sv xs::.ob (zh gI xs)::F) l):SL W (app [.ob (il lp xp ⟨L,base,size,none⟩)] F) w:=
 il.iff.2 ⟨sv,xs,hx,h.b4 k⟩
theorem il.Tc{W w:World}{lp xp:Nat}{L:List fW}{base size:Int}{F:List Chunk}(h:SL W (.ob (il lp xp ⟨L,base,size,none⟩)::F) w):∃sv xs,xs.map d_.pl=L/\SL W (.pt lp (my sv xp base size (-1)) 254::lN sv xs::.ob (zh gI xs)::F) w:=il.iff.1 h
section
variable {W w:World} {l:List Chunk}
theorem bIz{v:Value}{xs:List d_}{j:Nat}{k:IntKind}{K:Value->Prop}(h:SL W l w)(m:Has (lN v xs) l)(hj:j<xs.length)(hK:K (.agg (iP xs[j]).toArray)):ze 4 v (.int k (j:Int)) λp=>zj 4 p w K:=by
 refine yC h m hj λb o hb=>⟨⟨b,o,none⟩,iP xs[j],rfl,rfl,λi u hu=>?_,hK⟩
 rw[Addr.add_lit]
 have hi:i<4:=(List.getElem?_eq_some_iff.1 hu).1
 exact hb i u hi (w7 vA hj hu)
theorem yk{v u:Value}{xs:List d_}{i j:Nat}{k:IntKind}{K:Value->Prop}(h:SL W l w)(m:Has (lN v xs) l)(hj:j<xs.length)(hu:(iP xs[j])[i]?=some u)(hK:K u):ze 4 v (.int k (j:Int)) λp=>zr i p λq=>b6 q w K:=by
 refine yC h m hj λb o hb=>?_
 refine zR ?_
 have hi:i<4:=(List.getElem?_eq_some_iff.1 hu).1
 exact⟨_,u,rfl,hb i u hi (w7 vA hj hu),hK⟩
end
theorem yd(lp xp:Nat)(sv:Value)(xs:List d_)(base size t:Int)(hl:xs.length<=1000000000000000):SP 175 [.pointer (some ⟨lp,0,none⟩)] [.pt lp (my sv xp base size t) 254,lN sv xs]
  (dW (.int .i64 ((xs.length:Int)-1)) [.pt lp (my sv xp base size t) 254,lN sv xs]):=by
 intro W F w hS;apply b4q;delta Ky bF ai;(try simp only[app]at hS)
 refine Gp ?_
 refine zW hS (v:=sv) (t:=259) (sz:=4) (n:=xs.length) (cells:=(xs.map iP).flatten) Xh ?_
 refine Gp ?_
 exact⟨_,⟨rfl,rfl⟩,hS⟩
theorem Zz(lp xp:Nat)(g:g8){M:Nat}(hg:g.Ok M)(hM:M<=1000000000000):SP 87 [.pointer (some ⟨lp,0,none⟩)] [.ob (il lp xp g)] (dW (.int .i64 (jB g.bR)) [.ob (il lp xp g)]):=by
 intro W F w hS;apply b9g;delta Nk aF bF a7 ai;(try simp only[app]at hS)
 obtain⟨sv,xs,hx,hS⟩:=il.iff.1 hS
 obtain⟨h1,h2,_,_⟩:=hg.xs hx
 refine Gp ?_
 refine zW hS (v:=sv) (t:=259) (sz:=4) (n:=xs.length) (cells:=(xs.map iP).flatten) Xh ?_
 refine bW (λh0=>?_) (λh0=>?_)
 ·have:xs=[]:=List.eq_nil_of_length_eq_zero (by omega)
  have e:jB g.bR=1:=by rw[<- hx,this];rfl
  rw[e]
  exact⟨_,⟨rfl,rfl⟩,il.close hS hx Xi⟩
 ·cases xs with
  | nil=>simp at h0
  | cons x xs=>
   have e:jB g.bR=x.first:=by rw[<- hx];rfl
   rw[e]
   refine Gp ?_
   refine yk (j:=0) (i:=1) hS Xh (by simp) (u:=.int .i64 x.first) rfl ?_
   exact⟨_,⟨rfl,rfl⟩,il.close hS hx Xi⟩
theorem yZ(lp xp:Nat)(sv:Value)(xs:List d_)(base size t:Int){M:Nat}(h1:∀s∈xs.map d_.pl,mO s M)(h2:xs.length<=1000000000000)(hM:M<=1000000000000):SP 86 [.pointer (some ⟨lp,0,none⟩)] [.pt lp (my sv xp base size t) 254,lN sv xs] (dW (.int .i64 (b9 (xs.map d_.pl))) [.pt lp (my sv xp base size t) 254,lN sv xs]):=by
 intro W F w hS;apply b9f;delta Nj aF bF a7 aW dI ai bI;(try simp only[app]at hS)
 refine Gp ?_
 refine zW hS (v:=sv) (t:=259) (sz:=4) (n:=xs.length) (cells:=(xs.map iP).flatten) Xh ?_
 refine bW (λh0=>?_) (λh0=>?_)
 ·have:xs=[]:=List.eq_nil_of_length_eq_zero (by omega)
  have e:b9 (xs.map d_.pl)=0:=by rw[this];rfl
  rw[e]
  exact eF hS
 ·refine Gn λw hS=>?_
  have hj:xs.length-1<xs.length:=by omega
  have G0:b9 (xs.map d_.pl)=(xs[xs.length-1]'hj).first-1+((xs[xs.length-1]'hj).es.length:Nat):=by
   unfold b9
   rw[List.getLast?_map,List.getLast?_eq_getElem?,List.getElem?_eq_getElem hj]
   show (xs[xs.length-1]'hj).pl.next-1=_
   rw[UG];omega
  have b5:=h1 _ (List.mem_map.2 ⟨_,List.getElem_mem hj,rfl⟩)
  have e:((xs.length:Nat):Int)-1=((xs.length-1:Nat):Int):=by omega
  have k1:1<=(xs[xs.length-1]'hj).first:=b5.n0
  have k2:(xs[xs.length-1]'hj).first<=1099511627776:=b5.n1
  have k3:(xs[xs.length-1]'hj).es.length<=M:=by have:=b5.ln;simpa [d_.pl,s8] using this
  have aFb:∀{w:World} {l:List Chunk} {K:Value->Prop},SL W l w->Has (lN sv xs) l->K (.agg #[.int .i64 (xs[xs.length-1]'hj).file,.int .i64 (xs[xs.length-1]'hj).first,.int .i64 ((xs[xs.length-1]'hj).size:Nat),.slice (xs[xs.length-1]'hj).a (xs[xs.length-1]'hj).es.length (xs[xs.length-1]'hj).c])->ze 4 sv (.int .i64 ((xs.length-1:Nat):Int)) λp=>zj 4 p w K:=λhS m hK=>bIz hS m hj hK
  have aFc:∀{w:World} {l:List Chunk} {K:Value->Prop},SL W l w->Has (lN sv xs) l->(∀p,(∀(w':World) (l':List Chunk) (K':Value->Prop),SL W l' w'->Has (lN sv xs) l'->K' (.agg #[.int .i64 (xs[xs.length-1]'hj).file,.int .i64 (xs[xs.length-1]'hj).first,.int .i64 ((xs[xs.length-1]'hj).size:Nat),.slice (xs[xs.length-1]'hj).a (xs[xs.length-1]'hj).es.length (xs[xs.length-1]'hj).c])->zj 4 p w' K')->K p)->ze 4 sv (.int .i64 ((xs.length-1:Nat):Int)) K:=by
   intro w l K hS m hK
   obtain⟨l2,r⟩:=m.rem
   rcases f_.open (hS.perm r.perm) with ⟨_,Gz,_⟩|⟨b,pre,cap,rest,Cy,hc,hl,hr,_⟩
   ·omega
   ·rw[Cy]
    refine zB hj (hK _ λw' l' K' kA m' XQ=>?_)
    obtain⟨l3,r3⟩:=m'.rem
    rcases f_.open (kA.perm r3.perm) with ⟨_,Gz,_⟩|⟨b',cFg,uS,cFh,Ht,xg,xq,AK,vW⟩
    ·omega
    ·rw[Cy]at Ht
     simp only[Value.slice.injEq,Option.some.injEq,Addr.mk.injEq,true_and,and_true]at Ht
     obtain⟨⟨rfl,jO⟩,rfl⟩:=Ht
     rw[jO]
     refine⟨_,_,rfl,rfl,λi u hu=>?_,XQ⟩
     rw[Addr.add_lit]
     refine vW.cell .hd ?_
     have hi:i<4:=(List.getElem?_eq_some_iff.1 hu).1
     have:=w7 vA hj (i:=i) (u:=u) hu
     rw[Nat.add_assoc,List.getElem?_append_right (by omega),Nat.add_sub_cancel_left,List.getElem?_append_left (List.getElem?_eq_some_iff.1 this).1]
     exact this
  rw[G0]
  generalize xs[xs.length-1]'hj=x at *
  refine⟨?_,?_⟩
  ·refine Cg (yd lp xp sv xs base size t (by omega)) λw hS=>?_
   rw[e]
   refine aFc hS Xh λp hp=>?_
   refine hp _ _ _ hS Xh ?_
   refine Gm λb w hS=>?_
   refine hp _ _ _ hS Xh ?_
   refine Gn λw hS=>?_
   exact eF hS
  ·refine Gm λb w hS=>?_
   refine Cg (yd lp xp sv xs base size t (by omega)) λw hS=>?_
   rw[e]
   refine aFb hS Xh ?_
   refine Gn λw hS=>?_
   exact eF hS
theorem zZ(lp xp:Nat)(g:g8){M:Nat}(hg:g.Ok M)(hM:M<=1000000000000):SP 86 [.pointer (some ⟨lp,0,none⟩)] [.ob (il lp xp g)] (dW (.int .i64 (b9 g.bR)) [.ob (il lp xp g)]):=by
 intro W F w hS
 obtain⟨sv,xs,hx,hS⟩:=il.iff.1 hS
 obtain⟨h1,h2,_,_⟩:=hg.xs hx
 refine Cc (yZ lp xp sv xs g.base g.size (nC g.ia) h1 (by omega) hM) ?_;clear hS
 rintro v post ⟨rfl,rfl⟩ w hS;(try simp only[app]at hS)
 rw[hx]
 exact⟨_,⟨rfl,rfl⟩,il.close hS hx Xi⟩
theorem qq(lp xp:Nat)(g:g8)(n:Int){M:Nat}(hg:od g M)(hM:M<=1000000000000)(hn : -9000000000000000000<=n/\n<=9000000000000000000):
  SP 179 [.pointer (some ⟨lp,0,none⟩),.int .i64 n] [.ob (il lp xp g)] (Bq [.ob (il lp xp g)] (lj g.bR n)):=by
 intro W F w hS;apply b4u;delta KC aF bF a7 ai bI;(try simp only[app]at hS)
 refine Cg (Zz lp xp g hg.ok hM) λw hS=>?_
 refine za (λh1=>?_) (λh1=>?_)
 ·rw[Tv g.bR n hg.seq (λs _=>by omega) h1]
  exact⟨_,⟨rfl,rfl⟩,hS⟩
 ·skip
  refine Cg (zZ lp xp g hg.ok hM) λw hS=>?_
  refine za (λh2=>?_) (λh2=>?_)
  ·rw[Tt g.bR n hg.seq h2]
   exact⟨_,⟨rfl,rfl⟩,hS⟩
  ·have xj:tg g.bR n=lj g.bR n:=O7 g.bR n hg.seq λs hs=>by
    cases hL:g.bR with
    | nil=>rw[hL]at hs;cases hs
    | cons a r=>
     rw[hL]at hs h1
     cases hs
     have:¬n<s.first:=h1
     omega
   rw[<- xj]
   obtain⟨sv,xs,hx,hS⟩:=il.iff.1 hS
   obtain⟨b5,hl,_,_⟩:=hg.ok.xs hx
   have Cv:k6 (xs.map d_.pl):=by rw[hx];exact hg.seq
   have Rg:∀s,((xs.drop 0).map d_.pl).head?=some s->s.first<=n:=by
    intro s hs
    rw[List.drop_zero]at hs
    cases xs with
    | nil=>cases hs
    | cons a r=>
     cases hs
     have:¬n<jB g.bR:=h1
     rw[<- hx]at this
     have:¬n<a.pl.first:=this
     omega
   rw[<- hx]
   refine⟨λvs w=>∃i:Nat,i<=xs.length/\vs=[.int .i64 i]/\tg (xs.map d_.pl) n=tg ((xs.drop i).map d_.pl) n/\(∀s,((xs.drop i).map d_.pl).head?=some s->s.first<=n)/\SL W (.pt lp (my sv xp g.base g.size (nC g.ia)) 254::lN sv xs::.ob (zh gI xs)::F) w,
    λvs _=>match vs with|[.int _ i]=>xs.length-i.toNat|_=>0,⟨0,by omega,rfl,rfl,Rg,aR hS⟩,?_⟩
   clear hS Rg
   rintro v6 w ⟨i,hi,hv,hr,Cl,hS⟩
   cases hv
   rw[hr]
   refine Gp ?_
   refine zW hS (v:=sv) (t:=259) (sz:=4) (n:=xs.length) (cells:=(xs.map iP).flatten) Xh ?_
   refine bW (λh0=>?_) (λh0=>?_)
   ·have hj:i<xs.length:=by omega
    have RU:xs[i]?=some xs[i]:=List.getElem?_eq_getElem hj
    have b5:=b5 _ (List.mem_map.2 ⟨_,List.getElem_mem hj,rfl⟩)
    have B4:(xs.drop i).map d_.pl=xs[i].pl::(xs.drop (i+1)).map d_.pl:=by rw[List.drop_eq_getElem_cons hj];rfl
    have Hp:=Cv.drop i
    rw[<- List.map_drop,B4]at Hp
    rw[B4]at Cl ⊢
    have awf:=Cl _ rfl
    have lL:tg (xs[i].pl::(xs.drop (i+1)).map d_.pl) n=if n-xs[i].pl.first<xs[i].pl.l.length then xs[i].pl.l[(n-xs[i].pl.first).toNat]? else tg ((xs.drop (i+1)).map d_.pl) n:=rfl
    rw[lL]
    have ry:¬n-xs[i].pl.first<xs[i].pl.l.length->∀s,((xs.drop (i+1)).map d_.pl).head?=some s->s.first<=n:=by
     intro h s hs
     cases hL:(xs.drop (i+1)).map d_.pl with
     | nil=>rw[hL]at hs;cases hs
     | cons a r=>
      rw[hL]at hs Hp
      cases hs
      have:=Hp.1
      simp only[fW.next]at this
      omega
    have k1:=b5.n0
    have k2:=b5.n1
    refine Gp ?_
    refine yk (i:=1) hS Xh hj (u:=.int .i64 xs[i].first) rfl ?_
    have e1:xs[i].pl.first=xs[i].first:=rfl
    have e2:xs[i].pl.l.length=xs[i].es.length:=by simp[d_.pl,s8]
    have e3:xs[i].pl.l=nq xs[i].es:=rfl
    rw[e1]at k1 k2 awf
    refine Gp ?_
    refine yk (i:=3) hS Xh hj (u:=.slice xs[i].a xs[i].es.length xs[i].c) rfl ?_
    refine bW (λh3=>?_) (λh3=>?_)
    ·rw[if_pos (by rw[e1,e2];exact h3)]
     obtain⟨j,G4⟩:=Int.eq_ofNat_of_zero_le (show 0<=n-xs[i].first by omega)
     have jX:j<xs[i].es.length:=by omega
     refine Gm λb w hS=>?_
     have hS:=a_.full (n:=0) (sz:=1) rfl hS
     refine yk (i:=3) hS Xh hj (u:=.slice xs[i].a xs[i].es.length xs[i].c) rfl ?_
     rw[e1,G4]
     have hS:=zh.take (SL.b4 hS (t:=.ob (zh gI xs)::.ob (a_ (.slice (some ⟨b,0,none⟩) 0 0) 5 1 0 [])::.pt lp (my sv xp g.base g.size (nC g.ia)) 254::lN sv xs::F) Xi) RU
     have hS:=gI.iff.1 hS
     unfold d_.lv at hS
     refine yC (j:=j) hS .hd jX λp o hb=>?_
     have B7:xs[i].es[j]?=some xs[i].es[j]:=List.getElem?_eq_getElem jX
     have o8:(iS xs[i].es)[j*1+0]?=some xs[i].es[j].1:=by simp[iS,jX]
     refine⟨_,_,rfl,hb 0 _ (by omega) o8,?_⟩
     have hS:=zh.take (SL.b4 hS (t:=.ob (zh ji xs[i].es)::.ob (f_ (.slice xs[i].a xs[i].es.length xs[i].c) 62 1 xs[i].es.length (iS xs[i].es))::.ob (zh gI (xs.eraseIdx i))::.ob (a_ (.slice (some ⟨b,0,none⟩) 0 0) 5 1 0 [])::.pt lp (my sv xp g.base g.size (nC g.ia)) 254::lN sv xs::F) Xi) B7
     have u0:xs[i].es[j].2.length<=1048576:=b5.bl _ (List.mem_map.2 ⟨_,List.getElem_mem jX,rfl⟩)
     have GU:xs[i].pl.l[((j:Int)).toNat]?=some xs[i].es[j].2:=by rw[e3];simp[nq,jX]
     rw[GU]
     have hR:ie (.ob (ji xs[i].es[j])) xs[i].es[j].1 xs[i].es[j].2:=ie.own
     refine zx (t:=5) (sz:=1) (n:=0) (cells:=[]) (m:=xs[i].es[j].2.length) (cs:=xs[i].es[j].2.map cR) hS Xr (hR.src hS .hd) (by simp) rfl (nk _) (by omega) (by omega) ?_
     clear hS;intro u w hS
     rw[Nat.zero_add,List.nil_append]at hS
     have hS:=zh.back (SL.b4 hS (t:=.ob (ji xs[i].es[j])::.ob (zh ji (xs[i].es.eraseIdx j))::.ob (f_ (.slice xs[i].a xs[i].es.length xs[i].c) 62 1 xs[i].es.length (iS xs[i].es))::.ob (a_ u 5 1 xs[i].es[j].2.length (xs[i].es[j].2.map cR))::.ob (zh gI (xs.eraseIdx i))::.pt lp (my sv xp g.base g.size (nC g.ia)) 254::lN sv xs::F) Xi) B7
     have hS:=(gI.iff (x:=xs[i])).2 (SL.b4 hS (t:=.ob (f_ (.slice xs[i].a xs[i].es.length xs[i].c) 62 1 xs[i].es.length (iS xs[i].es))::.ob (zh ji xs[i].es)::.ob (a_ u 5 1 xs[i].es[j].2.length (xs[i].es[j].2.map cR))::.ob (zh gI (xs.eraseIdx i))::.pt lp (my sv xp g.base g.size (nC g.ia)) 254::lN sv xs::F) Xi)
     have hS:=zh.back (SL.b4 hS (t:=.ob (gI xs[i])::.ob (zh gI (xs.eraseIdx i))::.ob (a_ u 5 1 xs[i].es[j].2.length (xs[i].es[j].2.map cR))::.pt lp (my sv xp g.base g.size (nC g.ia)) 254::lN sv xs::F) Xi) RU
     have hS:=il.close (lp:=lp) (xp:=xp) (F:=.ob (a_ u 5 1 xs[i].es[j].2.length (xs[i].es[j].2.map cR))::F) hS hx Xi
     exact⟨_,⟨u,rfl,rfl⟩,aR hS⟩
    ·rw[if_neg (by rw[e1,e2];exact h3)]
     refine Gp ?_
     exact⟨⟨i+1,by omega,rfl,rfl,ry (by rw[e1,e2];exact h3),aR hS⟩,by simp only[Int.toNat_natCast];omega⟩
   ·have:xs.drop i=[]:=List.drop_eq_nil_of_le (by omega)
    rw[this]
    exact⟨_,⟨rfl,rfl⟩,il.close hS hx Xi⟩
def C9(H:bw)(xp:Nat)(y:DS × Except Int g8)(r:Value)(post:List Chunk):Prop:=match y.2 with
 | .error e=>e≠0/\r= .tuple #[.pointer none,.int .i64 e]/\∃H',H.le H'/\post=[.ob (eW H' xp y.1),.mem H']
 | .ok g=>∃(lp:Nat) (H':bw),H.le H'/\r= .tuple #[.pointer (some ⟨lp,0,none⟩),.int .i64 0]/\post=[.ob (il lp xp g),.ob (eW H' xp y.1),.mem H']
structure Jw(R:List PF)(ids:List Int)(i:Nat)(L:List fW)(wh:Bool)(next:Int)(M:Nat):Prop where
 le:i<=ids.length
 eq:mK R ids none [] true=mK R (ids.drop i) (if i=0 then none else ids[i-1]?) L wh
 len:(wh=true/\L.length=i)\/(wh=false/\i=ids.length/\L.length+1=i)
 next:0<i->wh=true->next=b9 L+1
 ok:∀s∈L,mO s M
theorem bFh(H:bw)(xp:Nat)(s:DS)(base size:Int){N B:Nat}(b5:s.Ok B)(hB:B<=140737488355328)(hw:sr s.R base N)(hN:N<=1000000000)(hR:s.R.length<=100000)(iO:s.ops<=100000):
  SP 84 [.pointer (some ⟨xp,0,none⟩),.int .i64 base,.int .i64 size] [.ob (eW H xp s),.mem H] (C9 H xp (kE s base size)):=by
 intro W F w hS;apply b9d;delta Nh aF bF a7 fI aW dI c_ ai eI bI;(try simp only[app]at hS)
 have hE:∀{w:World} {e:Int},kE s base size=(s,.error e)->e≠0->SL W (.ob (eW H xp s)::.mem H::F) w->∃post,C9 H xp (kE s base size) (.tuple #[.pointer none,.int .i64 e]) post/\SL W (app post F) w:=λh he hS=>⟨[.ob (eW H xp s),.mem H],by rw[h];exact⟨he,rfl,H,bw.le_refl H,rfl⟩,hS⟩
 by_cases xf:base<0\/12288<base\/size<64\/65536<size
 ·have e:kE s base size=(s,.error 1):=by unfold kE;rw[if_pos xf]
  refine Gp ?_
  refine za (λh=>hE e (by decide) hS) (λh1=>?_)
  refine Gp ?_
  refine za (λh=>hE e (by decide) hS) (λh2=>?_)
  refine Gp ?_
  refine za (λh=>hE e (by decide) hS) (λh3=>?_)
  refine Gp ?_
  refine za (λh=>hE e (by decide) hS) (λh4=>by omega)
 ·refine Gp ?_
  refine za (λh=>by omega) (λ_=>?_)
  refine Gp ?_
  refine za (λh=>by omega) (λ_=>?_)
  refine Gp ?_
  refine za (λh=>by omega) (λ_=>?_)
  refine Gp ?_
  refine za (λh=>by omega) (λ_=>?_)
  obtain⟨fv,ys,⟨he,k_⟩,hS⟩:=eW.iff.1 hS
  have tI:ys.length=s.R.length:=by rw[<- he,List.length_map]
  have kH:∀{w:World} {l F':List Chunk},SL W l w->ky [.pt xp (ku fv s) 66,.ob (jT fv ys)] l F'->SL W (.ob (eW H xp s)::F') w:=λh k=>eW.iff.2 ⟨fv,ys,⟨he,k_⟩,h.pick k⟩
  refine Gp ?_
  refine y3 (λho=>?_) (λho=>?_)
  ·have e:kE s base size=(s,.error 8):=by unfold kE;rw[if_neg xf,if_pos ho]
   exact hE e (by decide) (SL.b4 (kH hS Xp) Xi)
  ·have eo:kE s base size=match mK s.R (jD base s.R) none [] true with
    | none=>(s,.error 3)
    | some (L,whole)=>if (lr L s (jD base s.R) whole).2≠0 then ((lr L s (jD base s.R) whole).1,.error (lr L s (jD base s.R) whole).2) else ((lr L s (jD base s.R) whole).1,.ok ⟨L,base,size,none⟩):=by
    unfold kE;rw[if_neg xf,if_neg (by rw[ho];decide)];rfl
   have hi:∀f∈jD base s.R,base<=f/\f<base+4096:=λf hf=>HI hf
   have b3:=HH base s.R
   have Ca:=a72 (base:=base) he
   refine Gp ?_
   refine⟨_,rfl,zJ hS ?_⟩
   clear hS;intro lp w hS
   refine Cc (bFq H xp s fv ys k_ base (by omega) (by omega) (by omega)) ?_;clear hS
   rintro ov post rfl w hS;(try simp only[app]at hS)
   have hS:=f_.r9 (a:=none) (t:=259) (sz:=4) hS
   have hS:=zh.nil (A:=gI) hS
   have hS:=SL.b4 hS (t:=.pt lp (my (.slice none 0 0) xp base size (-1)) 254::.ob (f_ (.slice none 0 0) 259 4 0 [])::.ob (zh gI [])::.ob (jT ov (oC base ys))::.pt xp (ku fv s) 66::.ob (jT fv ys)::.mem H::F) Xi
   have hS:=(il.iff (g:=⟨[],base,size,none⟩)).2 ⟨_,[],rfl,hS⟩
   have CH:∀y∈oC base ys,y∈ys:=λy hy=>a73 hy
   generalize hzs:oC base ys=zs at *
   generalize b_6:jD base s.R=ids at *
   have CG:zs.length=ids.length:=by rw[<- Ca,List.length_map]
   have xk:∀j (h:j<zs.length) (h':j<ids.length),ids[j]=zs[j].1.id:=λj h h'=>by
    have:ids[j]?=some zs[j].1.id:=by rw[<- Ca,List.getElem?_map,List.getElem?_eq_getElem h];rfl
    rw[List.getElem?_eq_getElem h']at this
    exact Option.some.inj this
   have Rc:∀j (h:j<zs.length),ij PF.id s.R zs[j].1.id=some zs[j].1:=λj h=>Aq b5.sorted (by rw[<- he];exact List.mem_map.2 ⟨_,CH _ (List.getElem_mem h),rfl⟩)
   have DJ:∀{w:World} {l F':List Chunk},mK s.R ids none [] true=none->SL W (.ob (eW H xp s)::.mem H::F) w->∃post,C9 H xp (kE s base size) (.tuple #[.pointer none,.int .i64 3]) post/\SL W (app post F) w:=λh hS=>hE (by rw[eo,h]) (by decide) hS
   have PL:Jw s.R ids 0 [] true 0 (N+100000):=⟨Nat.zero_le _,rfl,.inl ⟨rfl,rfl⟩,λh=>by omega,by simp⟩
   refine⟨λvs w=>∃(i:Nat) (next:Int) (L:List fW) (wh:Bool),vs=[.int .i64 next,.int .i64 i]/\Jw s.R ids i L wh next (N+100000)/\SL W (.ob (il lp xp ⟨L,base,size,none⟩)::.ob (jT ov zs)::.pt xp (ku fv s) 66::.ob (jT fv ys)::.mem H::F) w,
    λvs _=>match vs with|[_,.int _ i]=>(ids.length-i).toNat|_=>0,⟨0,0,[],true,rfl,PL,aR hS⟩,?_⟩
   clear hS PL
   rintro v10 v11 w ⟨i,next,L,wh,jy,hA,hS⟩
   cases jy
   have b_8:=hA.le
   have GK:L.length<=100000:=by rcases hA.len with ⟨_,h⟩|⟨_,_,h⟩<;>omega
   have GJ:(⟨L,base,size,none⟩:g8).Ok (N+100000):=⟨hA.ok,by show 0<=base;omega,by show base<=12288;omega,by show 64<=size;omega,by show size<=65536;omega,by show L.length<=_;omega⟩
   refine zt hS (v:=ov) (t:=186) (sz:=3) (n:=zs.length) (cells:=(zs.map jw).flatten) Xh ?_
   refine bW (λh1=>?_) (λh1=>?_)
   ·have Cd:i<zs.length:=by omega
    have Cb:i<ids.length:=by omega
    have HF:wh=true/\L.length=i:=by
     rcases hA.len with h|⟨_,h,_⟩
     ·exact h
     ·omega
    obtain⟨rfl,XT⟩:=HF
    have hx:zs[i]?=some zs[i]:=List.getElem?_eq_getElem Cd
    have hid:=xk i Cd Cb
    have tA:=Rc i Cd
    have Ef:=k_ _ (CH _ (List.getElem_mem Cd))
    have vd:=hi _ (List.getElem_mem Cb)
    have heq:=hA.eq
    rw[List.drop_eq_getElem_cons Cb,CL,hid]at heq
    rw[hid]at vd
    have hyN:zs[i].1.b.length<=N:=hw.at_ vd _ tA
    have Re:0<i->∀h:i-1<zs.length,uY (if i=0 then none else ids[i-1]?) zs[i].1.id=decide (zs[i].1.id≠zs[i-1].1.id+1):=λh0 h=>by
     rw[if_neg (by omega),List.getElem?_eq_getElem (show i-1<ids.length by omega),xk (i-1) h (by omega)];rfl
    have ai0:i=0->uY (if i=0 then none else ids[i-1]?) zs[i].1.id=false:=λh=>by rw[if_pos h];rfl
    have ur:(ids.drop (i+1)).isEmpty=decide (i+1=ids.length):=by
     rw[Bool.eq_iff_iff,decide_eq_true_iff,List.isEmpty_iff,List.drop_eq_nil_iff]
     omega
    rw[ur]at heq
    have rr:l9 L s.R zs[i].1.id (decide (i+1=ids.length))=match jK zs[i].1.b with
     | none=>((false,decide (i+1=ids.length)),L)
     | some (first,l,n)=>if ((decide (i+1=ids.length)=false/\(n≠zs[i].1.b.length\/l.length=0))\/(0<L.length/\first≠b9 L+1)\/1099511627776<first+l.length-1) then ((true,false),L)
      else ((true,true),L++[⟨zs[i].1.id,first,n,l⟩]):=by
     unfold l9
     rw[tA];rfl
    have G':=HT (L:=L) (f:=zs[i].1.id) (last:=decide (i+1=ids.length)) (M:=N+100000) (hw.at_ vd) (by omega) (by omega) (by omega) hA.ok
    have RG:∀h:i-1<zs.length,(zs[i-1]?)=some zs[i-1]:=λh=>List.getElem?_eq_getElem h
    have RH:∀h:i-1<zs.length,base<=zs[i-1].1.id/\zs[i-1].1.id<base+4096:=λh=>by
     have:=hi _ (List.getElem_mem (show i-1<ids.length by omega))
     rwa [xk (i-1) h (by omega)]at this
    refine zV hS (v:=ov) (t:=186) Xh nG hx Cd ?_
    generalize zs[i]=y at *
    obtain⟨yf,yv⟩:=y
    simp only at *
    obtain⟨_,ya,yc,rfl,_,_⟩:=id Ef
    refine zJ hS ?_
    clear hS;intro fb w hS
    refine zD (vs:=[.int .i64 yf.id,.int .i64 (yf.safe:Int),.slice ya yf.b.length yc]) hS Xu rfl rfl (by simp[Value.oneCell']) ?_
    clear hS;intro w hS
    by_cases hg:uY (if i=0 then none else ids[i-1]?) yf.id=true
    ·
     have iR:mK s.R ids none [] true=none:=by
      rw[heq]
      split
      ·rfl
      ·first|rfl|rw[if_pos hg]
     refine⟨λvs w=>False,?_,λw h=>h.elim⟩
     refine Gn λw hS=>?_
     refine za (λh2=>?_) (λh2=>?_)
     ·have ou:i-1<zs.length:=by omega
      refine Gp ?_
      have e:((i:Nat):Int)-1=((i-1:Nat):Int):=by omega
      rw[e]
      have ux:=RH ou
      refine zy (i:=0) hS (v:=ov) (t:=186) Xh nG (RG ou) ou (u:=.int .i64 zs[i-1].1.id) rfl ?_
      refine Gp ?_
      have DX:=Re (by omega) ou
      rw[hg]at DX
      refine za (λh3=>?_) (λh3=>absurd (of_decide_eq_true DX.symm) h3)
      exact DJ (l:=[]) (F':=[]) iR (SL.b4 (kH hS Xp) Xi)
     ·rw[ai0 (by omega)]at hg;cases hg
    ·rw[if_neg hg]at heq
     refine⟨λvs w=>vs=[]/\SL W (.pt fb [.int .i64 yf.id,.int .i64 (yf.safe:Int),.slice ya yf.b.length yc] 186::.ob (il lp xp ⟨L,base,size,none⟩)::.ob (jT ov zs)::.pt xp (ku fv s) 66::.ob (jT fv ys)::.mem H::F) w,?_,?_⟩
     ·refine Gn λw hS=>?_
      refine za (λh2=>?_) (λh2=>⟨rfl,aR hS⟩)
      have ou:i-1<zs.length:=by omega
      refine Gp ?_
      have e:((i:Nat):Int)-1=((i-1:Nat):Int):=by omega
      rw[e]
      have ux:=RH ou
      refine zy (i:=0) hS (v:=ov) (t:=186) Xh nG (RG ou) ou (u:=.int .i64 zs[i-1].1.id) rfl ?_
      refine Gp ?_
      have DX:=Re (by omega) ou
      refine za (λh3=>absurd (by rw[DX];exact decide_eq_true h3) hg) (λh3=>?_)
      exact⟨rfl,aR hS⟩
     ·clear hS
      rintro w ⟨-,hS⟩
      refine Gp ?_
      have hyr:ie (.mem H) (.slice ya yf.b.length yc) yf.b:=ie.rd Ef
      refine Cc (q9 (.mem H) _ yf.b hyr (by omega)) ?_;clear hS
      rintro r post hQ w hS
      unfold uL at hQ
      cases hr:jK yf.b with
      | none=>
       rw[hr]at hQ rr
       obtain⟨rfl,rfl⟩:=hQ
       simp only at rr
       rw[rr]at heq
       (try simp only[app]at hS);refine Gp ?_
       refine⟨λvs w=>vs=[.bool false]/\SL W (.pt fb [.int .i64 yf.id,.int .i64 (yf.safe:Int),.slice ya yf.b.length yc] 186::.ob (il lp xp ⟨L,base,size,none⟩)::.ob (jT ov zs)::.pt xp (ku fv s) 66::.ob (jT fv ys)::.mem H::F) w,?_,?_⟩
       ·refine Gp ?_
        refine za (λh=>absurd h (by decide)) (λ_=>⟨rfl,aR hS⟩)
       ·clear hS
        rintro E8 w ⟨jy,hS⟩
        cases jy
        refine⟨λvs w=>vs=[.bool (decide (i+1≠ids.length))]/\SL W (.pt fb [.int .i64 yf.id,.int .i64 (yf.safe:Int),.slice ya yf.b.length yc] 186::.ob (il lp xp ⟨L,base,size,none⟩)::.ob (jT ov zs)::.pt xp (ku fv s) 66::.ob (jT fv ys)::.mem H::F) w,?_,?_⟩
        ·refine zt hS (v:=ov) (t:=186) (sz:=3) (n:=zs.length) (cells:=(zs.map jw).flatten) Xh ?_
         refine bW (λh=>?_) (λh=>?_)
         ·rw[decide_eq_true (show i+1≠ids.length by omega)]
          refine zP ?_
          refine zw ?_
          exact⟨rfl,aR hS⟩
         ·rw[decide_eq_false (show ¬i+1≠ids.length by omega)]
          refine Gp ?_
          refine za (λh=>absurd h (by decide)) (λ_=>⟨rfl,aR hS⟩)
        ·clear hS
         rintro Uv w ⟨jy,hS⟩
         cases jy
         refine za (λhb=>?_) (λhb=>?_)
         ·rw[decide_eq_false (show ¬i+1=ids.length from hb),if_pos rfl]at heq
          exact DJ (l:=[]) (F':=[]) heq (SL.b4 (kH hS Xp) Xi)
         ·have rj:i+1=ids.length:=Classical.not_not.1 hb
          rw[decide_eq_true rj,if_neg (by simp)]at heq
          refine Gp ?_
          refine za (λ_=>?_) (λh=>absurd (by decide) h)
          refine Gp ?_
          refine⟨⟨i+1,next,L,false,rfl,⟨by omega,?_,.inr ⟨rfl,rj,by omega⟩,λ_ h=>(by cases h),hA.ok⟩,aR hS⟩,by dsimp only;omega⟩
          rw[heq,if_neg (by omega),Nat.add_sub_cancel,List.getElem?_eq_getElem Cb,hid]
      | some q=>
       obtain⟨first,l,n⟩:=q
       have vi:=Iz hr
       obtain⟨r1,r2,r3,r4,r5⟩:=vi
       rw[hr]at hQ rr
       obtain⟨u,es,P_,rfl,rfl⟩:=hQ
       simp only at rr
       try simp only[app]at hS
       have pO:l.length=es.length:=by rw[<- P_,s8]
       obtain⟨ua,uc,rfl,_⟩:=f_.at hS (v:=u) .hd
       refine Gp ?_
       refine⟨λvs w=>vs=[.bool (decide (n=yf.b.length/\0<es.length))]/\SL W (.pt fb [.int .i64 yf.id,.int .i64 (yf.safe:Int),.slice ya yf.b.length yc] 186::.ob (f_ (.slice ua es.length uc) 62 1 es.length (iS es))::.ob (zh ji es)::.ob (il lp xp ⟨L,base,size,none⟩)::.ob (jT ov zs)::.pt xp (ku fv s) 66::.ob (jT fv ys)::.mem H::F) w,?_,?_⟩
       ·refine Gp ?_
        refine za (λ_=>?_) (λh=>absurd rfl h)
        refine bW (λh=>?_) (λh=>?_)
        ·refine Gp ?_
         refine⟨?_,aR hS⟩
         congr 2
         rw[Bool.eq_iff_iff,decide_eq_true_iff,decide_eq_true_iff];omega
        ·refine⟨?_,aR hS⟩
         rw[decide_eq_false (show ¬(n=yf.b.length/\0<es.length) by omega)]
       ·clear hS
        rintro E8 w ⟨jy,hS⟩
        cases jy
        refine⟨λvs w=>vs=[.bool (decide ((i+1≠ids.length/\¬(n=yf.b.length/\0<es.length))\/(0<i/\first≠next)))]/\SL W (.pt fb [.int .i64 yf.id,.int .i64 (yf.safe:Int),.slice ya yf.b.length yc] 186::.ob (f_ (.slice ua es.length uc) 62 1 es.length (iS es))::.ob (zh ji es)::.ob (il lp xp ⟨L,base,size,none⟩)::.ob (jT ov zs)::.pt xp (ku fv s) 66::.ob (jT fv ys)::.mem H::F) w,?_,?_⟩
        ·have kI:∀b:Bool,(b=decide ((i+1≠ids.length/\¬(n=yf.b.length/\0<es.length))\/(0<i/\first≠next)))->[Value.bool b]=[.bool (decide ((i+1≠ids.length/\¬(n=yf.b.length/\0<es.length))\/(0<i/\first≠next)))]:=λb h=>by rw[h]
         refine zt hS (v:=ov) (t:=186) (sz:=3) (n:=zs.length) (cells:=(zs.map jw).flatten) Xh ?_
         refine bW (λh=>?_) (λh=>?_)
         ·refine zP ?_
          by_cases hw:n=yf.b.length/\0<es.length
          ·rw[decide_eq_true hw]
           refine zq ?_
           refine Gp ?_
           refine za (λ_=>?_) (λh=>absurd rfl h)
           refine bW (λh2=>?_) (λh2=>?_)
           ·refine Gp ?_
            refine⟨kI _ ?_,aR hS⟩
            rw[Bool.eq_iff_iff,decide_eq_true_iff,decide_eq_true_iff]
            constructor
            ·intro h;exact .inr ⟨by omega,h⟩
            ·rintro (⟨_,h⟩|⟨_,h⟩)
             ·exact absurd hw h
             ·exact h
           ·refine⟨kI _ ?_,aR hS⟩
            refine (decide_eq_false ?_).symm
            rintro (⟨_,h⟩|⟨h,_⟩)
            ·exact absurd hw h
            ·omega
          ·rw[decide_eq_false hw]
           refine zw ?_
           exact⟨kI _ (decide_eq_true (.inl ⟨by omega,hw⟩)).symm,aR hS⟩
         ·refine Gp ?_
          refine za (λ_=>?_) (λh=>absurd rfl h)
          refine bW (λh2=>?_) (λh2=>?_)
          ·refine Gp ?_
           refine⟨kI _ ?_,aR hS⟩
           rw[Bool.eq_iff_iff,decide_eq_true_iff,decide_eq_true_iff]
           constructor
           ·intro h;exact .inr ⟨by omega,h⟩
           ·rintro (⟨h,_⟩|⟨_,h⟩)
            ·omega
            ·exact h
          ·refine⟨kI _ ?_,aR hS⟩
           refine (decide_eq_false ?_).symm
           rintro (⟨h,_⟩|⟨h,_⟩)<;>omega
        ·clear hS
         rintro Uv w ⟨jy,hS⟩
         cases jy
         have o7:0<i->next=b9 L+1:=λh=>hA.next h rfl
         refine za (λhb=>?_) (λhb=>?_)
         ·rw[rr,if_pos (c:=(decide (i+1=ids.length)=false/\(n≠yf.b.length\/l.length=0))\/(0<L.length/\first≠b9 L+1)\/1099511627776<first+l.length-1) (by
           rcases hb with ⟨h1,h2⟩|⟨h1,h2⟩
           ·exact .inl ⟨decide_eq_false h1,by rw[pO];omega⟩
           ·exact .inr (.inl ⟨by omega,by rw[<- o7 h1];exact h2⟩)),if_pos rfl]at heq
          exact DJ (l:=[]) (F':=[]) heq (SL.b4 (kH hS Xp) Xi)
         ·refine Gp ?_
          refine za (λh=>absurd rfl h) (λ_=>?_)
          refine bW (λhmx=>?_) (λhmx=>?_)
          ·rw[rr,if_pos (c:=(decide (i+1=ids.length)=false/\(n≠yf.b.length\/l.length=0))\/(0<L.length/\first≠b9 L+1)\/1099511627776<first+l.length-1) (.inr (.inr (by rw[pO];omega))),if_pos rfl]at heq
           exact DJ (l:=[]) (F':=[]) heq (SL.b4 (kH hS Xp) Xi)
          ·have Az:¬((decide (i+1=ids.length)=false/\(n≠yf.b.length\/l.length=0))\/(0<L.length/\first≠b9 L+1)\/1099511627776<first+l.length-1):=by
            rintro (⟨h1,h2⟩|⟨h1,h2⟩|h)
            ·exact hb (.inl ⟨of_decide_eq_false h1,by rw[pO]at h2;omega⟩)
            ·exact hb (.inr ⟨by omega,by rw[o7 (by omega)];exact h2⟩)
            ·rw[pO]at h;omega
           rw[rr,if_neg Az,if_neg (by simp)]at heq
           rw[rr,if_neg Az]at G'
           simp only at heq G'
           obtain⟨sv,xs,mJ,hS⟩:=il.Tc (SL.b4 hS (t:=.ob (il lp xp ⟨L,base,size,none⟩)::.pt fb [.int .i64 yf.id,.int .i64 (yf.safe:Int),.slice ya yf.b.length yc] 186::.ob (f_ (.slice ua es.length uc) 62 1 es.length (iS es))::.ob (zh ji es)::.ob (jT ov zs)::.pt xp (ku fv s) 66::.ob (jT fv ys)::.mem H::F) Xi)
           have rZ:xs.length=L.length:=by
            have:=congrArg List.length mJ
            rwa [List.length_map]at this
           refine Gm λb w hS=>?_
           have cwp:=f_.one hS (v:=sv) (t:=259) (sz:=4) (n:=xs.length) (cells:=(xs.map iP).flatten) Xh
           refine y8 (t:=259) (sz:=4) (n:=xs.length) (cells:=(xs.map iP).flatten) (m:=1) (cs:=[.int .i64 yf.id,.int .i64 first,.int .i64 n,.slice ua es.length uc]) hS Xr (lP hS .hd rfl) rfl rfl (by simp[Value.oneCell']) (by omega) (by omega) ?_
           clear hS;intro kD w hS
           have lW:=f_.one hS (v:=kD) .hd
           refine Gn λw hS=>?_
           have hS:=(gI.iff (x:=⟨yf.id,first,n,es,ua,uc⟩)).2 (SL.b4 hS (t:=.ob (f_ (.slice ua es.length uc) 62 1 es.length (iS es))::.ob (zh ji es)::.ob (zh gI xs)::.pt lp (my kD xp base size (-1)) 254::.ob (f_ kD 259 4 (xs.length+1) ((xs.map iP).flatten++[.int .i64 yf.id,.int .i64 first,.int .i64 n,.slice ua es.length uc]))::.ob (jT ov zs)::.pt xp (ku fv s) 66::.ob (jT fv ys)::.mem H::F) Xi)
           have hS:=zh.snoc (hS.b4 (t:=.ob (zh gI xs)::.ob (gI ⟨yf.id,first,n,es,ua,uc⟩)::.pt lp (my kD xp base size (-1)) 254::.ob (f_ kD 259 4 (xs.length+1) ((xs.map iP).flatten++[.int .i64 yf.id,.int .i64 first,.int .i64 n,.slice ua es.length uc]))::.ob (jT ov zs)::.pt xp (ku fv s) 66::.ob (jT fv ys)::.mem H::F) Xi)
           have e1:xs.length+1=(xs++[(⟨yf.id,first,n,es,ua,uc⟩:d_)]).length:=by simp
           have e2:(xs.map iP).flatten++[.int .i64 yf.id,.int .i64 first,.int .i64 n,.slice ua es.length uc]=((xs++[(⟨yf.id,first,n,es,ua,uc⟩:d_)]).map iP).flatten:=by simp[iP,d_.lv]
           rw[e1,e2]at hS
           have xI:(xs++[(⟨yf.id,first,n,es,ua,uc⟩:d_)]).map d_.pl=L++[⟨yf.id,first,n,l⟩]:=by
            have:xs.map d_.pl=L:=mJ
            rw[List.map_append,this];simp[d_.pl,P_]
           have hS:=il.Dp (L:=L++[⟨yf.id,first,n,l⟩]) (base:=base) (size:=size) (lp:=lp) (xp:=xp) (F:=.ob (jT ov zs)::.pt xp (ku fv s) 66::.ob (jT fv ys)::.mem H::F) hS xI Xi
           have sH:b9 (L++[⟨yf.id,first,n,l⟩])+1=first+es.length:=by
            rw[DV];simp only[fW.next,pO];omega
           refine⟨⟨i+1,first+es.length,L++[⟨yf.id,first,n,l⟩],true,rfl,⟨by omega,?_,.inl ⟨rfl,by simp;omega⟩,λ_ _=>sH.symm,G'.1⟩,aR hS⟩,by dsimp only;omega⟩
           rw[heq,if_neg (by omega),Nat.add_sub_cancel,List.getElem?_eq_getElem Cb,hid]
   ·have mS:i=ids.length:=by omega
    have heq:=hA.eq
    rw[mS,List.drop_length]at heq
    simp only[mK]at heq
    rw[heq]at eo
    simp only at eo
    refine zt hS (v:=ov) (t:=186) (sz:=3) (n:=zs.length) (cells:=(zs.map jw).flatten) Xh ?_
    refine bW (λh2=>?_) (λh2=>?_)
    ·have Co:ids=[]:=List.eq_nil_of_length_eq_zero (by omega)
     have hb:lr L s ids wh=(s,0):=by rw[Co];rfl
     rw[hb,if_neg (by simp)]at eo
     rw[eo]
     have hS:=kH hS Xp
     exact⟨_,⟨lp,H,bw.le_refl H,rfl,rfl⟩,aR hS⟩
    ·have hj:ids.length-1<ids.length:=by omega
     have Cf:zs.length-1<zs.length:=by omega
     have hx:zs[zs.length-1]?=some zs[zs.length-1]:=List.getElem?_eq_getElem Cf
     have xl:ids.getLast?=some zs[zs.length-1].1.id:=by
      rw[List.getLast?_eq_getElem?,<- CG,List.getElem?_eq_getElem (by omega),xk _ Cf]
     have tA:=Rc _ Cf
     have Ef:=k_ _ (CH _ (List.getElem_mem Cf))
     refine zt hS (v:=ov) (t:=186) (sz:=3) (n:=zs.length) (cells:=(zs.map jw).flatten) Xh ?_
     refine Gp ?_
     have e:((zs.length:Nat):Int)-1=((zs.length-1:Nat):Int):=by omega
     rw[e]
     refine zV hS (v:=ov) (t:=186) Xh nG hx Cf ?_
     generalize zs[zs.length-1]=y at *
     obtain⟨yf,yv⟩:=y
     simp only at *
     obtain⟨_,ya,yc,rfl,_,_⟩:=id Ef
     refine zJ hS ?_
     clear hS;intro fb w hS
     refine zD (vs:=[.int .i64 yf.id,.int .i64 (yf.safe:Int),.slice ya yf.b.length yc]) hS Xu rfl rfl (by simp[Value.oneCell']) ?_
     clear hS;intro w hS
     obtain⟨sv,xs,mJ,hS⟩:=il.Tc (SL.b4 hS (t:=.ob (il lp xp ⟨L,base,size,none⟩)::.pt fb [.int .i64 yf.id,.int .i64 (yf.safe:Int),.slice ya yf.b.length yc] 186::.ob (jT ov zs)::.pt xp (ku fv s) 66::.ob (jT fv ys)::.mem H::F) Xi)
     have mJ:xs.map d_.pl=L:=mJ
     have rZ:xs.length=L.length:=by rw[<- mJ,List.length_map]
     refine Gp ?_
     refine zW hS (v:=sv) (t:=259) (sz:=4) (n:=xs.length) (cells:=(xs.map iP).flatten) Xh ?_
     refine zt hS (v:=ov) (t:=186) (sz:=3) (n:=zs.length) (cells:=(zs.map jw).flatten) Xh ?_
     refine bW (λh3=>?_) (λh3=>?_)
     ·have xH:wh=false:=by rcases hA.len with ⟨_,h⟩|⟨h,_⟩;omega;exact h
      have hb:lr L s ids wh=s.remove yf.id:=by
       unfold lr;rw[xl,xH];rfl
      rw[hb]at eo
      rw[eo]
      refine Gp ?_
      have hS:=kH hS Xp
      refine Cc (Zq H xp s B b5 iO hR yf.id) ?_;clear hS
      rintro v post ⟨rfl,rfl⟩ w hS;(try simp only[app]at hS);refine bW (λh4=>?_) (λh4=>?_)
      ·rw[if_pos h4]
       exact⟨_,⟨h4,rfl,H,bw.le_refl H,rfl⟩,aR hS⟩
      ·rw[if_neg h4]
       have hS:=il.Dp (L:=L) (base:=base) (size:=size) (lp:=lp) (xp:=xp) (F:=.ob (eW H xp (s.remove yf.id).1)::.mem H::F) hS mJ Xi
       exact⟨_,⟨lp,H,bw.le_refl H,rfl,rfl⟩,aR hS⟩
     ·have uA:wh=true:=by rcases hA.len with ⟨h,_⟩|⟨_,_,h⟩;exact h;omega
      have G9:pS s.R yf.id=yf.b.length:=by unfold pS;rw[tA]
      have hb:lr L s ids wh=if r8 L<(yf.b.length:Int) then s.cut yf.id (r8 L) else (s,0):=by
       unfold lr;rw[xl,uA]
       simp only[G9]
       rw[if_neg (by decide)]
      rw[hb]at eo
      have xn:xs.length-1<xs.length:=by omega
      have Ha:r8 L=((xs[xs.length-1]'xn).size:Nat):=by
       unfold r8
       rw[<- mJ,List.getLast?_map,List.getLast?_eq_getElem?,List.getElem?_eq_getElem xn];rfl
      rw[Ha]at eo
      have ex:((xs.length:Nat):Int)-1=((xs.length-1:Nat):Int):=by omega
      refine Gn λw hS=>?_
      refine Cg (yd lp xp sv xs base size (-1) (by omega)) λw hS=>?_
      rw[ex]
      refine yk (i:=2) hS Xh xn (u:=.int .i64 ((xs[xs.length-1]'xn).size:Nat)) rfl ?_
      generalize hz:(xs[xs.length-1]'xn).size=z at *
      refine bW (λh4=>?_) (λh4=>?_)
      ·rw[if_pos h4]at eo
       rw[eo]
       refine Gn λw hS=>?_
       refine Cg (yd lp xp sv xs base size (-1) (by omega)) λw hS=>?_
       rw[ex]
       refine yk (i:=2) hS Xh xn (u:=.int .i64 (z:Int)) (by show some (Value.int .i64 ((xs[xs.length-1]'xn).size:Nat))=_;rw[hz]) ?_
       have hS:=kH hS Xp
       refine Cc (Yq H xp s B b5 hB iO hR yf.id (z:Int)) ?_;clear hS
       rintro v post ⟨rfl,H',hH,rfl⟩ w hS;(try simp only[app]at hS);refine bW (λh5=>?_) (λh5=>?_)
       ·rw[if_pos h5]
        exact⟨_,⟨h5,rfl,H',hH,rfl⟩,aR hS⟩
       ·rw[if_neg h5]
        have hS:=il.Dp (L:=L) (base:=base) (size:=size) (lp:=lp) (xp:=xp) (F:=.ob (eW H' xp (s.cut yf.id (z:Int)).1)::.mem H'::F) hS mJ Xi
        exact⟨_,⟨lp,H',hH,rfl,rfl⟩,aR hS⟩
      ·rw[if_neg h4,if_neg (by simp)]at eo
       rw[eo]
       have hS:=kH hS Xp
       have hS:=il.Dp (L:=L) (base:=base) (size:=size) (lp:=lp) (xp:=xp) (F:=.ob (eW H xp s)::.mem H::F) hS mJ Xi
       exact⟨_,⟨lp,H,bw.le_refl H,rfl,rfl⟩,aR hS⟩
section
variable {W w:World} {l F:List Chunk}
theorem il.put{lp xp:Nat}(g:g8){sv:Value}{xs:List d_}(hS:SL W l w)(hx:xs.map d_.pl=g.bR)(p:ky [.pt lp (my sv xp g.base g.size (nC g.ia)) 254,lN sv xs,.ob (zh gI xs)] l F):SL W (.ob (il lp xp g)::F) w:=il.iff.2 ⟨sv,xs,hx,hS.pick p⟩
theorem il.oD{lp xp:Nat}{L:List fW}{base size ti:Int}(tn:Option wI){sv:Value}{xs:List d_}(hS:SL W l w)(hx:xs.map d_.pl=L)(p:ky [.pt lp (my sv xp base size ti) 254,lN sv xs,.ob (zh gI xs)] l F)(ht:nC tn=ti:=by rfl):SL W (.ob (il lp xp ⟨L,base,size,tn⟩)::F) w:=by subst ht;exact il.iff.2 ⟨sv,xs,hx,hS.pick p⟩
theorem gI.put(x:d_)(hS:SL W l w)(p:ky [.ob (f_ x.lv 62 1 x.es.length (iS x.es)),.ob (zh ji x.es)] l F):SL W (.ob (gI x)::F) w:=gI.iff.2 (hS.pick p)
theorem eW.put{H:bw}{xp:Nat}(s:DS){fv:Value}{ys:List YF}(hS:SL W l w)(he:ys.map Prod.fst=s.R/\sm H ys)(p:ky [.pt xp (ku fv s) 66,.ob (jT fv ys)] l F):SL W (.ob (eW H xp s)::F) w:=eW.iff.2 ⟨fv,ys,he,hS.pick p⟩
theorem zh.bWc{α:Type}{A:α->zC}{xs:List α}{t:Nat}{x:α}(hS:SL W l w)(hx:xs[t]?=some x)(r:kL (.ob (zh A xs)) l F):SL W (.ob (A x)::.ob (zh A (xs.eraseIdx t))::F) w:=zh.take (hS.perm r.perm) hx
theorem zh.a_n{α:Type}{A:α->zC}{xs:List α}{t:Nat}(y:α)(hS:SL W l w)(ht:t<xs.length)(p:ky [.ob (A y),.ob (zh A (xs.eraseIdx t))] l F):SL W (.ob (zh A (xs.set t y))::F) w:=zh.put (hS.pick p) ht
theorem zh.T2{α:Type}{A:α->zC}{xs:List α}(x:α)(hS:SL W l w)(p:ky [.ob (zh A xs),.ob (A x)] l F):SL W (.ob (zh A (xs++[x]))::F) w:=zh.snoc (hS.pick p)
theorem eW.lh{H H':bw}{xp:Nat}{s:DS}(hh:H.le H')(hS:SL W l w)(r:kL (.ob (eW H xp s)) l F):SL W (.ob (eW H' xp s)::F) w:=eW.mono hh (hS.perm r.perm)
end
def US(H:bw)(lp xp:Nat)(g:g8)(d:DS)(y:Except Int lI)(r:Value)(post:List Chunk):Prop:=match y with
 | .error e=>e≠0/\r= .tuple #[.slice none 0 0,.int .i64 0,.bool false,.int .i64 e]/\post=[.ob (il lp xp g),.ob (eW H xp d),.mem H]
 | .ok x=>∃v,r= .tuple #[v,.int .i64 x.file,.bool x.fresh,.int .i64 0]/\post=[.ob (a_ v 5 1 x.b.length (x.b.map cR)),.ob (il lp xp g),.ob (eW H xp d),.mem H]
theorem q8(H:bw)(lp xp:Nat)(g:g8)(d:DS)(v:Value)(p:List UInt8)(hv:gi H 1 v p.length (p.map cR))(hp:p.length<=1048576){M:Nat}(hg:od g M)(hM:M<=1000000000000):
  SP 250 [.pointer (some ⟨lp,0,none⟩),v] [.ob (il lp xp g),.ob (eW H xp d),.mem H] (US H lp xp g d (jV g d.off p)):=by
 intro W F w hS;apply b6h;delta Lz aF bF a7 aW dI ai bI;(try simp only[app]at hS)
 obtain⟨sv,xs,hx,hS⟩:=il.iff.1 hS
 obtain⟨b5,hl,Rf,B'⟩:=hg.ok.xs hx
 have PX:=hg.ok.b0
 have vX:=hg.ok.b1
 have tE:=hg.ok.s1
 have hs0:=hg.ok.s0
 have B_:=hg.hd
 obtain⟨fv,ys,he,hS⟩:=eW.iff.1 (Has.front (c:=.ob (eW H xp d)) hS Xr)
 refine Gp ?_
 have rl:¬1048576<p.length:=by omega
 refine y3 (λho=>?_) (λho=>?_)
 ·have jO:jV g d.off p= .error 8:=by unfold jV;rw[if_neg rl,if_pos ho]
  rw[jO]
  have hS:=eW.put d hS he Xp
  have hS:=il.put g hS hx Xp
  exact⟨_,⟨by decide,rfl,rfl⟩,aR hS⟩
 have hS:=eW.put d hS he Xp
 have Hk:¬d.off=true:=by rw[ho];decide
 refine Cc (ZA (.mem H) v p (.rd hv) (by omega)) ?_;clear hS
 rintro r post hQ w hS
 unfold rL at hQ
 rw[if_neg rl]at hQ
 obtain⟨u,rfl,rfl⟩:=hQ
 (try simp only[app]at hS);refine Gp ?_
 have D':=oF p
 refine Cg (yd lp xp sv xs g.base g.size (nC g.ia) (by omega)) λw hS=>?_
 have hS:=il.put g hS hx Xp
 refine Cg (zZ lp xp g hg.ok hM) λw hS=>?_
 refine za (λh1=>?_) (λh1=>?_)
 ·have jO:jV g d.off p= .error 7:=by unfold jV;rw[if_neg rl,if_neg Hk,if_pos (by omega)]
  rw[jO]
  exact⟨_,⟨by decide,rfl,rfl⟩,aR hS⟩
 have hu1:=a_.one (Has.front (c:=.ob (a_ u 5 1 (gR p).length ((gR p).map cR))) hS Xr)
 obtain⟨sv,xs,mI,hS⟩:=il.iff.1 (Has.front (c:=.ob (il lp xp g)) hS Xr)
 have hlx:xs.length=g.bR.length:=by rw[<- mI,List.length_map]
 have awj:(xs.length:Int)-1=(‹List d_›.length:Int)-1:=rfl
 have G8:∀ys:List d_,ys.map d_.pl=g.bR->ys.length=xs.length:=λys h=>by rw[hlx,<- h,List.length_map]
 rw[G8 _ hx]
 clear awj
 have rz:jV g d.off p=match g.bR.getLast? with
   | none=>m8 g g.base p
   | some s=>if s.l.length=0\/(s.size:Int)+(gR p).length<=g.size then .ok ⟨s.file,false,gR p⟩ else m8 g (s.file+1) p:=by
  unfold jV;rw[if_neg rl,if_neg Hk,if_neg (by omega)];rfl
 have GV:xs=[]/\jV g d.off p=m8 g g.base p\/∃hj:xs.length-1<xs.length,jV g d.off p=if xs[xs.length-1].es.length=0\/(xs[xs.length-1].size:Int)+(gR p).length<=g.size then .ok ⟨xs[xs.length-1].file,false,gR p⟩ else m8 g (xs[xs.length-1].file+1) p:=by
  rcases Nat.eq_zero_or_pos xs.length with h0|h0
  ·left
   have:xs=[]:=List.eq_nil_of_length_eq_zero h0
   refine⟨this,?_⟩
   rw[rz,<- mI,this];rfl
  ·right
   have hj:xs.length-1<xs.length:=by omega
   refine⟨hj,?_⟩
   rw[rz,<- mI,List.getLast?_map,List.getLast?_eq_getElem?,List.getElem?_eq_getElem hj]
   simp[d_.pl,s8]
 have vj:∀hj:xs.length-1<xs.length,mO (xs[xs.length-1]).pl M:=λhj=>by
  refine hg.ok.bR _ ?_
  rw[<- mI];exact List.mem_map.2 ⟨_,List.getElem_mem hj,rfl⟩
 refine⟨λus w=>∃q:Bool,us=[.bool q]/\(q=true↔∃hj:xs.length-1<xs.length,xs[xs.length-1].es.length=0\/(xs[xs.length-1].size:Int)+(gR p).length<=g.size)/\SL W (.pt lp (my sv xp g.base g.size (nC g.ia)) 254::lN sv xs::.ob (zh gI xs)::.ob (a_ u 5 1 (gR p).length ((gR p).map cR))::.ob (eW H xp d)::.mem H::F) w,?_,?_⟩
 ·refine Gn λw hS=>?_
  refine za (λh2=>?_) (λh2=>?_)
  ·have hj:xs.length-1<xs.length:=by omega
   have k3:=(vj hj).sz
   have k3:xs[xs.length-1].size<=M:=k3
   rw[show (xs.length:Int)-1=((xs.length-1:Nat):Int) by omega]
   refine Gp ?_
   refine yk hS Xh hj (i:=3) rfl ?_
   unfold d_.lv
   refine bW (λh3=>?_) (λh3=>?_)
   ·exact⟨true,rfl,⟨λ_=>⟨hj,.inl (by omega)⟩,λ_=>rfl⟩,aR hS⟩
   ·refine Gp ?_
    refine yk hS Xh hj (i:=2) rfl ?_
    refine zt hS (v:=u) Xh ?_
    refine Gp ?_
    refine⟨_,rfl,?_,aR hS⟩
    rw[decide_eq_true_iff]
    constructor
    ·intro h;exact⟨hj,.inr (by omega)⟩
    ·rintro ⟨_,h|h⟩
     ·omega
     ·omega
  ·exact⟨false,rfl,⟨λh=>by (cases h),λ⟨hj,_⟩=>by omega⟩,aR hS⟩
 clear hS
 rintro v62 w ⟨q,cW,hq,hS⟩
 cases cW
 refine y3 (λD7=>?_) (λRJ=>?_)
 ·obtain⟨hj,hc⟩:=hq.1 D7
  obtain⟨_,jO⟩:∃_:True,jV g d.off p= .ok ⟨xs[xs.length-1].file,false,gR p⟩:=by
   rcases GV with ⟨h0,_⟩|⟨_,h⟩
   ·subst h0;simp at hj
   ·exact⟨trivial,by rw[h,if_pos hc]⟩
  rw[jO]
  rw[show (xs.length:Int)-1=((xs.length-1:Nat):Int) by omega]
  refine Gn λw hS=>?_
  refine yC hS (v:=sv) (t:=259) (sz:=4) (cells:=(xs.map iP).flatten) Xh hj λab ao hb=>?_
  have P1:=hb 0 (.int .i64 xs[xs.length-1].file) (by decide) (rS vA xs _ 0 _ _ (List.getElem?_eq_getElem hj) rfl)
  refine zR ⟨_,_,rfl,P1,?_⟩
  refine Gp ?_
  refine⟨_,_,rfl,P1,⟨rfl,?_⟩⟩
  have hS:=il.put g hS mI Xp
  exact⟨_,⟨u,rfl,rfl⟩,aR hS⟩
 ·have hnq:¬∃hj:xs.length-1<xs.length,xs[xs.length-1].es.length=0\/(xs[xs.length-1].size:Int)+(gR p).length<=g.size:=λh=>by rw[hq.2 h]at RJ;cases RJ
  refine Gp ?_
  refine⟨λus w=>∃f:Int,us=[.int .i64 f]/\jV g d.off p=m8 g f p/\0<=f/\f<=1000000/\SL W (.pt lp (my sv xp g.base g.size (nC g.ia)) 254::lN sv xs::.ob (zh gI xs)::.ob (a_ u 5 1 (gR p).length ((gR p).map cR))::.ob (eW H xp d)::.mem H::F) w,?_,?_⟩
  ·refine bW (λh2=>?_) (λh2=>?_)
   ·have hj:xs.length-1<xs.length:=by omega
    have k1:0<=xs[xs.length-1].file:=(vj hj).f0
    have k2:xs[xs.length-1].file<=100000:=(vj hj).f1
    rw[show (xs.length:Int)-1=((xs.length-1:Nat):Int) by omega]
    refine Gp ?_
    refine yk hS Xh hj (i:=0) rfl ?_
    refine Gp ?_
    refine⟨_,rfl,?_,by omega,by omega,aR hS⟩
    rcases GV with ⟨h0,_⟩|⟨_,h⟩
    ·subst h0;simp at hj
    ·rw[h,if_neg λhc=>hnq ⟨hj,hc⟩]
   ·refine⟨_,rfl,?_,by omega,by omega,aR hS⟩
    rcases GV with ⟨_,h⟩|⟨hj,_⟩
    ·exact h
    ·omega
  ·clear hS
   rintro v11 w ⟨f,cW,jO,f0,f1,hS⟩
   cases cW
   rw[jO]
   unfold m8
   refine bW (λh2=>?_) (λh2=>?_)
   ·rw[if_pos h2]
    have hS:=il.put g hS mI Xp
    exact⟨_,⟨by decide,rfl,rfl⟩,aR hS⟩
   ·rw[if_neg h2]
    have hS:=il.put g hS mI Xp
    refine Cg (zZ lp xp g hg.ok hM) λw hS=>?_
    refine Cc (q6 (b9 g.bR+1)) ?_;clear hS
    rintro r post hQ w hS
    unfold x_ at hQ
    rw[if_neg (by omega)]at hQ
    obtain⟨y,rfl,rfl⟩:=hQ
    (try simp only[app]at hS);refine Gp ?_
    have h2l:=oF (jN (b9 g.bR+1).toNat)
    have h3l:=u7 (b9 g.bR+1).toNat
    refine zx hS .hd (pW hS (v:=u) Xh) (by simp) rfl (nk _) (by omega) (by omega) λz w hS=>?_
    refine⟨_,⟨z,rfl,rfl⟩,?_⟩
    rw[<- List.map_append,<- List.length_append]at hS
    exact aR hS
abbrev Ju(lp xp:Nat)(H:bw)(u:Value)(y:g8 × DS)(v:Value)(post:List Chunk):Prop:=v=u/\∃H',H.le H'/\post=[.ob (il lp xp y.1),.ob (eW H' xp y.2),.mem H']
theorem qh(H:bw)(lp xp:Nat)(g:g8)(d:DS){M N:Nat}(hg:od g M)(hM:M<=1000000000000)(b5:d.Ok N)(hN:N<=140737480000000)(iO:d.ops<=90000):
  SP 251 [.pointer (some ⟨lp,0,none⟩)] [.ob (il lp xp g),.ob (eW H xp d),.mem H] (Ju lp xp H (.int .i64 (g6 g d).2) (g6 g d).1):=by
 intro W F w hS;apply b6i;delta LA aF bF a7 fI ai;(try simp only[app]at hS)
 have hR:=b5.A_
 obtain⟨sv,xs,hx,hS⟩:=il.iff.1 hS
 obtain⟨r6,hl,_,_⟩:=hg.ok.xs hx
 refine Gp ?_
 cases ht:g.ia with
 | none=>
  have hm:g6 g d=((g,d),0):=by unfold g6;rw[ht]
  rw[hm]
  refine za (λ_=>?_) (λh=>absurd (show nC none<0 by decide) h)
  have hS:=il.put g hS hx Xp
  exact⟨_,⟨rfl,H,bw.le_refl H,rfl⟩,aR hS⟩
 | some x=>
  obtain⟨f0,f1,hold,sH⟩:=hg.ia x ht
  have hm:g6 g d=(({g with ia:=if (if x.fresh=true then d.remove x.file else d.cut x.file x.oq).2=0 then none else some x},(if x.fresh=true then d.remove x.file else d.cut x.file x.oq).1),(if x.fresh=true then d.remove x.file else d.cut x.file x.oq).2):=by unfold g6;rw[ht]
  have HB:nC (some x)=x.file:=rfl
  rw[ht]at hS
  rw[HB]at hS ⊢
  refine za (λh=>by omega) (λ_=>?_)
  refine Cg (yd lp xp sv xs g.base g.size x.file (by omega)) λw hS=>?_
  have ur:∀hj:xs.length-1<xs.length,g.bR.getLast?=some xs[xs.length-1].pl:=λhj=>by
   rw[<- hx,List.getLast?_map,List.getLast?_eq_getElem?,List.getElem?_eq_getElem hj];rfl
  generalize hz:(if x.fresh=true then d.remove x.file else d.cut x.file x.oq)=z at hm
  have xj:∀{w:World},x.fresh=true->SL W (.ob (eW H xp d)::.mem H::.pt lp (my sv xp g.base g.size x.file) 254::lN sv xs::.ob (zh gI xs)::F) w->aw 174 [.pointer (some ⟨xp,0,none⟩),.int .i64 x.file] w λv w'=>[v]=[.int .i64 z.2]/\∃H',H.le H'/\SL W (.pt lp (my sv xp g.base g.size x.file) 254::lN sv xs::.ob (zh gI xs)::.ob (eW H' xp z.1)::.mem H'::F) w':=λhf hS=>by
   refine Cc (Zq H xp d N b5 (by omega) (by omega) x.file) ?_;clear hS
   rintro v post ⟨rfl,rfl⟩ w hS
   rw[if_pos hf]at hz
   subst hz
   try simp only[app]at hS
   exact⟨rfl,H,bw.le_refl H,aR hS⟩
  refine⟨λus w=>us=[.int .i64 z.2]/\∃H',H.le H'/\SL W (.pt lp (my sv xp g.base g.size x.file) 254::lN sv xs::.ob (zh gI xs)::.ob (eW H' xp z.1)::.mem H'::F) w,?_,?_⟩
  ·refine Gn λw hS=>?_
   refine za (λh0=>?_) (λh0=>?_)
   ·have hj:xs.length-1<xs.length:=by omega
    have sG:=ur hj
    rw[show (xs.length:Int)-1=((xs.length-1:Nat):Int) by omega]
    refine Gp ?_
    refine yk hS Xh hj (i:=0) rfl ?_
    refine bW (λh1=>?_) (λh1=>?_)
    ·have hf:x.fresh=false:=by
      cases hb:x.fresh with
      | false=>rfl
      | true=>exact absurd h1 (sH hb _ sG)
     obtain⟨s,h2,h3,h4⟩:=hold hf
     rw[sG]at h2
     cases h2
     refine Gn λw hS=>?_
     refine yk hS Xh hj (i:=2) rfl ?_
     refine Cc (Yq H xp d N b5 (by omega) (by omega) (by omega) x.file xs[xs.length-1].size) ?_;clear hS
     rintro v post ⟨rfl,H',hh,rfl⟩ w hS
     try simp only[app]at hS
     rw[if_neg (by rw[hf];decide),h4]at hz
     have hz:d.cut x.file (xs[xs.length-1].size:Nat)=z:=hz
     rw[hz]at hS ⊢
     exact⟨rfl,H',hh,aR hS⟩
    ·have hf:x.fresh=true:=by
      cases hb:x.fresh with
      | true=>rfl
      | false=>
       obtain⟨s,h2,h3,h4⟩:=hold hb
       rw[sG]at h2
       cases h2
       exact absurd h3 h1
     refine Gn λw hS=>?_
     exact xj hf (aR hS)
   ·have hf:x.fresh=true:=by
     cases hb:x.fresh with
     | true=>rfl
     | false=>
      obtain⟨s,h2,_⟩:=hold hb
      have:xs=[]:=List.eq_nil_of_length_eq_zero (by omega)
      rw[<- hx,this]at h2
      cases h2
    refine Gn λw hS=>?_
    exact xj hf (aR hS)
  ·clear hS
   rintro v3 w ⟨cW,H',hh,hS⟩
   cases cW
   rw[hm]
   refine bW (λhe=>?_) (λhe=>?_)
   ·rw[if_pos he]
    refine Gn λw hS=>?_
    have hS:=il.oD none hS hx Xp
    exact⟨_,⟨rfl,H',hh,rfl⟩,aR hS⟩
   ·rw[if_neg he]
    have hS:=il.oD (some x) hS hx Xp
    exact⟨_,⟨rfl,H',hh,rfl⟩,aR hS⟩
def p7(x:lI)(y:(g8 × DS) × Int):(g8 × DS) × Int:=if y.2=0 then ((y.1.1,(y.1.2.append x.file x.b).1),(y.1.2.append x.file x.b).2) else y
def tV(x:lI)(y:(g8 × DS) × Int):(g8 × DS) × Int:=if y.2=0 then ((y.1.1,(y.1.2.sync x.file).1),(y.1.2.sync x.file).2) else y
theorem NR{g:g8}{d:DS}{p:List UInt8}{x:lI}(h:jV g d.off p= .ok x):j6 g d p=(let y:=tV x (p7 x (g6 g d));if y.2=0 then (({y.1.1 with bR:=lM g.bR x p},y.1.2),(b9 (lM g.bR x p),0)) else (y.1,(0,y.2))):=by
 have hs:=(wm g d).1
 by_cases hm:(g6 g d).2=0
 ·have e1:p7 x (g6 g d)=(((g6 g d).1.1,((g6 g d).1.2.append x.file x.b).1),((g6 g d).1.2.append x.file x.b).2):=if_pos hm
  by_cases ha:((g6 g d).1.2.append x.file x.b).2=0
  ·have e2:tV x (p7 x (g6 g d))=(((g6 g d).1.1,(((g6 g d).1.2.append x.file x.b).1.sync x.file).1),(((g6 g d).1.2.append x.file x.b).1.sync x.file).2):=by rw[e1];exact if_pos ha
   simp only[e2]
   by_cases hk:(((g6 g d).1.2.append x.file x.b).1.sync x.file).2=0
   ·rw[if_pos hk,NO h hm ha hk]
   ·rw[if_neg hk,NQ h hm ha hk]
  ·have e2:tV x (p7 x (g6 g d))=(((g6 g d).1.1,((g6 g d).1.2.append x.file x.b).1),((g6 g d).1.2.append x.file x.b).2):=by rw[e1];exact if_neg ha
   simp only[e2]
   rw[if_neg ha,NN h hm ha]
 ·have e1:p7 x (g6 g d)=g6 g d:=if_neg hm
  have e2:tV x (p7 x (g6 g d))=g6 g d:=by rw[e1];exact if_neg hm
  simp only[e2]
  rw[if_neg hm,NP h hm]
theorem Ye(H:bw)(lp xp:Nat)(g:g8)(d:DS)(v:Value)(p:List UInt8)(hv:gi H 1 v p.length (p.map cR))(hp:p.length<=140737488355328){M N:Nat}(hg:od g M)(hM:M<=100000000000)(b5:d.Ok N)(hN:N<=140737480000000)(iO:d.ops<=90000):
  SP 184 [.pointer (some ⟨lp,0,none⟩),v] [.ob (il lp xp g),.ob (eW H xp d),.mem H] (Ju lp xp H (.tuple #[.int .i64 (j6 g d p).2.1,.int .i64 (j6 g d p).2.2]) (j6 g d p).1):=by
 intro W F w hS;apply b40;delta KI aF bF a7 fI aW dI ai bI;(try simp only[app]at hS)
 refine zo hv ?_
 refine bW (λrl=>?_) (λrl=>?_)
 ·have jO:jV g d.off p= .error 1:=by unfold jV;rw[if_pos (by omega)]
  rw[Di jO]
  exact⟨_,⟨rfl,H,bw.le_refl H,rfl⟩,aR hS⟩
 refine Cc (q8 H lp xp g d v p hv (by omega) hg (by omega)) ?_;clear hS
 rintro r post hQ w hS
 cases jO:jV g d.off p with
 | error e=>
  rw[jO]at hQ
  obtain⟨hz,rfl,rfl⟩:=hQ
  rw[Di jO]
  (try simp only[app]at hS);refine Gp ?_
  refine⟨λvs w=>vs=[.int .i64 e]/\SL W (.ob (il lp xp g)::.ob (eW H xp d)::.mem H::F) w,?_,?_⟩
  ·refine Gp ?_
   exact za (λh=>absurd h hz) (λ_=>⟨rfl,aR hS⟩)
  clear hS
  rintro v7 w ⟨jy,hS⟩
  cases jy
  refine⟨λvs w=>vs=[.int .i64 e]/\SL W (.ob (il lp xp g)::.ob (eW H xp d)::.mem H::F) w,?_,?_⟩
  ·refine Gp ?_
   exact za (λh=>absurd h hz) (λ_=>⟨rfl,hS⟩)
  clear hS
  rintro v7 w ⟨jy,hS⟩
  cases jy
  refine⟨λvs w=>vs=[.int .i64 e]/\SL W (.ob (il lp xp g)::.ob (eW H xp d)::.mem H::F) w,?_,?_⟩
  ·refine Gp ?_
   exact za (λh=>absurd h hz) (λ_=>⟨rfl,hS⟩)
  clear hS
  rintro v7 w ⟨jy,hS⟩
  cases jy
  refine Gp ?_
  refine za (λ_=>?_) (λh=>absurd hz h)
  exact⟨_,⟨rfl,H,bw.le_refl H,rfl⟩,aR hS⟩
 | ok x=>
  rw[jO]at hQ
  obtain⟨bv,rfl,rfl⟩:=hQ
  have hw:=Is hg.ok jO
  have xv:=H0 (g:=g) b5
  have AI:=HZ (d:=d) hg.ok
  have xw:=wm g d
  have Cn:=Te g d
  have u0:=hw.bl
  have hpp:=hw.pl
  rw[NR jO]
  (try simp only[app]at hS);refine Gp ?_
  obtain⟨H1,iw,hb,hS⟩:=zE (H:=H) (v:=bv) (n:=x.b.length) (sz:=1) (t:=5) (cells:=x.b.map cR) hS Xp
  have hS:=eW.lh iw hS Xr
  have mU:=hv.mono iw
  refine⟨λus w=>us=[.int .i64 (g6 g d).2]/\∃H',H1.le H'/\SL W (.ob (il lp xp (g6 g d).1.1)::.ob (eW H' xp (g6 g d).1.2)::.mem H'::F) w,?_,?_⟩
  ·refine Gp ?_
   refine za (λ_=>?_) (λh=>absurd rfl h)
   refine Cc (qh H1 lp xp g d hg (by omega) b5 hN iO) ?_;clear hS
   rintro v post ⟨rfl,H',hh,rfl⟩ w hS
   try simp only[app]at hS
   exact⟨rfl,H',hh,aR hS⟩
  clear hS
  rintro v9 w ⟨cW,H2,iB,hS⟩
  cases cW
  have po:=hb.mono iB
  have l8:=mU.mono iB
  have kF:=bw.le_trans iw iB
  clear iB hb mU iw
  generalize g6 g d=m at *
  have hA:(p7 x m).1.1=m.1.1/\(p7 x m).1.2.Ok (N+x.b.length)/\(p7 x m).1.2.ops<=d.ops+2:=by
   unfold p7
   split
   ·exact⟨rfl,xv.append _ _,by have:=Td m.1.2 x.file x.b;simp only;omega⟩
   ·exact⟨rfl,xv.mono (by omega),by omega⟩
  have hmR:=xv.A_
  refine⟨λus w=>us=[.int .i64 (p7 x m).2]/\∃H',H2.le H'/\SL W (.ob (il lp xp m.1.1)::.ob (eW H' xp (p7 x m).1.2)::.mem H'::F) w,?_,?_⟩
  ·unfold p7
   refine bW (λh0=>?_) (λh0=>?_)
   ·rw[if_pos h0]
    obtain⟨sv,xs,hx,hS⟩:=il.iff.1 (Has.front (c:=.ob (il lp xp m.1.1)) hS Xr)
    refine Gp ?_
    refine Cc (YK H2 xp m.1.2 N xv (by omega) (by omega) x.file bv x.b po (by omega)) ?_;clear hS
    rintro v post ⟨rfl,H',hh,rfl⟩ w hS
    try simp only[app]at hS
    have hS:=il.put m.1.1 hS hx Xp
    exact⟨rfl,H',hh,aR hS⟩
   ·rw[if_neg h0]
    exact⟨rfl,H2,bw.le_refl H2,aR hS⟩
  clear hS
  rintro v9 w ⟨cW,H3,kz,hS⟩
  cases cW
  have X3:=po.mono kz
  have HD:=l8.mono kz
  have oV:=bw.le_trans kF kz
  clear kz po l8 kF
  obtain⟨xd,oW,hA3⟩:=hA
  generalize p7 x m=a at *
  have hB:(tV x a).1.1=m.1.1:=by
   unfold tV
   split
   ·exact xd
   ·exact xd
  have haR:=oW.A_
  refine⟨λus w=>us=[.int .i64 (tV x a).2]/\SL W (.ob (il lp xp m.1.1)::.ob (eW H3 xp (tV x a).1.2)::.mem H3::F) w,?_,?_⟩
  ·unfold tV
   refine bW (λh0=>?_) (λh0=>?_)
   ·rw[if_pos h0]
    obtain⟨sv,xs,hx,hS⟩:=il.iff.1 (Has.front (c:=.ob (il lp xp m.1.1)) hS Xr)
    refine Gp ?_
    refine Cc (Qk H3 xp a.1.2 _ oW (by omega) (by omega) x.file) ?_;clear hS
    rintro v post ⟨rfl,rfl⟩ w hS
    try simp only[app]at hS
    have hS:=il.put m.1.1 hS hx Xp
    exact⟨rfl,aR hS⟩
   ·rw[if_neg h0]
    exact⟨rfl,aR hS⟩
  clear hS
  rintro v9 w ⟨cW,hS⟩
  cases cW
  simp only
  generalize tV x a=y at *
  obtain⟨⟨y1,d3⟩,e⟩:=y
  simp only at *
  subst hB
  refine bW (λh0=>?_) (λh0=>?_)
  ·rw[if_neg h0]
   exact⟨_,⟨rfl,H3,oV,rfl⟩,aR hS⟩
  have h0:e=0:=Classical.not_not.1 h0
  subst h0
  rw[if_pos rfl]
  obtain⟨sv,xs,hx,hS⟩:=il.iff.1 (Has.front (c:=.ob (il lp xp m.1.1)) hS Xr)
  obtain⟨r6,rZ,_,_⟩:=AI.xs hx
  have pP:b9 (xs.map d_.pl)=b9 g.bR:=by rw[hx,xw.1]
  have hgd:=hw.hd
  have sE:=u_ hg.ok.bR
  have Hg:=Ib hg.ok hw
  refine⟨λus w=>us=[]/\∃kD fF,fF.map d_.pl=sL g.bR x/\fF.length<=xs.length+1/\SL W (.pt lp (my kD xp m.1.1.base m.1.1.size (nC m.1.1.ia)) 254::lN kD fF::.ob (zh gI fF)::.ob (eW H3 xp d3)::.mem H3::F) w,?_,?_⟩
  ·unfold sL
   refine y3 (λhf=>?_) (λhf=>?_)
   ·rw[if_pos hf]
    refine Gn λw hS=>?_
    refine Cg (yZ lp xp sv xs m.1.1.base m.1.1.size (nC m.1.1.ia) r6 (by omega) (by omega)) λw hS=>?_;refine Gm λb w hS=>?_
    rw[pP]at hS
    refine y8 (m:=1) (cs:=[.int .i64 x.file,.int .i64 (b9 g.bR+1),.int .i64 0,.slice none 0 0]) hS Xr (lP hS .hd rfl) rfl rfl (by simp[Value.oneCell']) (by omega) (by omega) λkD w hS=>?_
    have lW:=f_.one hS (v:=kD) .hd
    refine Gn λw hS=>?_
    have hS:=f_.r9 (a:=none) (t:=62) (sz:=1) hS
    have hS:=zh.nil (A:=ji) hS
    have hS:=(gI.iff (x:=⟨x.file,b9 g.bR+1,0,[],none,0⟩)).2 (hS.perm (.swap _ _ _))
    have hS:=zh.T2 (A:=gI) (xs:=xs) ⟨x.file,b9 g.bR+1,0,[],none,0⟩ hS Xp
    have e1:xs.length+1=(xs++[(⟨x.file,b9 g.bR+1,0,[],none,0⟩:d_)]).length:=by simp
    have e2:(xs.map iP).flatten++[.int .i64 x.file,.int .i64 (b9 g.bR+1),.int .i64 0,.slice none 0 0]=((xs++[(⟨x.file,b9 g.bR+1,0,[],none,0⟩:d_)]).map iP).flatten:=by simp[iP,d_.lv]
    rw[e1,e2]at hS
    refine⟨kD,xs++[⟨x.file,b9 g.bR+1,0,[],none,0⟩],?_,by simp,aR hS⟩
    rw[List.map_append,hx,xw.1];rfl
   ·rw[if_neg (by rw[hf];decide)]
    exact⟨rfl,sv,xs,by rw[hx,xw.1],by omega,aR hS⟩
  clear hS r6 pP
  rintro w ⟨-,kD,fF,mI,xq,hS⟩
  obtain⟨A,s,hA⟩:=EE hw
  rw[A6 _ _ _ hA]
  have hle:0<fF.length:=by
   have:=congrArg List.length mI
   rw[hA]at this;simp at this;omega
  have hj:fF.length-1<fF.length:=by omega
  have tG:fF=fF.take (fF.length-1)++[fF[fF.length-1]]:=by
   conv=>lhs;rw[<- List.take_append_drop (fF.length-1) fF]
   rw[List.drop_eq_getElem_cons hj,List.drop_eq_nil_of_le (by omega)]
  have GG:A=(fF.take (fF.length-1)).map d_.pl/\s=(fF[fF.length-1]).pl:=by
   rw[tG,List.map_append]at mI
   rw[hA]at mI
   have:=List.append_inj' mI rfl
   exact⟨this.1.symm,by simpa using this.2.symm⟩
  obtain⟨XL,tE⟩:=GG
  subst XL tE
  have Cw:=Hg (fF[fF.length-1]).pl (by rw[hA];simp)
  have z1:=Cw.sz
  have z2:=Cw.ln
  refine Cg (yd lp xp kD fF m.1.1.base m.1.1.size (nC m.1.1.ia) (by omega)) λw hS=>?_
  have hS:=zh.bWc (A:=gI) (xs:=fF) hS (List.getElem?_eq_getElem hj) Xr
  have hS:=gI.iff.1 hS
  obtain⟨rb,ro,rc,AA,BB,rfl,Av,hS,mu⟩:=jI.at (Has.front (c:=lN kD fF) hS Xr) hj
  generalize CF:fF[fF.length-1]=x0 at *
  have z1:x0.size<=M:=z1
  have z2:x0.es.length<=M:=by simpa [d_.pl,s8] using z2
  rw[show ((fF.length:Nat):Int)-1=((fF.length-1:Nat):Int) by omega]
  refine zB hj ?_
  rw[<- Av]
  refine Gp ?_
  refine zX hS Xh (se (i:=2) (u:=.int .i64 x0.size) rfl) ?_
  refine zo X3 ?_
  refine Gp ?_
  refine zB hj ?_
  rw[<- Av]
  refine Gp ?_
  refine Zb hS Xu (se (i:=2) (u:=.int .i64 x0.size) rfl) rfl λw hS=>?_
  rw[EH (by rw[vA];decide)]at hS
  have e5:(iP x0).set 2 (.int .i64 ((x0.size+x.b.length:Nat):Int))=[.int .i64 x0.file,.int .i64 x0.first,.int .i64 ((x0.size+x.b.length:Nat):Int),x0.lv]:=rfl
  rw[e5]at hS
  refine Gn λw hS=>?_
  refine zB hj ?_
  rw[<- Av]
  refine Gp ?_
  refine zX hS Xh (se (i:=3) (u:=x0.lv) rfl) ?_
  refine Gm λb w hS=>?_
  refine zX hS Xh (se (i:=3) (u:=x0.lv) rfl) ⟨rfl,?_⟩
  have hS:=a_.full (n:=0) (sz:=1) (t:=5) (cells:=[]) rfl hS
  refine zx (n:=0) (m:=p.length) hS .hd (si hS Xh HD) (by simp) rfl (nk _) (by omega) (by omega) λu w hS=>?_
  rw[Nat.zero_add,List.nil_append]at hS
  have hu:=hS.nZ .hd
  obtain⟨ua,uc,eu,_⟩:=a_.at hS .hd
  subst eu
  refine Gp ?_
  refine zX hS Xh (se (i:=3) (u:=x0.lv) rfl) ⟨rfl,?_⟩
  refine Gm λb w hS=>?_
  refine zX hS Xh (se (i:=3) (u:=x0.lv) rfl) ⟨rfl,?_⟩
  refine y8 (t:=62) (sz:=1) (n:=x0.es.length) (cells:=iS x0.es) (m:=1) (cs:=[.slice ua p.length uc]) hS Xr (lP hS .hd rfl) rfl rfl (by simp[Value.oneCell']) (by omega) (by omega) λv' w hS=>?_
  have lW:=f_.one hS (v:=v') .hd
  obtain⟨a',c',ev,_⟩:=f_.at hS (v:=v') .hd
  subst ev
  refine Gp ?_
  refine zB hj ?_
  rw[<- Av]
  refine Gp ?_
  refine Zb hS Xu (se (i:=3) (u:=x0.lv) rfl) lW λw hS=>?_
  rw[EH (by show 3<4;decide)]at hS
  have e6:([.int .i64 x0.file,.int .i64 x0.first,.int .i64 ((x0.size+x.b.length:Nat):Int),x0.lv]:List Value).set 3 (.slice a' (x0.es.length+1) c')=iP ⟨x0.file,x0.first,x0.size+x.b.length,x0.es++[(.slice ua p.length uc,p)],a',c'⟩:=by
   simp[iP,d_.lv]
  rw[e6]at hS
  generalize hy:(⟨x0.file,x0.first,x0.size+x.b.length,x0.es++[(.slice ua p.length uc,p)],a',c'⟩:d_)=y at *
  have mJ:(fF.set (fF.length-1) y).map d_.pl=(fF.take (fF.length-1)).map d_.pl++[s6 x0.pl x.b.length p]:=by
   rw[List.set_eq_take_append_cons_drop,if_pos hj,List.drop_eq_nil_of_le (by omega),List.map_append]
   congr 1
   simp[<- hy,d_.pl,s6,nq]
  have Cr:=(It hg.ok hw).1
  rw[A6 _ _ _ hA,<- mJ]at Cr
  have hS:=mu y w _ (Has.front (c:=.pt rb (AA++(iP y++BB)) 259) hS Xr)
  have hS:SL W (.ob (ji (.slice ua p.length uc,p))::_) _:=Has.front (c:=.ob (a_ (.slice ua p.length uc) 5 1 p.length (p.map cR))) hS Xr
  have hS:=zh.T2 (A:=ji) (xs:=x0.es) (.slice ua p.length uc,p) hS Xp
  have e7:x0.es.length+1=y.es.length:=by simp[<- hy]
  have e8:iS x0.es++[.slice ua p.length uc]=iS y.es:=by simp[<- hy,iS]
  have e9:x0.es++[(.slice ua p.length uc,p)]=y.es:=by simp[<- hy]
  have F4:(.slice a' (x0.es.length+1) c':Value)=y.lv:=by simp[<- hy,d_.lv]
  have hS:=Has.front (c:=.ob (f_ (.slice a' (x0.es.length+1) c') 62 1 (x0.es.length+1) (iS x0.es++[.slice ua p.length uc]))) hS Xr
  rw[F4,e7,e8,e9]at hS
  have hS:=gI.put y hS Xp
  have hS:=zh.a_n (A:=gI) (xs:=fF) (t:=fF.length-1) y hS hj Xp
  refine Cg (yZ lp xp (.slice (some ⟨rb,ro,none⟩) fF.length rc) (fF.set (fF.length-1) y) m.1.1.base m.1.1.size (nC m.1.1.ia) Cr (by rw[List.length_set];omega) (by omega)) λw hS=>?_
  rw[mJ]
  have hS:=il.oD m.1.1.ia (L:=(fF.take (fF.length-1)).map d_.pl++[s6 x0.pl x.b.length p]) hS mJ Xp
  exact⟨_,⟨rfl,H3,oV,rfl⟩,aR hS⟩
theorem Tu:∀{L:List fW} {n:Int} {b:List UInt8} {N:Nat},(∀s∈L,mO s N)->lj L n=some b->b.length<=1048576
 | [],_,_,_,_,h=>by cases h
 | s::r,n,b,N,hs,h=>by
  unfold lj at h
  split at h
  ·exact (hs s (.head _)).bl b (List.mem_of_getElem? h)
  ·exact Tu (λx hx=>hs x (.tail _ hx)) h
def C_(H:bw)(xp:Nat)(s:DS)(f:Int)(v:Value)(post:List Chunk):Prop:=match ij PF.id s.R f with
 | none=>v= .tuple #[.slice none 0 0,.bool false]/\post=[.ob (eW H xp s),.mem H]
 | some x=>∃u,v= .tuple #[u,.bool true]/\post=[.ob (a_ u 5 1 x.b.length (x.b.map cR)),.ob (eW H xp s),.mem H]
theorem qi(H:bw)(xp:Nat)(s:DS)(N:Nat)(b5:s.Ok N)(hN:N<=140737488355328)(f:Int):
  SP 177 [dF xp,.int .i64 f] [.ob (eW H xp s),.mem H] (C_ H xp s f):=by
 intro W F w hS;apply b4s;delta KA bF a7 c_ bI;(try simp only[app]at hS)
 have hR:=b5.A_
 obtain⟨fv,ys,⟨he,k_⟩,hS⟩:=eW.iff.1 hS
 have tI:ys.length=s.R.length:=by rw[<- he,List.length_map]
 have oY:ij PF.id s.R f=(ij kC ys f).map Prod.fst:=by rw[<- he];exact BR tJ ys f
 refine Cg (y6 xp s fv ys (by rw[he];exact b5.sorted) (by omega) f) λw hS=>?_
 cases hk:j8 kC ys f with
 | false=>
  have hg:ij PF.id s.R f=none:=by rw[oY];unfold ij;rw[if_neg (by rw[hk];decide)];rfl
  refine zw ?_
  have hS:=eW.put s hS ⟨he,k_⟩ Xp
  exact⟨[.ob (eW H xp s),.mem H],by unfold C_;rw[hg];exact⟨rfl,rfl⟩,aR hS⟩
 | true=>
  obtain⟨h1,h2⟩:=sJ hk
  have hx:ys[iI kC ys f]?=some ys[iI kC ys f]:=List.getElem?_eq_getElem h1
  have hg:ij PF.id s.R f=some ys[iI kC ys f].1:=by rw[oY];unfold ij;rw[if_pos hk,hx];rfl
  have hC:=k_ _ (List.getElem_mem h1)
  have hlen:=b5.len _ (ug hg).1
  generalize iI kC ys f=i at *
  generalize ys[i]=y at *
  refine zq ?_
  refine zz hS (cells:=[]) rfl ?_
  clear hS;intro b1 w hS
  refine Gp ?_
  refine zy (i:=2) hS (v:=fv) (t:=186) Xh nG hx h1 (u:=y.2) rfl ?_
  have hS:=eW.put s hS ⟨he,k_⟩ (H:=H) (xp:=xp) Xp
  have hS:=a_.full (n:=0) (sz:=1) (b:=b1) (t:=5) (cells:=[]) rfl (SL.b4 hS (t:=.pt b1 [] 5::.ob (eW H xp s)::.mem H::F) Xi)
  refine zx (n:=0) (m:=y.1.b.length) hS Xr (si hS Xh hC) (by simp) rfl (nk _) (by omega) (by omega) ?_
  clear hS;intro u w hS
  rw[List.nil_append,Nat.zero_add]at hS
  exact⟨[.ob (a_ u 5 1 y.1.b.length (y.1.b.map cR)),.ob (eW H xp s),.mem H],by unfold C_;rw[hg];exact⟨u,rfl,rfl⟩,aR hS⟩
abbrev rC(xp lp rp:Nat)(kd image:Int):List Value:=[dF xp,dF lp,dF rp,.int .i64 kd,.int .i64 image]
def jH(kp xp lp rp:Nat)(H:bw)(k:fR):zC:=zQ True [.pt kp (rC xp lp rp k.kd k.image) 171,.ob (iH H rp k.ts),.ob (il lp xp k.g)]
section
variable {W w:World} {l F:List Chunk} {kp xp lp rp:Nat} {H H':bw}
theorem jH.iff{k:fR}:SL W (.ob (jH kp xp lp rp H k)::l) w↔SL W (.pt kp (rC xp lp rp k.kd k.image) 171::.ob (iH H rp k.ts)::.ob (il lp xp k.g)::l) w:=by
 unfold jH
 simp only[SL.fact,true_and,List.cons_append,List.nil_append]
theorem jH.put(k:fR)(hS:SL W l w)(p:ky [.pt kp (rC xp lp rp k.kd k.image) 171,.ob (iH H rp k.ts),.ob (il lp xp k.g)] l F):SL W (.ob (jH kp xp lp rp H k)::F) w:=jH.iff.2 (hS.pick p)
theorem jH.oD{g:g8}{d:DS}{ts:kq}{kd image:Int}(hS:SL W l w)(p:ky [.pt kp (rC xp lp rp kd image) 171,.ob (iH H rp ts),.ob (il lp xp g)] l F):SL W (.ob (jH kp xp lp rp H ⟨g,d,ts,kd,image⟩)::F) w:=jH.iff.2 (hS.pick p)
theorem jH.lh{k:fR}(hh:H.le H')(hS:SL W l w)(r:kL (.ob (jH kp xp lp rp H k)) l F):SL W (.ob (jH kp xp lp rp H' k)::F) w:=by
 have h:=jH.iff.1 (hS.perm r.perm)
 have h:=iH.lh hh h (.tl .hd)
 exact jH.iff.2 (h.perm (.swap _ _ _))
end
def Bp(kp xp lp rp:Nat)(k:fR)(H:bw)(aI:Int)(r:Value)(post:List Chunk):Prop:=match k.jK aI with
 | .error e=>e≠0/\∃H',H.le H'/\r= .tuple #[agg (iU uI),.int .i64 e]/\post=[.ob (jH kp xp lp rp H' k),.mem H']
 | .ok t=>∃x H',H.le H'/\r= .tuple #[agg (iU x),.int .i64 0]/\mn H' x t/\post=[.ob (jH kp xp lp rp H' k),.mem H']
section
variable (kp xp lp rp:Nat) (k:fR) {N:Nat} (hg:od k.g N) (hN:N<=1000000000)
include hg hN
theorem qt(H:bw)(aI:Int)(hl : -9000000000000000000<=aI/\aI<=9000000000000000000):SP 88 [dF kp,.int .i64 aI] [.ob (jH kp xp lp rp H k),.mem H] (Bp kp xp lp rp k H aI):=by
 intro W F w hS;apply b9h;delta Nl aF bF ai bI;(try simp only[app]at hS)
 refine Gb λzb w hS=>?_
 have hS:=jH.iff.1 (SL.b4 hS (t:=.ob (jH kp xp lp rp H k)::.pt zb [.int .i64 0,.int .i64 0,.slice none 0 0,.slice none 0 0,.int .i64 0] 39::.mem H::F) Xi)
 refine Gp ?_
 refine Cc (qq lp xp k.g aI hg (by omega) hl) ?_;clear hS
 rintro r post hq w hS
 unfold Bq at hq
 cases hr:lj k.g.bR aI with
 | none=>
  rw[hr]at hq
  obtain⟨rfl,rfl⟩:=hq
  have he:k.jK aI= .error 5:=by unfold fR.jK;rw[hr]
  try simp only[app]at hS
  have hS:=jH.put k hS Xp
  refine Gp ?_
  refine za (λ_=>?_) (λh=>absurd (by decide) h)
  refine Gn λw hS=>?_
  exact⟨[.ob (jH kp xp lp rp H k),.mem H],by unfold Bp;rw[he];exact⟨by decide,H,bw.le_refl H,rfl,rfl⟩,aR hS⟩
 | some bs=>
  rw[hr]at hq
  obtain⟨u,rfl,rfl⟩:=hq
  have he:k.jK aI=l6 bs:=by unfold fR.jK;rw[hr]
  have u0:=Tu hg.ok.bR hr
  try simp only[app]at hS
  have hS:=jH.put k hS Xp
  refine Gp ?_
  refine za (λh=>absurd rfl h) (λ_=>?_)
  refine Cc (Ql (.ob (a_ u 5 1 bs.length (bs.map cR))) H u bs ie.own (by omega)) ?_;clear hS
  rintro r post hq w hS
  unfold sj at hq
  cases hd:l6 bs with
  | error e=>
   rw[hd]at hq
   obtain⟨iW,H',hh,rfl,rfl⟩:=hq
   try simp only[app]at hS
   unfold iU uI
   refine Gn λw hS=>?_
   have hS:=jH.lh (k:=k) hh hS Xr
   refine⟨[.ob (jH kp xp lp rp H' k),.mem H'],?_,aR hS⟩
   unfold Bp;rw[he,hd];exact⟨iW,H',hh,rfl,rfl⟩
  | ok t=>
   rw[hd]at hq
   obtain⟨x,H',hh,rfl,hx,rfl⟩:=hq
   try simp only[app]at hS
   have kj:=hx.cv.one
   have nu:=hx.sv.one
   refine Gp ?_
   refine zD (vs:=iU x) hS Xu rfl rfl (sA (aI:=x.aI) (kind:=x.kind) (mark:=x.mark) kj nu) λw hS=>?_
   refine yj hS Xh rfl ?_
   have hS:=jH.lh (k:=k) hh hS Xr
   refine⟨[.ob (jH kp xp lp rp H' k),.mem H'],?_,aR hS⟩
   unfold Bp;rw[he,hd];exact⟨x,H',hh,rfl,hx,rfl⟩
end
theorem YL(kp xp lp rp:Nat)(d:DS)(H:bw)(x0:rJ)(n:Nat)(CF:x0.2.2.length=n)(h8:n<=8){N:Nat}(b5:d.Ok N)(hN:N<=140737488355328):
  SP 85 [dF kp,.int .i64 n] [.pt kp (rC xp lp rp x0.1 x0.2.1) 171,.ob (iH H rp x0.2.2),.ob (eW H xp d),.mem H] (λ_ post=>∃H',H.le H'/\post=[.pt kp (rC xp lp rp (jE d.R n 1 (jE d.R n 0 x0)).1 (jE d.R n 1 (jE d.R n 0 x0)).2.1) 171,.ob (iH H' rp (jE d.R n 1 (jE d.R n 0 x0)).2.2),.ob (eW H' xp d),.mem H']):=by
 intro W F w hS;apply b9e;delta Ni aF bF fI c_ ai;(try simp only[app]at hS)
 refine⟨λus w=>∃(j:Nat) (H':bw),us=[.int .i64 j]/\j<=2/\H.le H'/\(loadAt d.R n x0 j).2.2.length=n/\SL W (.pt kp (rC xp lp rp (loadAt d.R n x0 j).1 (loadAt d.R n x0 j).2.1) 171::.ob (iH H' rp (loadAt d.R n x0 j).2.2)::.ob (eW H' xp d)::.mem H'::F) w,
  λus _=>match us with|[.int _ i]=>(2-i).toNat|_=>0,⟨0,H,rfl,by omega,bw.le_refl H,CF,hS⟩,?_⟩
 clear hS
 rintro v4 w ⟨j,H',cW,hj,hh,rZ,hS⟩
 cases cW
 refine bW (λh=>?_) (λh=>?_)
 ·have uq:j<=1:=by omega
  have lL:=Sp (R:=d.R) (n:=n) (x:=x0) uq
  have k8:∀{w:World} {H2:bw} (y:rJ),jE d.R n j (loadAt d.R n x0 j)=y->H.le H2->SL W (.pt kp (rC xp lp rp y.1 y.2.1) 171::.ob (iH H2 rp y.2.2)::.ob (eW H2 xp d)::.mem H2::F) w ->
    ∃(j':Nat) (H':bw),[Value.int .i64 ((j+1:Nat):Int)]=[.int .i64 j']/\j'<=2/\H.le H'/\(loadAt d.R n x0 j').2.2.length=n/\SL W (.pt kp (rC xp lp rp (loadAt d.R n x0 j').1 (loadAt d.R n x0 j').2.1) 171::.ob (iH H' rp (loadAt d.R n x0 j').2.2)::.ob (eW H' xp d)::.mem H'::F) w:=λy hy kF hS=>by
   refine⟨j+1,_,rfl,by omega,kF,?_,?_⟩
   ·rw[lL];exact HS rZ
   ·rw[lL,hy];exact hS
  generalize hx:loadAt d.R n x0 j=x at *
  refine Gp ?_
  refine Cc (qi H' xp d N b5 hN j) ?_;clear hS
  rintro r post hq w hS
  unfold C_ at hq
  cases tA:ij PF.id d.R (j:Int) with
  | none=>
   have hi:jE d.R n j x=x:=by unfold jE lE;rw[tA]
   rw[tA]at hq
   obtain⟨rfl,rfl⟩:=hq
   (try simp only[app]at hS);refine Gp ?_
   refine zw ?_
   refine Gp ?_
   exact⟨k8 x hi hh (aR hS),by dsimp only;omega⟩
  | some pf=>
   rw[tA]at hq
   obtain⟨u,rfl,rfl⟩:=hq
   have jO:=b5.len _ (ug tA).1
   (try simp only[app]at hS);refine Gp ?_
   refine zq ?_
   refine Cc (qm (.ob (a_ u 5 1 pf.b.length (pf.b.map cR))) H' u pf.b ie.own (by omega)) ?_;clear hS
   rintro r post hq w hS
   unfold vG at hq
   cases hd:lO pf.b with
   | none=>
    have hi:jE d.R n j x=x:=by unfold jE lE;rw[tA];simp only;rw[hd]
    rw[hd]at hq
    obtain⟨rfl,H2,iB,rfl⟩:=hq
    try simp only[app]at hS
    have hS:=iH.lh iB hS (r:=rp) (ts:=x.2.2) Xr
    have hS:=eW.lh iB hS (xp:=xp) (s:=d) Xr
    refine Gp ?_
    refine za (λh=>absurd h (by decide)) (λ_=>?_)
    refine Gp ?_
    exact⟨k8 x hi (bw.le_trans hh iB) (aR hS),by dsimp only;omega⟩
   | some y=>
    rw[hd]at hq
    obtain⟨v,vs,H2,iB,m_,rfl,rfl⟩:=hq
    have wc:=Oq hd
    have RX:=(tL.1 wc).1
    have DZ:lE d.R n j=if y.2.length=n then some y else none:=by unfold lE;rw[tA];simp only;rw[hd]
    try simp only[app]at hS
    have hS:=iH.lh iB hS (r:=rp) (ts:=x.2.2) Xr
    have hS:=eW.lh iB hS (xp:=xp) (s:=d) Xr
    have kF:=bw.le_trans hh iB
    refine Gp ?_
    refine za (λ_=>?_) (λh=>absurd rfl h)
    refine zt hS (v:=v) (t:=53) (sz:=1) (n:=y.2.length) (cells:=vs) Xh ?_
    refine bW (λhl=>?_) (λhl=>?_)
    ·have hl:y.2.length=n:=by omega
     rw[if_pos hl]at DZ
     have lW:=hS.nZ (v:=v) (t:=53) (sz:=1) (n:=y.2.length) (cells:=vs) Xh
     have sG:jE d.R n j x=if 0<=x.1/\y.1<=x.2.1 then x else ((j:Int),y.1,y.2):=by unfold jE;rw[DZ]
     obtain⟨sv0,Fa,PK,hS⟩:=iH.iff.1 (SL.b4 hS (t:=.ob (iH H2 rp x.2.2)::.pt kp (rC xp lp rp x.1 x.2.1) 171::.ob (a_ v 53 1 y.2.length vs)::.ob (eW H2 xp d)::.mem H2::F) Xi)
     refine bW (λh0=>?_) (λh0=>?_)
     ·rw[if_neg (by omega)]at sG
      refine Gn λw hS=>?_
      have hS:=iH.put (H:=H2) (r:=rp) y.2 m_ RX.2.2.2 hS Xp
      exact⟨k8 _ sG kF (aR hS),by dsimp only;omega⟩
     ·refine bW (λh1=>?_) (λh1=>?_)
      ·rw[if_neg (by omega)]at sG
       refine Gn λw hS=>?_
       have hS:=iH.put (H:=H2) (r:=rp) y.2 m_ RX.2.2.2 hS Xp
       exact⟨k8 _ sG kF (aR hS),by dsimp only;omega⟩
      ·rw[if_pos ⟨by omega,by omega⟩]at sG
       refine Gp ?_
       have hS:=iH.put (H:=H2) (r:=rp) x.2.2 PK.1 PK.2 hS Xp
       exact⟨k8 _ sG kF (aR hS),by dsimp only;omega⟩
    ·rw[if_neg (by omega)]at DZ
     have hi:jE d.R n j x=x:=by unfold jE;rw[DZ]
     refine Gp ?_
     exact⟨k8 x hi kF (aR hS),by dsimp only;omega⟩
 ·obtain rfl:j=2:=by omega
  exact⟨_,⟨H',hh,rfl⟩,hS⟩
theorem aij{g:g8}{off:Bool}{p:List UInt8}{x:lI}(h:jV g off p= .ok x):b9 (lM g.bR x p)=b9 g.bR+1:=by
 have key:∀(L:List fW) (s:fW),b9 ((L++[s]).dropLast++(L++[s]).getLast?.toList.map λs=>{s with size:=s.size+x.b.length,l:=s.l++[p]})=s.next:=λL s=>by
  rw[List.dropLast_concat,List.getLast?_append]
  simp only[List.getLast?_singleton,Option.some_or,Option.toList_some,List.map_cons,List.map_nil]
  unfold b9
  rw[List.getLast?_append]
  simp only[List.getLast?_singleton,Option.some_or]
  unfold fW.next
  simp only[List.length_append,List.length_singleton]
  omega
 unfold lM
 cases hf:x.fresh with
 | true=>
  simp only[if_true]
  rw[key]
  show b9 g.bR+1+(([]:List (List UInt8)).length:Int)=_
  simp
 | false=>
  simp only[Bool.false_eq_true,if_false]
  have iW:g.bR≠[]:=λe=>by
   unfold jV m8 at h
   rw[e]at h
   simp only[List.getLast?_nil]at h
   split at h
   ·cases h
   ·split at h
    ·cases h
    ·split at h
     ·cases h
     ·split at h
      ·cases h
      ·cases h;cases hf
  obtain⟨L,s,e⟩:∃L s,g.bR=L++[s]:=⟨g.bR.dropLast,g.bR.getLast iW,(List.dropLast_concat_getLast iW).symm⟩
  rw[e,key]
  unfold b9
  rw[List.getLast?_append]
  simp only[List.getLast?_singleton,Option.some_or]
  omega
theorem Vo{g:g8}{d:DS}{p:List UInt8}(h:(j6 g d p).2.2=0):(j6 g d p).2.1=b9 g.bR+1:=by
 cases hp:jV g d.off p with
 | error e=>
  rw[Di hp]at h
  unfold jV m8 at hp
  have he:e≠0:=by
   split at hp
   ·cases hp;decide
   ·split at hp
    ·cases hp;decide
    ·split at hp
     ·cases hp;decide
     ·split at hp
      ·split at hp
       ·cases hp;decide
       ·cases hp
      ·split at hp
       ·cases hp
       ·split at hp
        ·cases hp;decide
        ·cases hp
  exact absurd h he
 | ok x=>
  rw[NR hp]at h ⊢
  simp only at h ⊢
  split
  ·exact aij hp
  ·rename_i hn
   rw[if_neg hn]at h
   exact absurd h hn
abbrev Jv(kp xp lp rp:Nat)(H:bw)(y:fR × (Int × Int))(v:Value)(post:List Chunk):Prop:=∃(H':bw),H.le H'/\v= .tuple #[.int .i64 y.2.1,.int .i64 y.2.2]/\post=[.ob (jH kp xp lp rp H' y.1),.ob (eW H' xp y.1.d),.mem H']
theorem Qj(kp xp lp rp:Nat)(k:fR)(H:bw)(x:oP)(t:dR)(hx:mn H x t)(hm:iM t=true){N:Nat}(hk:mY k N)(hN:N<=1000000000)(iO:k.d.ops<=90000):
  SP 90 [dF kp,agg (iU x)] [.ob (jH kp xp lp rp H k),.ob (eW H xp k.d),.mem H] (Jv kp xp lp rp H (k.lJ t)):=by
 intro W F w hS;apply b9j;delta Nn aF bF a7 c_ ai;(try simp only[app]at hS)
 have hg:=hk.g
 have B_:=hg.hd
 obtain⟨Hv,AP,Hw,Hx,Hy,Cz,Hz⟩:=nW hm
 have GX:=u_ hg.ok.bR
 refine zK hS λxb w hS=>?_
 unfold iU at hS
 rw[hx.aI,hx.kind,hx.mark]at hS
 have hS:=jH.iff.1 (SL.b4 hS (t:=.ob (jH kp xp lp rp H k)::oe xb x t::.ob (eW H xp k.d)::.mem H::F) Xi)
 obtain⟨fv,ys,gw,hS⟩:=eW.iff.1 (SL.b4 hS (t:=.ob (eW H xp k.d)::.pt kp (rC xp lp rp k.kd k.image) 171::.ob (iH H rp k.ts)::.ob (il lp xp k.g)::oe xb x t::.mem H::F) Xi)
 refine Gp ?_
 have hS:=eW.put k.d hS gw Xp
 cases ho:k.d.off with
 | true=>
  refine zw ?_
  rw[show k.lJ t=(k,(0,8)) by unfold fR.lJ;rw[if_pos ho]]
  have hS:=jH.put k hS Xp
  exact⟨_,⟨H,bw.le_refl H,rfl,rfl⟩,aR hS⟩
 | false=>
  refine zq ?_
  refine Gn λw hS=>?_
  refine Cc (qJ H rp k.ts x.cv t.changes hx.cv hk.len (by omega)) ?_;clear hS
  rintro _ post ⟨H1,iw,rfl,rfl⟩ w hS
  try simp only[app]at hS
  have hS:=eW.lh iw hS (xp:=xp) (s:=k.d) Xr
  have nA:mn H1 x t:=hx.mono iw
  refine Gp ?_
  refine zA (λhf=>?_) (λhf=>?_)
  ·rw[show k.lJ t=(k,(0,7)) by unfold fR.lJ;rw[if_neg (by simp[ho]),if_pos (.inl hf)]]
   have hS:=jH.put k hS Xp
   exact⟨_,⟨H1,iw,rfl,rfl⟩,aR hS⟩
  refine Gp ?_
  refine Cg (zZ lp xp k.g hg.ok (by omega)) λw hS=>?_
  refine za (λhh=>?_) (λhh=>?_)
  ·rw[show k.lJ t=(k,(0,7)) by unfold fR.lJ;rw[if_neg (by simp[ho]),if_pos (.inr (by omega))]]
   have hS:=jH.put k hS Xp
   exact⟨_,⟨H1,iw,rfl,rfl⟩,aR hS⟩
  refine Gp ?_
  refine Cg (zZ lp xp k.g hg.ok (by omega)) λw hS=>?_
  have uu:=HU hm (n:=b9 k.g.bR+1) (by omega) (by omega)
  have mJ:mn H1 ⟨b9 k.g.bR+1,t.kind,x.cv,x.sv,t.mark⟩ {t with aI:=b9 k.g.bR+1}:=⟨rfl,rfl,rfl,nA.cv,nA.sv⟩
  have BY:k.lJ t=(let r:=j6 k.g k.d (l4 {t with aI:=b9 k.g.bR+1});if r.2.2=0 then ({k with g:=r.1.1,d:=r.1.2,ts:=jz k.ts t.changes},(b9 k.g.bR+1,0)) else ({k with g:=r.1.1,d:=r.1.2},(0,r.2.2))):=by
   unfold fR.lJ
   rw[if_neg (by simp[ho]),if_neg (by rw[hf];simp;omega)]
  have u0:=Dn uu
  have DN:=N6 uu
  rw[BY]
  clear BY
  generalize hq:({t with aI:=b9 k.g.bR+1}:dR)=t2 at *
  have v_:1<=b9 k.g.bR+1:=by omega
  have awr:=λh=>Vo (g:=k.g) (d:=k.d) (p:=l4 t2) h
  generalize b9 k.g.bR+1=aI at *
  refine Cc (Qm H1 ⟨aI,t.kind,x.cv,x.sv,t.mark⟩ t2 mJ) ?_;clear hS
  rintro r post hq w hS
  unfold vC at hq
  rw[DN]at hq
  obtain⟨bv,rfl,rfl⟩:=hq
  try simp only[app]at hS
  obtain⟨H2,iB,hB,hS⟩:=zE (H:=H1) (v:=bv) (n:=(pG t2).length) (sz:=1) (t:=5) (cells:=(pG t2).map cR) hS Xp
  have hS:=eW.lh iB hS (xp:=xp) (s:=k.d) Xr
  have hS:=iH.lh iB hS (r:=rp) (ts:=k.ts) Xr
  have kF:=bw.le_trans iw iB
  refine Gp ?_
  refine Cc (Ye H2 lp xp k.g k.d bv (pG t2) hB (by omega) hg (by omega) hk.d (by omega) iO) ?_;clear hS
  rintro _ post ⟨rfl,H3,kz,rfl⟩ w hS
  try simp only[app]at hS
  have hS:=iH.lh kz hS (r:=rp) (ts:=k.ts) Xr
  have oV:=bw.le_trans kF kz
  generalize j6 k.g k.d (l4 t2)=r at *
  obtain⟨⟨g',d'⟩,n',e'⟩:=r
  simp only at hS ⊢
  refine bW (λhe=>?_) (λhe=>?_)
  ·rw[if_neg he]
   have hS:=jH.oD (d:=d') hS Xp
   exact⟨_,⟨H3,oV,rfl,rfl⟩,aR hS⟩
  ·have he:e'=0:=by omega
   rw[if_pos he]
   have xI:=hx.mono oV
   refine Gn λw hS=>?_
   refine Cc (yV H3 rp k.ts x.cv t.changes xI.cv hk.len (by omega)) ?_;clear hS
   rintro _ post kI w hS
   have iz:t.changes.all (ki k.ts.length)=true:=by
    unfold oU at hf
    rw[Bool.and_eq_true]at hf
    exact hf.1
   unfold xZ at kI
   rw[if_pos iz]at kI
   obtain⟨rfl,H4,m9,rfl⟩:=kI
   try simp only[app]at hS
   have hS:=eW.lh m9 hS (xp:=xp) (s:=d') Xr
   have hS:=jH.oD (d:=d') hS Xp
   obtain rfl:n'=aI:=awr he
   exact⟨_,⟨H4,bw.le_trans oV m9,rfl,rfl⟩,aR hS⟩
theorem cFj(kp xp lp rp:Nat)(k:fR)(H:bw)(sv cv:Value)(sg:List ByteArray)(l:List ig)(hs:gi H 1 sv sg.length (sg.map Value.string))(hc:gi H 4 cv l.length (l.map jA).flatten)(hl:l.length<=140737488351232){N:Nat}(hk:mY k N)(hN:N<=1000000000)(iO:k.d.ops<=90000):
  SP 31 [dF kp,sv,cv] [.ob (jH kp xp lp rp H k),.ob (eW H xp k.d),.mem H] (Jv kp xp lp rp H (k.mR sg l)):=by
 intro W F w hS;apply b7o;delta Ml aF bF a7 c_ ai bI;(try simp only[app]at hS)
 have tE:=hs.one
 have kj:=hc.one
 have hx:mn H ⟨1,1,cv,sv,0⟩ ⟨1,1,l,sg,0⟩:=⟨rfl,rfl,rfl,hc,hs⟩
 have e0:lx [.int .i64 0,.int .i64 0,.slice none 0 0,.slice none 0 0,.int .i64 0] [(0,1,.int .i64 1),(1,1,.int .i64 1),(2,1,cv),(3,1,sv)]=some (iU ⟨1,1,cv,sv,0⟩):=by
  simp[lx,show ∀n,(Value.int .i64 n).cells = #[.int .i64 n] from λ_=>rfl,vq tE,vq kj,iU]
 refine yx e0 ?_
 refine Gb λxb w hS=>?_
 refine zD hS Xu rfl rfl (sA kj tE) λw hS=>?_
 refine yj hS Xh rfl ?_
 refine Cg (y0 H ⟨1,1,cv,sv,0⟩ ⟨1,1,l,sg,0⟩ hx) λw hS=>?_
 refine zA (λhm=>?_) (λhm=>?_)
 ·rw[show k.mR sg l=(k,(0,1)) by unfold fR.mR;rw[if_neg (by rw[hm];simp)]]
  exact⟨_,⟨H,bw.le_refl H,rfl,rfl⟩,aR hS⟩
 have Hc:=(nW hm).2.2.2.2.2.1
 have Hc:∀c∈l,lF c 8=true:=Hc
 refine⟨λus w=>∃i:Nat,us=[.int .i64 i]/\i<=l.length/\(∀j (h:j<l.length),j<i->l[j].table<(k.ts.length:Int))/\SL W (.ob (jH kp xp lp rp H k)::.ob (eW H xp k.d)::.pt xb (iU ⟨1,1,cv,sv,0⟩) 39::.mem H::F) w,λus _=>match us with|[.int _ i]=>(l.length-i).toNat|_=>0,⟨0,rfl,by omega,λj h hj=>by omega,aR hS⟩,?_⟩
 clear hS
 rintro v9 w ⟨i,cW,hi,iz,hS⟩
 cases cW
 refine zo hc ?_
 refine bW (λh=>?_) (λh=>?_)
 ·have b3:i<l.length:=by omega
  have u6:=vm.1 (Hc _ (List.getElem_mem b3))
  have hS:=jH.iff.1 (SL.b4 hS (t:=.ob (jH kp xp lp rp H k)::.ob (eW H xp k.d)::.pt xb (iU ⟨1,1,cv,sv,0⟩) 39::.mem H::F) Xi)
  refine Gn λw hS=>?_
  refine zH hS Xh m0 hc (x:=l[i]) (List.getElem?_eq_getElem b3) b3 (i:=0) rfl ?_
  refine Cg (Y7 H rp k.ts l[i].table) λw hS=>?_
  have hS:=jH.put k hS Xp
  refine zA (λhe=>?_) (λhe=>?_)
  ·have he:=of_decide_eq_false he
   rw[show k.mR sg l=(k,(0,1)) by unfold fR.mR;rw[if_neg λh=>he ⟨u6.1,h.2 _ (List.getElem_mem b3)⟩]]
   exact⟨_,⟨H,bw.le_refl H,rfl,rfl⟩,aR hS⟩
  ·have he:=of_decide_eq_true he
   refine Gp ?_
   refine⟨⟨i+1,rfl,by omega,λj hj k9=>?_,aR hS⟩,by dsimp only;omega⟩
   by_cases e:j=i
   ·subst e;exact he.2
   ·exact iz j hj (by omega)
 ·have hA:∀c∈l,c.table<(k.ts.length:Int):=λc hc=>by
   obtain⟨j,hj,rfl⟩:=List.getElem_of_mem hc
   exact iz j hj (by omega)
  rw[show k.mR sg l=k.lJ ⟨1,1,l,sg,0⟩ by unfold fR.mR;rw[if_pos ⟨hm,hA⟩]]
  refine yj hS Xh rfl ?_
  refine Cc (Qj kp xp lp rp k H ⟨1,1,cv,sv,0⟩ ⟨1,1,l,sg,0⟩ hx hm hk hN iO) ?_;clear hS
  rintro _ post ⟨H',hh,rfl,rfl⟩ w hS
  (try simp only[app]at hS);refine Gp ?_
  exact⟨_,⟨H',hh,rfl,rfl⟩,aR hS⟩
def Fm(xp:Nat)(H:bw)(y:DS × Except Int fR)(r:Value)(post:List Chunk):Prop:=match y.2 with
 | .error e=>e≠0/\∃H',H.le H'/\r= .tuple #[.pointer none,.int .i64 e]/\post=[.ob (eW H' xp y.1),.mem H']
 | .ok k=>∃kp lp rp H',H.le H'/\r= .tuple #[dF kp,.int .i64 0]/\post=[.ob (jH kp xp lp rp H' k),.ob (eW H' xp y.1),.mem H']
theorem qr(H:bw)(xp:Nat)(d:DS)(lH size:Int){N B:Nat}(b5:d.Ok B)(hB:B<=140737488355328)(hw:sr d.R 16 N)(hN:N<=900000000)(iO:d.ops<=90000)(hn:∀d' g,kE d 16 size=(d',.ok g)->(iK g.bR).length<=50000):
  SP 30 [dF xp,.int .i64 lH,.int .i64 size] [.ob (eW H xp d),.mem H] (Fm xp H (r_ d lH size)):=by
 intro W F w hS;apply b7f;delta Mc aF bF a7 aW dI ai eI bI;(try simp only[app]at hS)
 have hR:=b5.A_
 have g9:∀{w:World},(lH<1\/8<lH)->SL W (.ob (eW H xp d)::.mem H::F) w->∃post,Fm xp H (r_ d lH size) (.tuple #[.pointer none,.int .i64 1]) post/\SL W (app post F) w:=λht hS=>by
  rw[show r_ d lH size=(d,.error 1) by unfold r_;rw[if_pos ht]]
  exact⟨_,⟨by decide,H,bw.le_refl H,rfl,rfl⟩,hS⟩
 refine Gp ?_
 refine za (λh=>g9 (by omega) hS) (λh1=>?_)
 refine Gp ?_
 refine za (λh=>g9 (by omega) hS) (λh2=>?_)
 clear g9
 have ht:¬(lH<1\/8<lH):=by omega
 obtain⟨n,rfl⟩:∃n:Nat,lH=n:=⟨lH.toNat,by omega⟩
 refine Cc (bFh H xp d 16 size b5 hB hw (by omega) (by omega) (by omega)) ?_;clear hS
 rintro r post hq w hS
 unfold r_
 rw[if_neg ht]
 unfold C9 at hq
 have B3:=Tb (base:=16) (size:=size) b5
 cases xz:kE d 16 size with
 | mk d' o=>
  rw[xz]at hq B3
  cases o with
  | error e=>
   obtain⟨he,rfl,H1,iw,rfl⟩:=hq
   (try simp only[app]at hS);refine Gp ?_
   refine za (λ_=>?_) (λh=>absurd he h)
   exact⟨_,⟨he,H1,iw,rfl,rfl⟩,aR hS⟩
  | ok g=>
   obtain⟨lp,H1,iw,rfl,rfl⟩:=hq
   have hG:=Ta hw (by omega) xz
   have ain:=hn d' g xz
   obtain⟨x1,x2,x3⟩:=Sq d'.R n
   (try simp only[app]at hS);refine Gp ?_
   refine za (λh=>absurd rfl h) (λ_=>?_)
   refine Cc (aW6 H1 n (by omega) (by omega)) ?_;clear hS
   rintro _ post ⟨rp,rfl,rfl⟩ w hS
   (try simp only[app]at hS);refine Gp ?_
   refine zK hS λkp w hS=>?_
   refine Cc (YL kp xp lp rp d' H1 (-1,0,List.replicate n []) n List.length_replicate (by omega) B3 hB) ?_;clear hS
   rintro _ post ⟨H2,iB,rfl⟩ w hS
   try simp only[app]at hS
   have D2:jE d'.R n 1 (jE d'.R n 0 (-1,0,List.replicate n []))=pz d'.R n:=rfl
   rw[D2]at hS
   simp only[Int.toNat_natCast]
   generalize pz d'.R n=x at *
   obtain⟨nw,im,T0⟩:=x
   simp only at x1 x2 x3 hS ⊢
   have kF:=bw.le_trans iw iB
   have vZ:=OS hG.seq
   have wa:=Sx hG.ok.bR
   have B_:=hG.hd
   have BU:N+100000<=1000000000:=by omega
   have hF:∀{w:World} {H':bw},(match n3 n im (iK g.bR) (jB g.bR) T0 with
     | none=>((d',.error 3):DS × Except Int fR)
     | some ts=>if im<=b9 g.bR/\jB g.bR<=im+1 then (d',.ok ⟨g,d',ts,nw,im⟩) else (d',.error 3))=(d',.error 3)->H.le H'->SL W (.ob (eW H' xp d')::.mem H'::F) w ->
     ∃post,Fm xp H (match n3 n im (iK g.bR) (jB g.bR) T0 with
     | none=>((d',.error 3):DS × Except Int fR)
     | some ts=>if im<=b9 g.bR/\jB g.bR<=im+1 then (d',.ok ⟨g,d',ts,nw,im⟩) else (d',.error 3)) (.tuple #[.pointer none,.int .i64 3]) post/\SL W (app post F) w:=λhe hh hS=>by
    rw[he]
    exact⟨_,⟨by decide,_,hh,rfl,rfl⟩,hS⟩
   refine⟨λus w=>us=[.bool (decide (b9 g.bR<im\/im+1<jB g.bR))]/\SL W (.pt kp (rC xp lp rp nw im) 171::.ob (iH H2 rp T0)::.ob (il lp xp g)::.ob (eW H2 xp d')::.mem H2::F) w,?_,?_⟩
   ·refine Gn λw hS=>?_
    refine Cg (zZ lp xp g hG.ok (by omega)) λw hS=>?_
    refine za (λh=>?_) (λh=>?_)
    ·skip
     exact⟨by rw[decide_eq_true (show b9 g.bR<im\/im+1<jB g.bR from .inl (by omega))],aR hS⟩
    ·refine Gp ?_
     refine Cg (Zz lp xp g hG.ok (by omega)) λw hS=>?_
     refine⟨?_,aR hS⟩
     congr 2
     rw[decide_eq_decide];omega
   clear hS
   rintro v11 w ⟨cW,hS⟩
   cases cW
   refine Cg (Zz lp xp g hG.ok (by omega)) λw hS=>?_
   have hS:=jH.oD (d:=d') hS Xp
   refine⟨λus w=>∃(i:Nat) (T:kq) (H3:bw),us=[.int .i64 (jB g.bR+i)]/\i<=(iK g.bR).length/\n3 n im (iK g.bR) (jB g.bR) T0=n3 n im ((iK g.bR).drop i) (jB g.bR+i) T/\T.length=n/\(∀C∈T,C.length<=1000+16*i)/\H.le H3/\SL W (.ob (jH kp xp lp rp H3 ⟨g,d',T,nw,im⟩)::.ob (eW H3 xp d')::.mem H3::F) w,
    λus _=>match us with|[.int _ i]=>(b9 g.bR+1-i).toNat|_=>0,⟨0,T0,H2,by simp,by omega,by simp,x1,λC hC=>by have:=(x3 C hC).len;omega,kF,aR hS⟩,?_⟩
   clear hS
   rintro oK w ⟨i,T,H3,cW,hi,gw,nt,rW,hh,hS⟩
   cases cW
   have hS:SL W (.pt kp (rC xp lp rp nw im) 171::.ob (iH H3 rp T)::.ob (il lp xp g)::.ob (eW H3 xp d')::.mem H3::F) w:=jH.iff.1 hS
   refine Cg (zZ lp xp g hG.ok (by omega)) λw hS=>?_
   refine za (λh=>?_) (λh=>?_)
   ·have b3:i<(iK g.bR).length:=by omega
    have Cu:=hG.seq.read i
    rw[List.getElem?_eq_getElem b3]at Cu
    rw[List.drop_eq_getElem_cons b3,Tz]at gw
    generalize (iK g.bR)[i]=bs at *
    have ny:1<=jB g.bR+i/\jB g.bR+i<=1099511627776:=by omega
    generalize hlq:jB g.bR+i=aI at *
    have hS:=jH.oD (d:=d') hS Xp
    refine Cc (qt kp xp lp rp ⟨g,d',T,nw,im⟩ hG BU H3 aI (by omega)) ?_;clear hS
    rintro r post hq w hS
    unfold Bp fR.jK at hq
    simp only at hq
    rw[Cu]at hq
    simp only at hq
    cases hd:l6 bs with
    | error e=>
     rw[hd]at hq gw
     obtain⟨iW,H4,m9,rfl,rfl⟩:=hq
     try simp only[app]at hS
     have hS:=eW.lh m9 hS (xp:=xp) (s:=d') Xr
     unfold iU uI
     refine Gm λb w hS=>?_
     refine za (λ_=>?_) (λh=>absurd iW h)
     exact hF (by rw[gw]) (bw.le_trans hh m9) (aR hS)
    | ok t=>
     rw[hd]at hq gw
     obtain⟨xx,H4,m9,rfl,hx,rfl⟩:=hq
     have Ar:=bw.le_trans hh m9
     obtain⟨Hv,AP,Hw,Hx,Hy,Cz,Hz⟩:=nW (Ov hd)
     try simp only[app]at hS
     have hS:=eW.lh m9 hS (xp:=xp) (s:=d') Xr
     refine Gp ?_
     refine zJ hS λxb w hS=>?_
     refine zD (vs:=iU xx) hS Xu rfl rfl (sA (aI:=xx.aI) (kind:=xx.kind) (mark:=xx.mark) hx.cv.one hx.sv.one) λw hS=>?_
     unfold iU at hS
     rw[hx.aI,hx.kind,hx.mark]at hS
     refine Gp ?_
     refine za (λh=>absurd rfl h) (λ_=>?_)
     refine Gp ?_
     simp only at gw
     refine za (λhl=>?_) (λhl=>?_)
     ·rw[if_neg λh=>hl h.1]at gw
      exact hF (by rw[gw]) Ar (aR hS)
     have hS:=SL.b4 hS (t:=.pt xb [.int .i64 t.aI,.int .i64 t.kind,xx.cv,xx.sv,.int .i64 t.mark] 39::.ob (jH kp xp lp rp H4 ⟨g,d',T,nw,im⟩)::.ob (eW H4 xp d')::.mem H4::F) Xi
     refine⟨λus w=>∃j:Nat,us=[.int .i64 j]/\j<=t.changes.length/\(∀a (h:a<t.changes.length),a<j->t.changes[a].table<(n:Int))/\SL W (.pt xb [.int .i64 t.aI,.int .i64 t.kind,xx.cv,xx.sv,.int .i64 t.mark] 39::.ob (jH kp xp lp rp H4 ⟨g,d',T,nw,im⟩)::.ob (eW H4 xp d')::.mem H4::F) w,
      λus _=>match us with|[.int _ i]=>(t.changes.length-i).toNat|_=>0,⟨0,rfl,by omega,λa h ha=>by omega,hS⟩,?_⟩
     clear hS
     rintro Uw w ⟨j,cW,hj,iz,hS⟩
     cases cW
     refine Gp ?_
     refine zo hx.cv ?_
     refine bW (λjX=>?_) (λjX=>?_)
     ·have jX:j<t.changes.length:=by omega
      refine Gp ?_
      refine zH hS Xh m0 hx.cv (x:=t.changes[j]) (List.getElem?_eq_getElem jX) jX (i:=0) rfl ?_
      refine bW (λhe=>?_) (λhe=>?_)
      ·rw[if_neg λh=>by have:=h.2 _ (List.getElem_mem jX);omega]at gw
       exact hF (by rw[gw]) Ar (aR hS)
      ·refine Gp ?_
       refine⟨⟨j+1,rfl,by omega,λa ha haj=>?_,aR hS⟩,by dsimp only;omega⟩
       by_cases e:a=j
       ·subst e;omega
       ·exact iz a ha (by omega)
     ·have hb:∀c∈t.changes,c.table<(n:Int):=λc hc=>by
       obtain⟨a,ha,rfl⟩:=List.getElem_of_mem hc
       exact iz a ha (by omega)
      have P3:t.changes.all (ki T.length)=true:=List.all_eq_true.2 λc hc=>decide_eq_true ⟨(vm.1 (Cz c hc)).1,by rw[nt];exact hb c hc⟩
      rw[if_pos (show t.aI=aI/\∀c∈t.changes,c.table<(n:Int) from ⟨by omega,hb⟩)]at gw
      have xr:aI+1=jB g.bR+((i+1:Nat):Int):=by omega
      rw[xr]at gw
      have hS:SL W (.pt kp (rC xp lp rp nw im) 171::.ob (iH H4 rp T)::.ob (il lp xp g)::_) w:=jH.iff.1 (SL.b4 hS (t:=.ob (jH kp xp lp rp H4 ⟨g,d',T,nw,im⟩)::.pt xb [.int .i64 t.aI,.int .i64 t.kind,xx.cv,xx.sv,.int .i64 t.mark] 39::.ob (eW H4 xp d')::.mem H4::F) Xi)
      refine bW (λve=>?_) (λve=>?_)
      ·rw[if_pos (show im<aI by omega)]at gw
       refine Gn λw hS=>?_
       refine Cc (yV H4 rp T xx.cv t.changes hx.cv rW (by omega)) ?_;clear hS
       rintro _ post kI w hS
       unfold xZ at kI
       rw[if_pos P3]at kI
       obtain⟨rfl,H5,tm,rfl⟩:=kI
       try simp only[app]at hS
       have hS:=eW.lh tm hS (xp:=xp) (s:=d') Xr
       have hS:=jH.oD (d:=d') hS Xp
       refine Gp ?_
       rw[xr]
       refine⟨⟨i+1,jz T t.changes,H5,rfl,by omega,gw,by rw[tW];exact nt,λC hC=>?_,bw.le_trans Ar tm,aR hS⟩,by dsimp only;omega⟩
       have:=Aa (1000+16*i) (l:=t.changes) rW (λc hc=>List.all_eq_true.1 P3 c hc) C hC
       omega
      ·rw[if_neg (show ¬im<aI by omega)]at gw
       have hS:=jH.oD (d:=d') hS Xp
       refine Gp ?_
       rw[xr]
       exact⟨⟨i+1,T,H4,rfl,by omega,gw,nt,λC hC=>by have:=rW C hC;omega,Ar,aR hS⟩,by dsimp only;omega⟩
   ·obtain rfl:i=(iK g.bR).length:=by omega
    rw[List.drop_length]at gw
    have gw:n3 n im (iK g.bR) (jB g.bR) T0=some T:=gw
    have hS:=jH.oD (d:=d') hS Xp
    refine za (λhb=>?_) (λhb=>?_)
    ·exact hF (by rw[gw];simp only;rw[if_neg (by omega)]) hh (aR hS)
    ·rw[gw]
     simp only
     rw[if_pos (show im<=b9 g.bR/\jB g.bR<=im+1 by omega)]
     exact⟨_,⟨kp,lp,rp,H3,hh,rfl,rfl⟩,aR hS⟩
abbrev IH(kp mp gp:Nat)(n:Int):List Value:=[dF kp,dF mp,.int .i64 n,dF gp]
theorem qs(kp mp:Nat)(H:bw)(n:Int):SP 115 [dF kp,dF mp,.int .i64 n] [] (λv post=>(¬(1<=n/\n<=64)/\v= .pointer none/\post=[]) \/
  ((1<=n/\n<=64)/\∃pp gp:Nat,v=dF pp/\post=[.pt pp (IH kp mp gp n) 286,.ob (sY gp H lT)])):=by
 intro W F w hS;apply b3e;delta JP aF ai eI;(try simp only[app]at hS)
 refine Gp ?_
 refine za (λh=>⟨_,.inl ⟨by omega,rfl,rfl⟩,hS⟩) (λh1=>?_)
 refine Gp ?_
 refine za (λh=>⟨_,.inl ⟨by omega,rfl,rfl⟩,hS⟩) (λh2=>?_)
 refine Cc (qX H) ?_;clear hS
 rintro _ post ⟨gp,rfl,rfl⟩ w hS
 (try simp only[app]at hS);refine Gp ?_
 refine⟨_,rfl,zJ hS λpp w hS=>?_⟩
 exact⟨_,.inr ⟨by omega,pp,gp,rfl,rfl⟩,aR hS⟩
theorem WX(a b:Row)(w:World):(Op.equal 52 (agg (iq a)) (agg (iq b))).run Tryz.prog w= .ok (decide (a=b)) w:=by
 refine TF Tryz.underlying52 (by kernel_rfl) ?_
 obtain⟨k,v⟩:=a
 obtain⟨k',v'⟩:=b
 simp[iq,Op.eqFields,part,run_equalIn_int (h:=Tryz.underlying2),run_equalIn_int (h:=Tryz.underlying3),run_equalIn_bool' (h:=Tryz.underlying4),run_equalIn_string (h:=Tryz.underlying9),Result.andThen,toList_inj]
 by_cases h0:k=k'<;>by_cases h1:v=v'<;>simp[*]
section
variable {W w:World} {l:List Chunk}
end
def Tr(y:Except Int dR):dR:=match y with
 | .error _=>⟨0,0,[],[],0⟩
 | .ok t=>t
def Ix(y:Except Int dR):Int:=match y with
 | .error e=>e
 | .ok _=>0
theorem b93(H:bw):mn H uI ⟨0,0,[],[],0⟩:=⟨rfl,rfl,rfl,gi.nil _ _,gi.nil _ _⟩
theorem uM.all{sp tp dp lp:Nat}{k:fR}{H:bw}{aI:Int}{r:Value}{post:List Chunk}(h:uM sp tp dp lp k H aI r post):∃x H',H.le H'/\r= .tuple #[agg (iU x),.int .i64 (Ix (k.jK aI))]/\mn H' x (Tr (k.jK aI))/\post=[.ob (ir sp tp dp lp k),.mem H']:=by
 unfold uM at h
 cases hr:k.jK aI with
 | error e=>
  rw[hr]at h
  obtain⟨_,H',hh,rfl,rfl⟩:=h
  exact⟨uI,H',hh,rfl,b93 H',rfl⟩
 | ok t=>
  rw[hr]at h
  obtain⟨x,H',hh,rfl,hx,rfl⟩:=h
  exact⟨x,H',hh,rfl,hx,rfl⟩
def BF(s:ByteArray)(n:Nat):ByteArray:=s.extract 0 (min s.size n)
theorem Wh(s:ByteArray)(n:Nat):SP 143 [.string s,.int .i64 n] [] (dW (.string (BF s n)) []):=by
 intro W F w hS;apply b30;unfold J';(try simp only[app]at hS)
 refine Gp ?_
 rw[show min (s.size:Int) (n:Int)=((min s.size n:Nat):Int) by omega]
 refine⟨s,0,min s.size n,rfl,⟨.i64,rfl⟩,rfl,Nat.zero_le _,Nat.min_le_left _ _,?_⟩
 (exact eF hS)
def k7(c:ig)(k:Nat):ig:=⟨md c.table k,if md c.key 31=30 then ((1+md c.key 1099511627776:Nat):Int) else ((1+md c.key 12:Nat):Int),c.gone,if c.gone then ⟨#[]⟩ else BF c.val 32⟩
theorem YZ(c:ig)(k:Nat)(h1:0<k)(h2:k<=8):SP 60 [agg (jA c),.int .i64 k] [] (dW (agg (jA (k7 c k))) []):=by
 intro W F w hS;apply b8w;delta MZ aF a7 aW c_ ai cI;(try simp only[app]at hS)
 obtain⟨table,key,gone,val⟩:=c
 refine⟨_,rfl,zJ hS ?_⟩
 clear hS;intro p w hS
 refine zJ hS ?_
 clear hS;intro q w hS
 simp only[jA]at hS
 have cwh:=nh key 12 (by decide)
 have D3:=nh key 1099511627776 (by decide)
 have Hd:(1:Int)+(md key 12:Int)=((1+md key 12:Nat):Int):=by omega
 have hmf:(1:Int)+(md key 1099511627776:Int)=((1+md key 1099511627776:Nat):Int):=by omega
 refine⟨λus w=>∃x:Nat,us=[.pointer (some ⟨x,0,none⟩)]/\SL W (.pt x [.int .i64 (md table k:Nat),.int .i64 ((1+md key 12:Nat):Int),.bool gone,.string ⟨#[]⟩] 82::.pt q [.int .i64 0,.int .i64 0,.bool false,.string ⟨#[]⟩] 82::.pt p [.int .i64 table,.int .i64 key,.bool gone,.string val] 82::F) w,?_,?_⟩
 ·refine yR hS ?_
  clear hS;intro w hS
  refine Gp ?_
  refine⟨?_,?_⟩
  ·refine Cg (Zm table k h1 (by omega)) λw hS=>?_
   refine⟨?_,?_⟩
   ·refine Cg (yh key 12 (by decide) (by decide)) λw hS=>?_;refine Gm λb w hS=>?_
    rw[Hd]at hS
    exact⟨_,rfl,aR hS⟩
   ·refine Gm λb w hS=>?_
    refine Cg (yh key 12 (by decide) (by decide)) λw hS=>?_
    rw[Hd]at hS
    exact⟨_,rfl,aR hS⟩
  ·refine Gm λb w hS=>?_
   refine Cg (Zm table k h1 (by omega)) λw hS=>?_
   refine Cg (yh key 12 (by decide) (by decide)) λw hS=>?_
   rw[Hd]at hS
   exact⟨_,rfl,aR hS⟩
 ·clear hS
  rintro v5 w ⟨x,cW,hS⟩
  cases cW
  refine⟨λus w=>us=[]/\SL W (.pt x [.int .i64 (md table k:Nat),.int .i64 (k7 ⟨table,key,gone,val⟩ k).key,.bool gone,.string ⟨#[]⟩] 82::.pt q [.int .i64 0,.int .i64 0,.bool false,.string ⟨#[]⟩] 82::.pt p [.int .i64 table,.int .i64 key,.bool gone,.string val] 82::F) w,?_,?_⟩
  ·refine Gp ?_
   refine Cg (yh key 31 (by decide) (by decide)) λw hS=>?_
   refine za (λh=>?_) (λh=>?_)
   ·have hk:(k7 ⟨table,key,gone,val⟩ k).key=((1+md key 1099511627776:Nat):Int):=by unfold k7;simp only;rw[if_pos (by omega)]
    rw[hk]
    refine Gp ?_
    refine Cg (yh key 1099511627776 (by decide) (by decide)) λw hS=>?_
    rw[hmf]at hS
    exact aR hS
   ·have hk:(k7 ⟨table,key,gone,val⟩ k).key=((1+md key 12:Nat):Int):=by unfold k7;simp only;rw[if_neg (by omega)]
    rw[hk]
    exact⟨rfl,aR hS⟩
  ·clear hS
   rintro w ⟨-,hS⟩
   refine Gp ?_
   cases gone with
   | true=>
    refine zq ?_
    refine Gn λw hS=>?_
    have e:jA (k7 ⟨table,key,true,val⟩ k)=[.int .i64 (md table k:Nat),.int .i64 (k7 ⟨table,key,true,val⟩ k).key,.bool true,.string ⟨#[]⟩]:=rfl
    rw[e]
    (exact eF hS)
   | false=>
    refine zw ?_
    refine Gp ?_
    refine Cg (Wh val 32) λw hS=>?_
    have e:jA (k7 ⟨table,key,false,val⟩ k)=[.int .i64 (md table k:Nat),.int .i64 (k7 ⟨table,key,false,val⟩ k).key,.bool false,.string (BF val 32)]:=rfl
    rw[e]
    (exact eF hS)
theorem Xe(c:ig)(z:List Value)(hz:z.length=4):lx (b_ z 1) [(0,4,agg (jA c))]=some (jA c):=by
 simp[lx,b_,Value.cells,jA,hz]
theorem Yb(H:bw)(v:Value)(l:List ig)(k lG:Nat)(hv:gi H 4 v l.length (l.map jA).flatten)(h1:0<k)(h2:k<=8)(hm:lG<=1000)(hn:l.length<=140737488351232):
  SP 17 [v,.int .i64 k,.int .i64 lG] [.mem H] (λu post=>post=[.ob (a_ u 82 4 ((l.take lG).map (k7 · k)).length (((l.take lG).map (k7 · k)).map jA).flatten),.mem H]):=by
 intro W F w hS;apply b4l;delta Kt aF ai cI bI;(try simp only[app]at hS)
 refine⟨λus w=>∃(m:Nat) (u:Value),us=[u,.int .i64 m]/\m<=l.length/\m<=lG/\SL W (.ob (a_ u 82 4 m ((((l.take m).map (k7 · k)).map jA).flatten))::.mem H::F) w,
  λus _=>match us with|[_,.int _ m]=>(l.length-m).toNat|_=>0,⟨0,_,rfl,by omega,by omega,a_.nil hS⟩,?_⟩
 clear hS
 rintro v7 v8 w ⟨m,u,cW,uw,Rw,hS⟩
 cases cW
 have nI:∀w,(m=l.length\/m=lG)->SL W (.ob (a_ v7 82 4 m ((((l.take m).map (k7 · k)).map jA).flatten))::.mem H::F) w ->
   ∃post,(post=[.ob (a_ v7 82 4 ((l.take lG).map (k7 · k)).length (((l.take lG).map (k7 · k)).map jA).flatten),.mem H])/\SL W (app post F) w:=λw he hS=>by
  have ht:l.take m=l.take lG:=by
   rcases he with rfl|rfl
   ·rw[List.take_length,List.take_of_length_le (by omega)]
   ·rfl
  have hl:m=((l.take lG).map (k7 · k)).length:=by rw[<- ht,List.length_map,List.length_take];omega
  rw[ht,hl]at hS
  exact⟨_,rfl,hS⟩
 refine zo hv ?_
 refine Gp ?_
 refine za (λh=>?_) (λh=>nI w (.inl (by omega)) hS)
 refine Gp ?_
 refine za (λh3=>?_) (λh3=>nI w (.inr (by omega)) hS)
 have b3:m<l.length:=by omega
 refine zS hS Xh m0 hv (x:=l[m]) (by simp[b3]) b3 ?_
 refine Cc (YZ l[m] k h1 h2) ?_;clear hS
 rintro v26 post ⟨rfl,rfl⟩ w hS
 try simp only[app]at hS
 refine zz hS (Xe (k7 l[m] k) [.int .i64 0,.int .i64 0,.bool false,.string ⟨#[]⟩] rfl) ?_
 clear hS;intro b w hS
 refine zx (n:=m) (m:=1) hS Xr (lP (cs:=jA (k7 l[m] k)) hS .hd rfl) rfl rfl (F5 _) (by omega) (by omega) ?_
 clear hS;intro u' w hS
 refine Gp ?_
 have e:(l.take (m+1)).map (k7 · k)=(l.take m).map (k7 · k)++[k7 l[m] k]:=by rw[List.take_succ_eq_append_getElem b3,List.map_append];rfl
 refine⟨⟨m+1,u',rfl,(by omega),(by omega),(by rw[e,Gq];exact aR hS)⟩,(by dsimp only;omega)⟩
theorem YB(H:bw)(v:Value)(l:List ig)(k lG:Nat)(hv:gi H 4 v l.length (l.map jA).flatten)(h1:0<k)(h2:k<=8)(hm:lG<=1000)(hn:l.length<=140737488351232):
  SP 17 [v,.int .i64 k,.int .i64 lG] [.mem H] (λu post=>∃H',H.le H'/\gi H' 4 u ((l.take lG).map (k7 · k)).length (((l.take lG).map (k7 · k)).map jA).flatten/\post=[.mem H']):=by
 intro W F w hS
 refine zU.mono (Yb H v l k lG hv h1 h2 hm hn W F w hS) ?_
 rintro u w ⟨post,rfl,hS⟩
 have hS:SL W (_::.mem H::F) w:=hS
 obtain⟨H2,iB,hR,hS⟩:=zE (H:=H) (v:=u) hS Xp
 exact⟨_,⟨H2,iB,hR,rfl⟩,hS⟩
end Go.Proofs.YtfenmffiidchcaaGreat
