/- Part. -/
import Derived.Test.YtgfbifafbkkghaaGreatDoorJ13
import Derived.Shelf.Strconv.Itoa4
namespace Go.Proofs.YtgfbifafbkkghaaGreatDoor
set_option linter.all false
set_option maxRecDepth 100000
open Go.RowKit Go.Sort Go.Shelf Go.Proofs.Tryz
def xxe:=@ByteArray.size_append
def wwt:=@Int.tdiv_eq_ediv_of_nonneg
def uui:=@Nat.add_le_add_right
def S6:Go.Shelf.Ren:=⟨λ| 173=>85|246=>134|283=>187|284=>188|285=>189|286=>190|129=>257|317=>256|318=>258|319=>259|320=>260|337=>306|338=>307|n=>n,λ| 2=>2|3=>3|9=>9|4=>4|171=>284|0=>0|53=>73|37=>34|5=>5|173=>287|212=>365|51=>366|20=>20|213=>367|46=>75|232=>469|233=>470|n=>n,λ| 17=>0|18=>1|19=>2|n=>n⟩
def S5:Go.Proofs.Lays.n173 prog S6 where
 mixed:=by kernel_rfl
 f129:=func257.trans (yyl some (by kernel_rfl))
 f173:=func85.trans (yyl some (by kernel_rfl))
 f246:=func134.trans (yyl some (by kernel_rfl))
 f283:=func187.trans (yyl some (by kernel_rfl))
 f284:=func188.trans (yyl some (by kernel_rfl))
 f285:=func189.trans (yyl some (by kernel_rfl))
 f286:=func190.trans (yyl some (by kernel_rfl))
 f317:=func256.trans (yyl some (by kernel_rfl))
 f318:=func258.trans (yyl some (by kernel_rfl))
 f319:=func259.trans (yyl some (by kernel_rfl))
 f320:=func260.trans (yyl some (by kernel_rfl))
 f337:=func306.trans (yyl some (by kernel_rfl))
 f338:=func307.trans (yyl some (by kernel_rfl))
 t0:=underlying0
 a0:=isAgg0
 z0:=sizeOf0
 v0:=zeroValue0
 t2:=xxm
 a2:=isAgg2
 z2:=sizeOf2
 v2:=zeroValue2
 t3:=zz9
 a3:=isAgg3
 z3:=sizeOf3
 v3:=zeroValue3
 t4:=wwo
 a4:=isAgg4
 z4:=sizeOf4
 v4:=zeroValue4
 t5:=yyy
 a5:=isAgg5
 z5:=sizeOf5
 v5:=zeroValue5
 t9:=yyx
 a9:=isAgg9
 z9:=sizeOf9
 v9:=zeroValue9
 t20:=underlying20
 a20:=isAgg20
 z20:=sizeOf20
 v20:=zeroValue20
 t37:=yyw
 a37:=isAgg34
 z37:=sizeOf34
 v37:=zeroValue34
 t46:=underlying75
 a46:=isAgg75
 z46:=sizeOf75
 v46:=zeroValue75
 t51:=underlying366
 a51:=isAgg366
 z51:=sizeOf366
 v51:=zeroValue366
 t53:=underlying73
 a53:=isAgg73
 z53:=sizeOf73
 v53:=zeroValue73
 t171:=underlying284
 a171:=isAgg284
 z171:=sizeOf284
 v171:=zeroValue284
 t173:=underlying287
 a173:=isAgg287
 z173:=sizeOf287
 v173:=zeroValue287
 t212:=underlying365
 a212:=isAgg365
 z212:=sizeOf365
 v212:=zeroValue365
 t213:=underlying367
 a213:=isAgg367
 z213:=sizeOf367
 t232:=underlying469
 a232:=isAgg469
 z232:=sizeOf469
 v232:=zeroValue469
 t233:=underlying470
 a233:=isAgg470
 z233:=sizeOf470
 v233:=zeroValue470
 g17:=by kernel_rfl
 g18:=by kernel_rfl
 g19:=by kernel_rfl
set_option maxRecDepth 100000
open Go.RowKit
def lB(n:Int):Η:=⟨(Lib.decDigits n.toNat).toArray⟩
def jN(n:Int):Prop:=0<=n/\n<100
def YM(n:Int)(h:jN n):SP 85 [Γ n,Γ 10] [] (bj (.string (lB n)) []):=by
 intro W F w hS;have hn:n.toNat<100:=by have:=h.1;have:=h.2;omega
 have e:((n.toNat:Nat):Int)=n:=uul h.1;have:=Any.strconv_FormatInt_10_small S5 n.toNat hn w;rw[e]at this
 refine uuo this ?_;rintro e w' ⟨rfl,rfl⟩;exact⟨_,rfl,[],⟨rfl,rfl⟩,hS⟩
def pR:Ω->Η
 | []=>⟨#[]⟩
 | n::r=>r.foldl (λs x=>s++⟨#[32]⟩++lB x) (⟨#[]⟩++lB n)
def VR:∀(l:Ω) (x:Int),pR (l++[x])=if l.length=0 then ⟨#[]⟩++lB x else pR l++⟨#[32]⟩++lB x
 | [],x=>rfl
 | n::l,x=>by
  rw[zzb (by simp)];simp[pR,wwz]
def R7:∀k:Nat,k<100->(Lib.decDigits k).length<=2:=by decide +kernel
def B2{n:Int}(h:jN n):(lB n).size<=2:=by
 have:=R7 n.toNat (by have:=h.1;have:=h.2;omega);show (Lib.decDigits n.toNat).toArray.size<=2;simpa using this
def DA:∀(l:Ω),(∀n∈l,jN n)->(pR l).size<=3*l.length
 | [],_=>zzz _
 | n::r,h=>by
  have g:∀(r:Ω) (s:Η),(∀n∈r,jN n)->(r.foldl (λs x=>s++(⟨#[32]⟩:Η)++lB x) s).size<=s.size+3*r.length:=by
   intro r;induction r with
   | nil=>intro s _;simp
   | cons x r ih=>
    intro s h;have h1:=ih (s++⟨#[32]⟩++lB x) λy hy=>h y (.tail _ hy);have h2:=B2 (h x (.head _));rw[xxe,xxe,show (⟨#[32]⟩:Η).size=1 from rfl]at h1
    rw[xxw,zzg];omega
  have h1:=g r (⟨#[]⟩++lB n) λy hy=>h y (.tail _ hy);have h2:=B2 (h n (.head _));rw[xxe,show (⟨#[]⟩:Η).size=0 from rfl]at h1
  show (List.foldl (λs x=>s++(⟨#[32]⟩:Η)++lB x) (⟨#[]⟩++lB n) r).size<=_;rw[zzg];omega
def pQ(l:Ω):Η:=pR l++⟨#[10]⟩
def ZP(b:Nat)(l:Ω)(t:Ι)(hl:l.length<=1000)(h:∀n∈l,jN n):SP 46 [.slice (some ⟨b,0,none⟩) l.length l.length] [.pt b (l.map (Value.int .i64)) t] (bj (.string (pQ l)) []):=by
 refine Enzz λW F w hS=>?_;apply aZx;delta aF ai;repeat first|refine Gp ?_|refine Gw λw hS=>?_|refine Gb λb w hS=>?_
 refine⟨λus w=>∃i:Nat,us=[.string (pR (l.take i)),Γ i]/\i<=l.length/\SL W (.pt b (l.map (Value.int .i64)) t::F) w,
  λus _=>match us with|[_,.int _ i]=>(l.length-i).toNat|_=>0,⟨0,rfl,by omega,hS⟩,?_⟩
 clear hS;rintro _ _ w ⟨i,bM,hi,hS⟩;cases bM;repeat first|refine Gp ?_|refine Gw λw hS=>?_|refine Gb λb w hS=>?_
 refine za (λcA=>?_) (λcA=>?_)
 ·have bg:i<l.length:=by omega
  have hx:=h _ (zzi bg);have e:pR (l.take (i+1))=if i=0 then ⟨#[]⟩++lB l[i] else pR (l.take i)++⟨#[32]⟩++lB l[i]:=by
   rw[zzh bg,VR,zzn,vvg (by omega)]
  refine zM bg (zT hS .hd (v:=Γ l[i]) (by rw[zz2,wwl];simp[bg]) ?_);have hz:=DA (l.take i) λn hn=>h n (xxi hn);rw[zzn]at hz
  have hd:=B2 hx;repeat first|refine Gp ?_|refine Gw λw hS=>?_|refine Gb λb w hS=>?_
  refine za (λh0=>?_) (λh0=>?_)
  ·rw[zzb (by omega)]at e
   refine tU (by rw[show (⟨#[32]⟩:Η).size=1 from rfl];omega) ?_;refine Cc (YM l[i] hx) ?_;clear hS;(rintro v post ⟨rfl,rfl⟩ w hS;(try simp only[app]at hS);(repeat (first|refine Gp ?_|refine Gw λw hS=>?_|refine Gb λb w hS=>?_)))
   refine tU (by rw[xxe,show (⟨#[32]⟩:Η).size=1 from rfl];omega) ?_;repeat first|refine Gp ?_|refine Gw λw hS=>?_|refine Gb λb w hS=>?_
   exact⟨⟨i+1,by rw[e],by omega,aI hS⟩,by dsimp only;omega⟩
  have pC:i=0:=by omega
  rw[zzd pC]at e
  refine Cc (YM l[i] hx) ?_;clear hS;(rintro v post ⟨rfl,rfl⟩ w hS;(try simp only[app]at hS);(repeat (first|refine Gp ?_|refine Gw λw hS=>?_|refine Gb λb w hS=>?_)))
  refine tU (by omega) ?_;repeat first|refine Gp ?_|refine Gw λw hS=>?_|refine Gb λb w hS=>?_
  refine⟨⟨i+1,?_,by omega,aI hS⟩,by dsimp only;omega⟩;rw[e];subst pC;rfl
 have:i=l.length:=by omega
 subst this;have hz:=DA l h;rw[zz6];refine tU (by rw[show (⟨#[10]⟩:Η).size=1 from rfl];omega) ?_;exact bt hS
def Mh{l:Ω}(h:∀n∈l,jN n):(pQ l).size<=3*l.length+1:=by
 have:=DA l h;unfold pQ;rw[xxe,show (⟨#[10]⟩:Η).size=1 from rfl];omega
def D7(cf:dm)(kc:df)(p:bE × Η)(x:bB):bE × Η:=((p.1.fL cf kc x).1,p.2++pQ [(p.1.fL cf kc x).2.err,(p.1.fL cf kc x).2.aR,(p.1.fL cf kc x).2.uP])
def V2(kc:df)(c:bE):Η:=pQ [(c.look kc).aR,(c.look kc).head,(c.look kc).low,(c.look kc).clock]
def fR(cf:dm)(kc:df)(n:Nat)(l:List bB):bE × Η:=l.foldl (D7 cf kc) (po cf n,⟨#[]⟩)
def AT(cf:dm)(kc:df)(n:Nat)(l:List bB):Η:=(fR cf kc n l).2++V2 kc (fR cf kc n l).1
structure Bi(cf:dm)(kc:df)(n:Nat)(l:List bB):Prop where
 step:∀(i:Nat) (h:i<l.length) (p:iq) (H:aX) (x:dJ),dG H x l[i]->SP 45 [bH p.np,agg (bT x)] [.ob (dj p cf kc H (fR cf kc n (l.take i)).1),.mem H] (EZ p.np cf kc H ((fR cf kc n (l.take i)).1.fL cf kc l[i]))
 told:∀(i:Nat) (h:i<l.length),∀m∈[((fR cf kc n (l.take i)).1.fL cf kc l[i]).2.err,((fR cf kc n (l.take i)).1.fL cf kc l[i]).2.aR,((fR cf kc n (l.take i)).1.fL cf kc l[i]).2.uP],jN m
 look:∀(p:iq) (H:aX),SP 47 [bH p.np] [.ob (dj p cf kc H (fR cf kc n l).1),.mem H] (EJ p cf kc H (fR cf kc n l).1 (agg (B8 ((fR cf kc n l).1.look kc))))
 lk:∀m∈[((fR cf kc n l).1.look kc).aR,((fR cf kc n l).1.look kc).head,((fR cf kc n l).1.look kc).low,((fR cf kc n l).1.look kc).clock],jN m
def aie{cf:dm}{kc:df}{n:Nat}{l:List bB}{i:Nat}(h:i<l.length):fR cf kc n (l.take (i+1))=D7 cf kc (fR cf kc n (l.take i)) l[i]:=by
 unfold fR;rw[zzh h,wwz];rfl
def VO(b:Nat)(x y z:Int)(t:Ι)(h:∀n∈[x,y,z],jN n):SP 46 [.slice (some ⟨b,0,none⟩) 3 3] [.pt b [Γ x,Γ y,Γ z] t] (bj (.string (pQ [x,y,z])) []):=ZP b [x,y,z] t (by simp) h
def VP(b:Nat)(x y z u:Int)(t:Ι)(h:∀n∈[x,y,z,u],jN n):SP 46 [.slice (some ⟨b,0,none⟩) 4 4] [.pt b [Γ x,Γ y,Γ z,Γ u] t] (bj (.string (pQ [x,y,z,u])) []):=ZP b [x,y,z,u] t (by simp) h
def EX(X:Μ)(H:aX)(s:Η)(u:Ε)(post:Β):Prop:=u= .string s/\∃H',H.le H'/\post=[X,.mem H']
def qf{cf:dm}{kc:df}{n:Nat}(hc:CC cf kc n)(X:Μ)(H:aX)(v:Ε)(bs:Φ)(hv:bN X v bs){e:Int}(hd:h_ bs= .error e):SP 20 [agg (pr cf),v] [X,.mem H] (EX X H ⟨#[110,111,110,101,10]⟩):=by
 refine Enzz λW F w hS=>?_;apply OX;delta aF aW ai aZ;refine zu hS λcb w hS=>?_;refine Cc (zU X H v bs hv) ?_;clear hS;rintro r post hq w hS;unfold kD at hq;rw[hd]at hq
 obtain⟨he,H1,dF,rfl,rfl⟩:=hq;try simp only[app]at hS
 repeat first|refine Gp ?_|refine Gw λw hS=>?_|refine Gb λb w hS=>?_
 refine Cc (Z1 H1 hc) ?_;clear hS;rintro _ post ⟨p,H2,cT,rfl,rfl⟩ w hS;try simp only[app]at hS
 repeat first|refine Gp ?_|refine Gw λw hS=>?_|refine Gb λb w hS=>?_
 refine za (λ_=>?_) (λh=>absurd he h);exact⟨_,⟨rfl,H2,aX.le_trans dF cT,rfl⟩,aI hS⟩
def Yg{cf:dm}{kc:df}{n:Nat}(hc:CC cf kc n)(X:Μ)(H:aX)(v:Ε)(bs:Φ)(hv:bN X v bs){l:List bB}(hd:h_ bs= .ok l)(ok:Bi cf kc n l)(hl:l.length<=1000):SP 20 [agg (pr cf),v] [X,.mem H] (EX X H (AT cf kc n l)):=by
 refine Enzz λW F w hS=>?_;apply OX;delta aF aW ai aZ;refine zu hS λcb w hS=>?_;refine Cc (zU X H v bs hv) ?_;clear hS;rintro r post hq w hS;unfold kD at hq;rw[hd]at hq
 obtain⟨lv,H1,dF,rfl,hR,rfl⟩:=hq;try simp only[app]at hS
 repeat first|refine Gp ?_|refine Gw λw hS=>?_|refine Gb λb w hS=>?_
 refine Cc (Z1 H1 hc) ?_;clear hS;rintro _ post ⟨p,H2,cT,rfl,rfl⟩ w hS;try simp only[app]at hS
 obtain⟨xs,iT,eG,ik⟩:=hR;repeat first|refine Gp ?_|refine Gw λw hS=>?_|refine Gb λb w hS=>?_
 refine Χ ?_;repeat first|refine Gp ?_|refine Gw λw hS=>?_|refine Gb λb w hS=>?_
 refine Χ ?_;refine zh eG ?_;refine⟨λus w=>∃(i:Nat) (H3:aX) (q:iq),us=[.string (fR cf kc n (l.take i)).2,Γ i]/\i<=l.length/\H2.le H3/\q.np=p.np/\(fR cf kc n (l.take i)).2.size<=10*i/\SL W (.ob (dj q cf kc H3 (fR cf kc n (l.take i)).1)::X::.mem H3::F) w,
  λus _=>match us with|[_,.int _ i]=>(l.length-i).toNat|_=>0,⟨0,H2,p,rfl,by omega,aX.le_refl _,rfl,zzz _,SL.bA hS (t:=.ob (dj p cf kc H2 (po cf n))::X::.mem H2::F) Xi⟩,?_⟩
 clear hS;rintro _ _ w ⟨i,H3,q,bM,hi,da,hq,hz,hS⟩;cases bM;rw[<- hq];repeat first|refine Gp ?_|refine Gw λw hS=>?_|refine Gb λb w hS=>?_
 refine za (λcA=>?_) (λcA=>?_)
 ·have bg:i<l.length:=by omega
  have gm:i<xs.length:=by omega
  have hx:=(ik i bg gm).mono (aX.le_trans cT da);have hr:=aie (cf:=cf) (kc:=kc) (n:=n) bg;refine zy hS Xh iy (eG.mono (aX.le_trans cT da)) (x:=xs[i]) (by simp[gm]) bg ?_;repeat first|refine Gp ?_|refine Gw λw hS=>?_|refine Gb λb w hS=>?_
  refine zO (vs:=bT xs[i]) hS Xu (iy _) rfl (oo hx) λw hS=>?_;refine zH hS Xh (iy _) ?_;have vp:=ok.step i bg q H3 xs[i] hx;have Df:=ok.told i bg;refine Cc (vp) ?_;clear hS;rintro _ post ⟨rfl,q2,H4,jZ,jK,rfl⟩ w hS;try simp only[app]at hS
  generalize fR cf kc n (l.take i)=st at *
  unfold D7 at hr;generalize st.1.fL cf kc l[i]=y at *
  obtain⟨c4,⟨te,tl,td⟩⟩:=y;dsimp only at hS hr Df ⊢;have y':=Mh Df;repeat first|refine Gp ?_|refine Gw λw hS=>?_|refine Gb λb w hS=>?_
  refine Cc (VO b te tl td 2 Df) ?_;clear hS;(rintro v post ⟨rfl,rfl⟩ w hS;(try simp only[app]at hS);(repeat (first|refine Gp ?_|refine Gw λw hS=>?_|refine Gb λb w hS=>?_)))
  refine tU (by simp at y';omega) ?_;repeat first|refine Gp ?_|refine Gw λw hS=>?_|refine Gb λb w hS=>?_
  refine⟨⟨i+1,H4,q2,by rw[hr],by omega,aX.le_trans da jZ,jK,?_,?_⟩,by dsimp only;omega⟩
  ·rw[hr];dsimp only;rw[xxe];simp at y';omega
  rw[hr];exact aI hS
 have eM:i=l.length:=by omega
 subst eM;rw[zz6]at hS hz ⊢
 have Ld:=ok.lk;have y':=Mh Ld;have x':=ok.look q H3;refine Cc (x') ?_;clear hS;rintro _ post ⟨rfl,H4,jZ,rfl⟩ w hS;try simp only[app]at hS
 have rW:AT cf kc n l=(fR cf kc n l).2++pQ [((fR cf kc n l).1.look kc).aR,((fR cf kc n l).1.look kc).head,((fR cf kc n l).1.look kc).low,((fR cf kc n l).1.look kc).clock]:=rfl;rw[rW];generalize (fR cf kc n l).1.look kc=lk at *
 unfold B8;repeat first|refine Gp ?_|refine Gw λw hS=>?_|refine Gb λb w hS=>?_
 refine Cc (VP b lk.aR lk.head lk.low lk.clock 2 Ld) ?_;clear hS;(rintro v post ⟨rfl,rfl⟩ w hS;(try simp only[app]at hS);(repeat (first|refine Gp ?_|refine Gw λw hS=>?_|refine Gb λb w hS=>?_)))
 refine tU (by simp at y';omega) ?_;exact⟨_,⟨rfl,H4,aX.le_trans dF (aX.le_trans cT (aX.le_trans da jZ)),rfl⟩,aI hS⟩
def ZW(H:aX)(x:dJ)(s:bB)(hx:dG H x s)(ht:cI ⟨1,1,s.l,s.sg,0⟩=true):SP 53 [agg (bT x)] [.mem H] (λu post=>post=[e_ u (nH s),.mem H]):=by
 refine Enzz λW F w hS=>?_;apply aZ5;delta aF aW ba ai bn;have hb:=iW ht;have s8:s.l.length<=16:=hb.2.2.2.1;have j1:s.sg.length<=2:=hb.2.2.2.2.1;clear hb;refine zu hS λxb w hS=>?_;unfold bT at hS;rw[hx.kind,hx.n,hx.ft]at hS
 have hS:SL W (jg xb x s::_) _:=hS;repeat first|refine Gp ?_|refine Gw λw hS=>?_|refine Gb λb w hS=>?_
 refine zh hx.sv ?_;repeat first|refine Gp ?_|refine Gw λw hS=>?_|refine Gb λb w hS=>?_
 refine Cc (pN b s.sg.length 2) ?_;clear hS;rintro u post rfl w hS;try simp only[app]at hS
 repeat first|refine Gp ?_|refine Gw λw hS=>?_|refine Gb λb w hS=>?_
 refine zh hx.sv ?_;have hS:SL W (e_ u (kO s 0)::_) _:=hS;refine⟨λvs w=>∃(i:Nat) (u:Ε),vs=[u,Γ i]/\i<=s.sg.length/\SL W (e_ u (kO s i)::jg xb x s::.mem H::F) w,
  λvs _=>match vs with|[_,.int _ i]=>(s.sg.length-i).toNat|_=>0,⟨0,_,rfl,by omega,aI hS⟩,?_⟩
 clear hS;rintro u v3 w ⟨i,_,b9,hi,hS⟩;cases b9;have lE:=Ce s i;repeat first|refine Gp ?_|refine Gw λw hS=>?_|refine Gb λb w hS=>?_
 refine za (λh=>?_) (λh=>?_)
 ·have bg:i<s.sg.length:=by omega
  have hs:=J2 bg;refine yg hS Xh hx.sv bg (u:=.string s.sg[i]) (by simp[bg]) ?_;refine Cc (yH s.sg[i]) ?_;clear hS;(rintro v post ⟨rfl,rfl⟩ w hS;(try simp only[app]at hS);(repeat (first|refine Gp ?_|refine Gw λw hS=>?_|refine Gb λb w hS=>?_)))
  refine zz (L:=kO s i) (M:=[tF s.sg[i]]) hS Xr (oh hS Xh) (by simp;omega) λu4 w hS=>?_;repeat first|refine Gp ?_|refine Gw λw hS=>?_|refine Gb λb w hS=>?_
  refine⟨⟨i+1,_,rfl,by omega,?_⟩,by dsimp only;omega⟩;rw[hs];exact aI hS
 have eM:i=s.sg.length:=by omega
 subst eM;repeat first|refine Gp ?_|refine Gw λw hS=>?_|refine Gb λb w hS=>?_
 refine zh hx.cv ?_;repeat first|refine Gp ?_|refine Gw λw hS=>?_|refine Gb λb w hS=>?_
 refine Cc (pN b s.l.length 2) ?_;clear hS;rintro u2 post rfl w hS;try simp only[app]at hS
 refine zz (L:=kO s s.sg.length) hS Xr (iG hS Xh) (by simp;omega) λu3 w hS=>?_;repeat first|refine Gp ?_|refine Gw λw hS=>?_|refine Gb λb w hS=>?_
 refine zh hx.cv ?_;refine⟨λvs w=>∃(i:Nat) (u:Ε),vs=[u,Γ i]/\i<=s.l.length/\SL W (e_ u (kP s i)::jg xb x s::.mem H::F) w,
  λvs _=>match vs with|[_,.int _ i]=>(s.l.length-i).toNat|_=>0,⟨0,u3,rfl,by omega,?_⟩,?_⟩
 ·rw[show kP s 0=kO s s.sg.length++[iF s.l.length] by unfold kP;simp];exact aI hS
 clear hS;rintro u v3 w ⟨i,_,b9,hi,hS⟩;cases b9;have vh:=xq s i;repeat first|refine Gp ?_|refine Gw λw hS=>?_|refine Gb λb w hS=>?_
 refine za (λh=>?_) (λh=>?_)
 ·have bg:i<s.l.length:=by omega
  have hs:=J3 bg;refine zy hS Xh kM hx.cv (x:=s.l[i]) (by simp[bg]) bg ?_;generalize s.l[i]=o at *
  obtain⟨ot,ok,og,ov⟩:=o;repeat first|refine Gp ?_|refine Gw λw hS=>?_|refine Gb λb w hS=>?_
  unfold dh at hS;repeat first|refine Gp ?_|refine Gw λw hS=>?_|refine Gb λb w hS=>?_
  refine Cc (Yd og) ?_;clear hS;(rintro v post ⟨rfl,rfl⟩ w hS;(try simp only[app]at hS);(repeat (first|refine Gp ?_|refine Gw λw hS=>?_|refine Gb λb w hS=>?_)))
  refine Cc (LW b ot ok (jh og) 2) ?_;clear hS;rintro u2 post rfl w hS;try simp only[app]at hS
  refine zz (L:=kP s i) hS Xr (iG hS Xh) (by simp;omega) λu3 w hS=>?_;repeat first|refine Gp ?_|refine Gw λw hS=>?_|refine Gb λb w hS=>?_
  refine Cc (yH ov) ?_;clear hS;(rintro v post ⟨rfl,rfl⟩ w hS;(try simp only[app]at hS);(repeat (first|refine Gp ?_|refine Gw λw hS=>?_|refine Gb λb w hS=>?_)))
  refine zz (M:=[tF ov]) hS Xr (oh hS Xh) (by simp;omega) λu4 w hS=>?_;repeat first|refine Gp ?_|refine Gw λw hS=>?_|refine Gb λb w hS=>?_
  refine⟨⟨i+1,_,rfl,by omega,?_⟩,by dsimp only;omega⟩;rw[hs];simp only[zze]at hS;have hS:SL W (e_ _ (kP s i++fI ⟨ot,ok,og,ov⟩)::_) _:=hS;exact aI hS
 have eM:i=s.l.length:=by omega
 subst eM;rw[xp]at hS
 repeat first|refine Gp ?_|refine Gw λw hS=>?_|refine Gb λb w hS=>?_
 exact⟨_,rfl,aI hS⟩
def qU(H:aX)(x:dJ)(s:bB)(hx:dG H x s)(hm:du s=true):SP 23 [agg (bT x)] [.mem H] (λu post=>post=[e_ u (eK s),.mem H]):=by
 refine Enzz λW F w hS=>?_;apply aXh;delta aF aW ai bn;obtain⟨⟨_,_,_,_,_,_,_,_,Uf⟩,ht,_⟩:=iA.1 hm;have hb:=iW ht;have s8:s.l.length<=16:=hb.2.2.2.1;have j1:s.sg.length<=2:=hb.2.2.2.2.1;clear hb;have hcm:(nH s).length<=68:=by
  have:=xq s s.l.length;rw[xp]at this;omega
 refine zu hS λxb w hS=>?_;have iS:dG H ⟨s.kind,s.n,x.sv,x.cv,s.ft,x.kv⟩ s:=⟨rfl,rfl,rfl,hx.sv,hx.cv,hx.kv⟩;unfold bT at hS;rw[hx.kind,hx.n,hx.ft]at hS
 repeat first|refine Gp ?_|refine Gw λw hS=>?_|refine Gb λb w hS=>?_
 refine Cc (pN b s.kind 2) ?_;clear hS;rintro u post rfl w hS;try simp only[app]at hS
 repeat first|refine Gp ?_|refine Gw λw hS=>?_|refine Gb λb w hS=>?_
 refine za (λk1=>?_) (λk1=>?_)
 ·have e:eK s=[iF s.kind]++nH s:=by unfold eK gU;rw[zzd k1]
  repeat first|refine Gp ?_|refine Gw λw hS=>?_|refine Gb λb w hS=>?_
  refine Cc (ZW H ⟨s.kind,s.n,x.sv,x.cv,s.ft,x.kv⟩ s iS ht) ?_;clear hS;rintro u2 post rfl w hS;try simp only[app]at hS
  refine zz (L:=[iF s.kind]) hS Xr (iG hS Xh) (by simp;omega) λu3 w hS=>?_;rw[e];exact⟨_,rfl,aI hS⟩
 repeat first|refine Gp ?_|refine Gw λw hS=>?_|refine Gb λb w hS=>?_
 refine za (λk3=>?_) (λk3=>?_)
 ·have e:eK s=[iF s.kind]++[iF s.ft.kind,iF s.ft.bh]:=by unfold eK gU;rw[zzb k1,zzd k3]
  repeat first|refine Gp ?_|refine Gw λw hS=>?_|refine Gb λb w hS=>?_
  refine Cc (Vp b s.ft.kind s.ft.bh 2) ?_;clear hS;rintro u2 post rfl w hS;try simp only[app]at hS
  refine zz (L:=[iF s.kind]) hS Xr (iG hS Xh) (by simp) λu3 w hS=>?_;rw[e];exact⟨_,rfl,aI hS⟩
 repeat first|refine Gp ?_|refine Gw λw hS=>?_|refine Gb λb w hS=>?_
 refine za (λk6=>?_) (λk6=>?_)
 ·have e:eK s=[iF s.kind]:=by unfold eK gU;rw[zzb k1,zzb k3,zzd k6];rfl
  rw[e];exact⟨_,rfl,aI hS⟩
 repeat first|refine Gp ?_|refine Gw λw hS=>?_|refine Gb λb w hS=>?_
 refine za (λk8=>?_) (λk8=>?_)
 ·have e:eK s=jI s s.bh.length:=by unfold eK gU jI;rw[zzb k1,zzb k3,zzb k6,zzd k8,zz6,zze]
  repeat first|refine Gp ?_|refine Gw λw hS=>?_|refine Gb λb w hS=>?_
  refine zh hx.kv ?_;repeat first|refine Gp ?_|refine Gw λw hS=>?_|refine Gb λb w hS=>?_
  refine Cc (pN b s.bh.length 2) ?_;clear hS;rintro u2 post rfl w hS;try simp only[app]at hS
  refine zz (L:=[iF s.kind]) hS Xr (iG hS Xh) (by simp) λu3 w hS=>?_;repeat first|refine Gp ?_|refine Gw λw hS=>?_|refine Gb λb w hS=>?_
  refine zh hx.kv ?_;refine⟨λvs w=>∃(i:Nat) (u:Ε),vs=[u,Γ i]/\i<=s.bh.length/\SL W (e_ u (jI s i)::jg xb x s::.mem H::F) w,
   λvs _=>match vs with|[_,.int _ i]=>(s.bh.length-i).toNat|_=>0,⟨0,u3,rfl,by omega,?_⟩,?_⟩
  ·rw[show jI s 0=[iF s.kind]++[iF s.bh.length] by unfold jI;simp];exact aI hS
  clear hS;rintro u v3 w ⟨i,_,b9,hi,hS⟩;cases b9;have vh:=J4 s i;repeat first|refine Gp ?_|refine Gw λw hS=>?_|refine Gb λb w hS=>?_
  refine za (λh=>?_) (λh=>?_)
  ·have bg:i<s.bh.length:=by omega
   have hs:=J5 bg;refine yg hS Xh hx.kv bg (u:=Γ s.bh[i]) (by simp[bg]) ?_;repeat first|refine Gp ?_|refine Gw λw hS=>?_|refine Gb λb w hS=>?_
   refine Cc (pN b s.bh[i] 2) ?_;clear hS;rintro u4 post rfl w hS;try simp only[app]at hS
   refine zz (L:=jI s i) hS Xr (iG hS Xh) (by simp;omega) λu5 w hS=>?_;repeat first|refine Gp ?_|refine Gw λw hS=>?_|refine Gb λb w hS=>?_
   refine⟨⟨i+1,_,rfl,by omega,?_⟩,by dsimp only;omega⟩;rw[hs];exact aI hS
  have eM:i=s.bh.length:=by omega
  rw[e,<- eM];exact⟨_,rfl,aI hS⟩
 have e:eK s=[iF s.kind]++[iF s.n]:=by unfold eK gU;rw[zzb k1,zzb k3,zzb k6,zzb k8]
 repeat first|refine Gp ?_|refine Gw λw hS=>?_|refine Gb λb w hS=>?_
 refine Cc (pN b s.n 2) ?_;clear hS;rintro u2 post rfl w hS;try simp only[app]at hS
 refine zz (L:=[iF s.kind]) hS Xr (iG hS Xh) (by simp) λu3 w hS=>?_;rw[e];exact⟨_,rfl,aI hS⟩
def mE(H:aX)(l:List bB)(u:Ε)(post:Β):Prop:=match l4 l with
 | .error e=>u= .tuple #[Θ,Γ e]/\post=[.mem H]
 | .ok b=>∃v,u= .tuple #[v,Γ 0]/\post=[.ob (aY v 5 1 b.length (b.map bo)),.mem H]
def zV(H:aX)(v:Ε)(l:List bB)(hv:eJ H v l)(hn:∀s∈l,s.bh.length<=140737488351232)(hl:l.length<=140737488351232):SP 9 [v] [.mem H] (mE H l):=by
 refine Enzz λW F w hS=>?_;apply vc9;delta aF bD ai bn aZ;refine Cc (yW H v l hv hn hl) ?_;clear hS;(rintro v post ⟨rfl,rfl⟩ w hS;(try simp only[app]at hS);(repeat (first|refine Gp ?_|refine Gw λw hS=>?_|refine Gb λb w hS=>?_)))
 refine zr (λh=>?_) (λhm=>?_)
 ·exact⟨[.mem H],by unfold mE l4;rw[zzb (by rw[h];decide)];exact⟨rfl,rfl⟩,aI hS⟩
 obtain⟨lJ,rS⟩:=jM.1 hm;obtain⟨xs,iT,eG,ik⟩:=hv;repeat first|refine Gp ?_|refine Gw λw hS=>?_|refine Gb λb w hS=>?_
 refine zh eG ?_;repeat first|refine Gp ?_|refine Gw λw hS=>?_|refine Gb λb w hS=>?_
 refine Cc (pN b l.length 2) ?_;clear hS;rintro u post rfl w hS;try simp only[app]at hS
 repeat first|refine Gp ?_|refine Gw λw hS=>?_|refine Gb λb w hS=>?_
 refine zh eG ?_;have hS:SL W (e_ u (jY l 0)::_) _:=hS;refine⟨λvs w=>∃(i:Nat) (u:Ε),vs=[u,Γ i]/\i<=l.length/\SL W (e_ u (jY l i)::.mem H::F) w,
  λvs _=>match vs with|[_,.int _ i]=>(l.length-i).toNat|_=>0,⟨0,_,rfl,by omega,aI hS⟩,?_⟩
 clear hS;rintro u v3 w ⟨i,_,b9,hi,hS⟩;cases b9;have lE:=Ch lJ i;repeat first|refine Gp ?_|refine Gw λw hS=>?_|refine Gb λb w hS=>?_
 refine za (λh=>?_) (λh=>?_)
 ·have bg:i<l.length:=by omega
  have gm:i<xs.length:=by omega
  have hs:=Ci bg;have hx:=ik i bg gm;have vJ:=lJ _ (zzi bg);have j3:=Cj vJ;refine zy hS Xh iy eG (x:=xs[i]) (by simp[gm]) bg ?_;repeat first|refine Gp ?_|refine Gw λw hS=>?_|refine Gb λb w hS=>?_
  refine zO (vs:=bT xs[i]) hS Xu (iy _) rfl (oo hx) λw hS=>?_;refine zH hS Xh (iy _) ?_;refine Cc (qU H xs[i] l[i] hx vJ) ?_;clear hS;rintro u2 post rfl w hS;try simp only[app]at hS
  refine zz (L:=jY l i) hS Xr (iG hS Xh) (by omega) λu3 w hS=>?_;repeat first|refine Gp ?_|refine Gw λw hS=>?_|refine Gb λb w hS=>?_
  refine⟨⟨i+1,_,rfl,by omega,?_⟩,by dsimp only;omega⟩;rw[hs];exact aI hS
 have eM:i=l.length:=by omega
 subst eM;rw[Cf]at hS lE
 repeat first|refine Gp ?_|refine Gw λw hS=>?_|refine Gb λb w hS=>?_
 refine Cc (yN (e_ u (jw l)) u (jw l) jU.own (by omega)) ?_;clear hS;rintro r post hq w hS;try simp only[app]at hS
 unfold lr at hq;unfold mE l4;rw[zzd hm];cases he:gl (jw l) with
 | error e=>
  rw[he]at hq
  obtain⟨rfl,rfl⟩:=hq;repeat first|refine Gp ?_|refine Gw λw hS=>?_|refine Gb λb w hS=>?_
  exact bt hS
 | ok bs=>
  rw[he]at hq
  obtain⟨v,rfl,rfl⟩:=hq;repeat first|refine Gp ?_|refine Gw λw hS=>?_|refine Gb λb w hS=>?_
  exact⟨_,⟨v,rfl,rfl⟩,aI hS⟩
section
variable (p:iq) (cf:dm) (kc:df) (H:aX) (c:bE)
def qo(hn:0<=c.now/\c.now<=1125899906842624)(x:dJ)(s:bB)(hx:dG H x s)(hk:s.kind=4):SP 84 [bH p.np,agg (bT x)] [.ob (dj p cf kc H c),.mem H] (bj (Γ (c.tick s.n).2) [.ob (dj p cf kc H (c.tick s.n).1),.mem H]):=by
 refine Enzz λW F w hS=>?_;apply a_2;delta aF bd aW ba bG ai;refine zu hS λxb w hS=>?_;unfold bT at hS;rw[hx.kind,hx.n,hx.ft]at hS
 repeat first|refine Gp ?_|refine Gw λw hS=>?_|refine Gb λb w hS=>?_
 refine za (λh3=>absurd h3 (by omega)) (λh3=>?_);repeat first|refine Gp ?_|refine Gw λw hS=>?_|refine Gb λb w hS=>?_
 refine za (λh4=>?_) (λh4=>absurd hk h4);repeat first|refine Gp ?_|refine Gw λw hS=>?_|refine Gb λb w hS=>?_
 refine Cc (qr p cf kc H c s.n hn) ?_;clear hS;rintro _ post ⟨rfl,rfl⟩ w hS;try simp only[app]at hS
 exact bt hS
def Qp(ho:c.s.k.d.off=false)(hn:0<=c.now/\c.now<=1125899906842624)(x:dJ)(s:bB)(hx:dG H x s)(hk:s.kind=4):SP 45 [bH p.np,agg (bT x)] [.ob (dj p cf kc H c),.mem H] (bj (agg (xm (c.fL cf kc s).2)) [.ob (dj p cf kc H (c.fL cf kc s).1),.mem H]):=by
 refine Enzz λW F w hS=>?_;apply O0;delta aF bd aW bG ai;refine zu hS λxb w hS=>?_;refine Gb λzb w hS=>?_;unfold bT at hS;rw[hx.kind,hx.n,hx.ft]at hS
 refine⟨λus w=>us=[]/\SL W (.pt zb [Γ 0,Γ 0,Γ 0] 85::.pt xb [Γ s.kind,Γ s.n,x.sv,x.cv,Γ s.ft.kind,Γ s.ft.bh,x.kv] 29::.ob (dj p cf kc H c)::.mem H::F) w,?_,?_⟩
 ·obtain⟨dv,hS⟩:=dj.open hS Xr;have hS:=fc.take hS Xr;repeat first|refine Gp ?_|refine Gw λw hS=>?_|refine Gb λb w hS=>?_
  refine Cc (yc p.w.dp c.s.k.d) ?_;clear hS;(rintro v post ⟨rfl,rfl⟩ w hS;(try simp only[app]at hS);(repeat (first|refine Gp ?_|refine Gw λw hS=>?_|refine Gb λb w hS=>?_)))
  have hS:=fc.Cu c.s c.s.k.d hS Xp;have hS:SL W (.ob (fc p.w kc H c.s)::_) _:=hS;have hS:=dj.put c hS Xp;refine Zl (λh=>absurd h (by rw[ho];decide)) (λ_=>?_);exact⟨rfl,aI hS⟩
 clear hS;rintro w ⟨-,hS⟩;have vp:c.fL cf kc s=((c.tick s.n).1,⟨(c.tick s.n).2,0,0⟩):=by
  unfold bE.fL bE.other;rw[zzb (λhh=>by rw[ho]at hh;cases hh.1),zzb (by omega),zzb (by omega),zzb (by omega),zzd hk]
 rw[vp];repeat first|refine Gp ?_|refine Gw λw hS=>?_|refine Gb λb w hS=>?_
 refine za (λh1=>absurd h1 (by omega)) (λh1=>?_);repeat first|refine Gp ?_|refine Gw λw hS=>?_|refine Gb λb w hS=>?_
 refine za (λh2=>absurd h2 (by omega)) (λh2=>?_);have iS:dG H ⟨s.kind,s.n,x.sv,x.cv,s.ft,x.kv⟩ s:=⟨rfl,rfl,rfl,hx.sv,hx.cv,hx.kv⟩;repeat first|refine Gp ?_|refine Gw λw hS=>?_|refine Gb λb w hS=>?_
 refine Cc (qo p cf kc H c hn ⟨s.kind,s.n,x.sv,x.cv,s.ft,x.kv⟩ s iS hk) ?_;clear hS;rintro _ post ⟨rfl,rfl⟩ w hS;try simp only[app]at hS
 repeat first|refine Gp ?_|refine Gw λw hS=>?_|refine Gb λb w hS=>?_
 exact bt hS
def Qo(ho:c.s.k.d.off=false){N:Nat}(Lw:kh c.src N)(hN:N<=1000000000)(dH:c.s.k.d.ops<=90000)(x:dJ)(s:bB)(hx:dG H x s)(hl:s.l.length<=140737488351232)(hk:s.kind=1):SP 45 [bH p.np,agg (bT x)] [.ob (dj p cf kc H c),.mem H] (bj (agg (xm (c.fL cf kc s).2)) [.ob (dj p cf kc H (c.fL cf kc s).1),.mem H]):=by
 refine Enzz λW F w hS=>?_;apply O0;delta aF bd aW bG ai;have pK:=hx.kind;refine zu hS λxb w hS=>?_;refine Gb λzb w hS=>?_;unfold bT at hS;rw[pK,hk]at hS
 refine⟨λus w=>us=[]/\SL W (.pt zb [Γ 0,Γ 0,Γ 0] 85::.pt xb [Γ 1,Γ x.n,x.sv,x.cv,Γ x.ft.kind,Γ x.ft.bh,x.kv] 29::.ob (dj p cf kc H c)::.mem H::F) w,?_,?_⟩
 ·obtain⟨dv,hS⟩:=dj.open hS Xr;have hS:=fc.take hS Xr;repeat first|refine Gp ?_|refine Gw λw hS=>?_|refine Gb λb w hS=>?_
  refine Cc (yc p.w.dp c.s.k.d) ?_;clear hS;(rintro v post ⟨rfl,rfl⟩ w hS;(try simp only[app]at hS);(repeat (first|refine Gp ?_|refine Gw λw hS=>?_|refine Gb λb w hS=>?_)))
  have hS:=fc.Cu c.s c.s.k.d hS Xp;have hS:SL W (.ob (fc p.w kc H c.s)::_) _:=hS;have hS:=dj.put c hS Xp;refine Zl (λh=>absurd h (by rw[ho];decide)) (λ_=>?_);exact⟨rfl,aI hS⟩
 clear hS;rintro w ⟨-,hS⟩;have vp:c.fL cf kc s=c.uK s:=by
  unfold bE.fL;rw[zzb (λhh=>by rw[ho]at hh;cases hh.1),zzd hk]
 rw[vp];refine Gp ?_;refine za (λh1=>?_) (λh1=>absurd rfl h1);obtain⟨dv,hS⟩:=dj.open hS Xr;have hS:=fc.take hS Xr;refine Gn λw hS=>?_;have hS:SL W (.ob (bk p.w.dp c.src.d)::.ob (nB p.w kc H c.s)::.pt p.np (vZ p cf c.pos dv) 142::uj dv c.iP::.ob (cj p.sp p.tp p.w.dp p.sl c.src)::_) w:=hS;refine Cc (Yx p.sp p.tp p.w.dp p.sl c.src H x.sv x.cv s.sg s.l hx.sv hx.cv hl Lw hN dH) ?_;clear hS;rintro _ post ⟨rfl,rfl⟩ w hS;try simp only[app]at hS
 have rX:c.uK s=(c.sd (c.src.kj s.sg s.l).1,⟨(c.src.kj s.sg s.l).2.2,(c.src.kj s.sg s.l).2.1,0⟩):=rfl;rw[rX];generalize c.src.kj s.sg s.l=y at *
 obtain⟨k',aR,e⟩:=y;dsimp only at hS ⊢;have hS:=fc.Cu c.s k'.d hS Xp;have hS:=dj.put {c with s:={c.s with k:={c.s.k with d:=k'.d}},k:=k'} hS Xp;have hS:SL W (.ob (dj p cf kc H (c.sd k'))::_) w:=hS;refine Gn λw hS=>?_;exact⟨[.ob (dj p cf kc H (c.sd k')),.mem H],⟨rfl,rfl⟩,aI hS⟩
end
def Kn{p:iq}{cf:dm}{kc:df}{H:aX}{y:bE × mK}{v:Ε}{post:Β}(h:bj (agg (xm y.2)) [.ob (dj p cf kc H y.1),.mem H] v post):EZ p.np cf kc H y v post:=⟨h.1,p,H,aX.le_refl H,rfl,h.2⟩
def WZ:Bi gG fo 1 [] where
 step:=λi h=>absurd h (www i)
 told:=λi h=>absurd h (www i)
 look:=λp H=>ZD p gG fo H (po gG 1) (AY (n:=1) (size:=64) (by decide) (by decide) (by decide) (by decide)).1 (by decide) (show 0<=1 by decide) (show 0<=1000 by decide)
 lk:=by
  have h:=VC;unfold mP at h;simp only[xxv]at h;intro m hm;show jN m;have e:fR gG fo 1 []=(po gG 1,⟨#[]⟩):=rfl;rw[e]at hm
  simp only[h.1,h.2.1,h.2.2.1,h.2.2.2,zzv,yy8,vvf]at hm;unfold jN;omega
def NW:mQ.src=oX 1 64:=by kernel_rfl
def Rc:nC=mQ.sd (mQ.src.kj [] []).1:=by
 show (mQ.fL gG fo (gA 1)).1=_;unfold bE.fL;rw[zzb (λh=>by rw[Nf]at h;cases h.1),zzd (show (gA 1).kind=1 from rfl)];rfl
def W1:Bi gG fo 1 [my,gA 1] where
 step:=λi h p H x hx=>by
  match i,h,hx with
  | 0,h,hx=>exact (Qp p gG fo H mP rfl (by decide +kernel) x my hx rfl).mono λv post h=>Kn h
  | 1,h,hx=>exact (Qo p gG fo H mQ Nf (N:=0) (by rw[NW];exact AY (by decide) (by decide) (by decide) (by decide)) (by decide) (by decide +kernel) x (gA 1) hx (by decide) rfl).mono λv post h=>Kn h
 told:=λi h=>by
  match i,h with
  | 0,h=>
   show ∀m∈[(mP.fL gG fo my).2.err,(mP.fL gG fo my).2.aR,(mP.fL gG fo my).2.uP],jN m;rw[tB1];unfold jN;simp
  | 1,h=>
   show ∀m∈[(mQ.fL gG fo (gA 1)).2.err,(mQ.fL gG fo (gA 1)).2.aR,(mQ.fL gG fo (gA 1)).2.uP],jN m;rw[tB2];unfold jN;simp
 look:=λp H=>ZD p gG fo H nC (N:=2000) (by rw[Rc];exact (kh.uK (N:=0) (by rw[NW];exact AY (by decide) (by decide) (by decide) (by decide)) [] []).1) (by decide) (by decide +kernel) (by decide +kernel)
 lk:=by
  have h:=VD;simp only[xxv]at h;intro m hm;have hm:m∈[(nC.look fo).aR,(nC.look fo).head,(nC.look fo).low,(nC.look fo).clock]:=hm;simp only[h.1,h.2.1,h.2.2.1,h.2.2.2,zzv,yy8,vvf]at hm;unfold jN;omega
def X0:AT gG fo 1 []=⟨#[48,32,48,32,49,32,48,10]⟩:=by decide +kernel
def X1:AT gG fo 1 [my,gA 1]=⟨#[48,32,48,32,48,10,48,32,49,32,48,10,48,32,49,32,49,32,55,10]⟩:=by decide +kernel
def Wc:iV [my,gA 1]=true:=by decide +kernel
def sR{H:aX}{l:List bB}{b:Φ}(e:l4 l= .ok b){u:Ε}{post:Β}(h:mE H l u post):∃v,u= .tuple #[v,Γ 0]/\post=[.ob (aY v 5 1 b.length (b.map bo)),.mem H]:=by
 unfold mE at h;rw[e]at h
 exact h
set_option maxHeartbeats 4000000 in
def zS:SP 7 [] [] (bj (.bool true) []):=by
 refine Enzz λW F w hS=>?_;apply vc7;delta aF bc ai aZ wB;have hS:=SL.DH hS;generalize aX.emp=H at hS;obtain⟨b0,e0,d0,_⟩:=wj (l:=[]) (by decide) (by decide);obtain⟨b2,e2,d2,_⟩:=wj (l:=[my,gA 1]) Wc (by decide);refine Cc (zV H Θ [] ⟨[],rfl,bK.nil H 7,λi h=>absurd h (www i)⟩ (λ_ h=>by cases h) (by decide)) ?_;clear hS;rintro u post hq w hS;obtain⟨v8,rfl,rfl⟩:=sR e0 hq;try simp only[app]at hS
 repeat first|refine Gp ?_|refine Gw λw hS=>?_|refine Gb λb w hS=>?_
 obtain⟨H2,cT,hR,hS⟩:=SL.NI (sz:=7) (H:=H) (b:=b) (n:=2) hS Xp rfl;have bU:eJ H2 (.slice (some ⟨b,0,none⟩) 2 2) [my,gA 1]:=⟨[⟨4,7,Θ,Θ,dL,Θ⟩,⟨1,0,Θ,Θ,dL,Θ⟩],rfl,hR,λi h h'=>by
  match i,h,h' with
  | 0,_,_=>exact⟨rfl,rfl,rfl,bK.nil _ _,bK.nil _ _,bK.nil _ _⟩
  | 1,_,_=>exact⟨rfl,rfl,rfl,bK.nil _ _,bK.nil _ _,bK.nil _ _⟩⟩
 refine Cc (zV H2 (.slice (some ⟨b,0,none⟩) 2 2) [my,gA 1] bU (by decide) (by decide)) ?_;clear hS;rintro u post hq w hS;obtain⟨oy,rfl,rfl⟩:=sR e2 hq;try simp only[app]at hS
 repeat first|refine Gp ?_|refine Gw λw hS=>?_|refine Gb λb w hS=>?_
 refine Υ ?_;repeat first|refine Gp ?_|refine Gw λw hS=>?_|refine Gb λb w hS=>?_
 refine Cc (Yg BP (.ob (aY v8 5 1 b0.length (b0.map bo))) H2 v8 b0 bN.own d0 WZ (by decide)) ?_;clear hS;rintro u post ⟨rfl,H3,da,rfl⟩ w hS;try simp only[app]at hS
 rw[X0];repeat first|refine Gp ?_|refine Gw λw hS=>?_|refine Gb λb w hS=>?_
 refine Υ ?_;repeat first|refine Gp ?_|refine Gw λw hS=>?_|refine Gb λb w hS=>?_
 refine Cc (qf (e:=2) BP (.ob (aY v8 5 1 b0.length (b0.map bo))) H3 Θ [] bN.nil (by kernel_rfl)) ?_;clear hS;rintro u post ⟨rfl,H4,jZ,rfl⟩ w hS;try simp only[app]at hS
 repeat first|refine Gp ?_|refine Gw λw hS=>?_|refine Gb λb w hS=>?_
 refine Υ ?_;repeat first|refine Gp ?_|refine Gw λw hS=>?_|refine Gb λb w hS=>?_
 refine Υ ?_;repeat first|refine Gp ?_|refine Gw λw hS=>?_|refine Gb λb w hS=>?_
 refine Cc (Yg BP (.ob (aY oy 5 1 b2.length (b2.map bo))) H4 oy b2 bN.own d2 W1 (by decide)) ?_;clear hS;rintro u post ⟨rfl,H5,rI,rfl⟩ w hS;try simp only[app]at hS
 rw[X1];repeat first|refine Gp ?_|refine Gw λw hS=>?_|refine Gb λb w hS=>?_
 exact bt hS
def uu(X:Μ)(v:Ε)(n:Nat)(cells:Ξ):Prop:=
 ∃a cap,v= .slice a n cap/\∀{W w:Ζ} {l:Β},SL W l w->Has X l->∀j u,j<n->cells[j]?=some u->∃b o,a=some ⟨b,o,none⟩/\w.cell? ⟨b,o+j,none⟩=some u
def bK.AP{H:aX}{v:Ε}{n:Nat}{cells:Ξ}(h:bK H 1 v n cells):uu (.mem H) v n cells:=by
 obtain⟨_,a,cap,rfl,_,h4⟩:=h;refine⟨a,cap,rfl,λhS hm j u hj hu=>?_⟩;rcases h4 with rfl|⟨b,o,rfl,h6⟩
 ·omega
 exact⟨b,o,rfl,hS.Ay hm (h6 j u hu)⟩
section
variable {W w:Ζ} {l:Β}
def qO{X:Μ}{v:Ε}{n:Nat}{cells:Ξ}{K:Ε->Prop}(h:uu X v n cells)(k:K (Γ n)):zd v K:=by
 obtain⟨a,cap,rfl,_⟩:=h;exact zY k
def N2{X:Μ}{v u:Ε}{n j:Nat}{k:IntKind}{cells:Ξ}{K:Ε->Prop}(hS:SL W l w)(hm:Has X l)(h:uu X v n cells)(hj:j<n)(hu:cells[j]?=some u)(hK:K u):
  zj 1 v (.int k (j:Int)) λp=>bx p w K:=by
 obtain⟨a,cap,rfl,h2⟩:=h;obtain⟨b,o,rfl,h3⟩:=h2 hS hm j u hj hu;refine zM hj ⟨_,u,rfl,?_,hK⟩;rw[wwl];exact h3
end
def I5(P:Program)(T:List Bool)(v0:Ε)(v1:Ε)(v2:Ε)(w:Ζ)(R:Ε->Ζ->Prop):Prop:=
 zd v0 λv9=>
 zd v1 λv11=>
 zc .neq v9 v11 λv12=>
 bL v12
 (R (.bool false) w)
 (∃(I:Ξ->Ζ->Prop) (μ:Ξ->Ζ->Nat),I [(Γ 0)] w /\
 ∀(v7:Ε) jr,I [v7] jr ->
 zd v0 λtZ=>
 zc .lss v7 tZ λoy=>
 bL oy
 (zl jr λkC=>
 zj 1 v0 v7 λv22=>
 bx v22 kC λv23=>
 zj 1 v1 v7 λv26=>
 bx v26 kC λv27=>
 zP P T v2 [v23,v27] kC λv28 o_=>
 yM v28 λv29=>
 bL v29
 (R (.bool false) o_)
 (zc .add v7 (Γ 1) λq'=>
 I [q'] o_/\μ [q'] o_<μ [v7] jr))
 (R (.bool true) jr))
def N_{P:Program}{T:List Bool}{f g:FuncId}{α:Type}[DecidableEq α]{val:α->Ε}(hT:T.getD g false=true)
  (vc:∀v0 v1 v2 w R,I5 P T v0 v1 v2 w R->zL P f [v0,v1,v2] w R) (one:∀a b,Spec P g [val a,val b] [] (bj (.bool (decide (a=b))) []))
  (pre:Β) (X Y:Μ) (hX:∀F,Has X (app pre F)) (hY:∀F,Has Y (app pre F)) (u v:Ε) (A B:List α) (hu:uu X u A.length (A.map val)) (hv:uu Y v B.length (B.map val)) (hA:A.length<=9223372036854775806) :
  Spec P f [u,v,.func (.func g) #[] #[]] pre (bj (.bool (decide (A=B))) pre):=by
 intro W F w hS;apply vc;unfold I5;refine qO hu (qO hv ?_);refine bw (λh=>?_) (λh=>?_)
 ·have:A≠B:=λe=>by subst e;exact h rfl
  simp only[this,wwk];exact⟨_,⟨rfl,rfl⟩,hS⟩
 have hl:A.length=B.length:=by omega
 refine⟨λvs w=>∃k:Nat,vs=[Γ k]/\k<=A.length/\A.take k=B.take k/\SL W (app pre F) w,λvs _=>match vs with|[.int _ k]=>(A.length-k).toNat|_=>0,⟨0,rfl,by omega,rfl,hS⟩,?_⟩;clear hS;rintro v7 w ⟨k,vL,hk,lL,hS⟩;cases vL;refine qO hu ?_;refine bw (λh=>?_) (λh=>?_)
 ·have jm:k<A.length:=by omega
  have fm:k<B.length:=by omega
  refine zQ hS ?_;clear hS;intro w hS;refine N2 hS (hX F) hu jm (u:=val A[k]) (by simp[jm]) ?_;refine N2 hS (hY F) hv fm (u:=val B[k]) (by simp[fm]) ?_;refine yh (args':=[val A[k],val B[k]]) hT (one A[k] B[k]) rfl hS .nil ?_;clear hS;rintro v post ⟨rfl,rfl⟩ w hS;have hS:SL W (app pre F) w:=hS;refine Gp ?_;refine zr (λhe=>?_) (λhe=>?_)
  ·have:A≠B:=λe=>by subst e;simp at he
   simp only[this,wwk];exact⟨_,⟨rfl,rfl⟩,hS⟩
  have jk:=zzl he;refine Gp ?_;refine⟨⟨k+1,by simp,by omega,?_,hS⟩,by dsimp only;omega⟩;rw[zzh jm,zzh fm,lL,jk]
 have:k=A.length:=by omega
 subst this;have:A=B:=by rw[zz6,hl,zz6]at lL;exact lL
 simp only[this,decide_true];exact⟨_,⟨rfl,rfl⟩,hS⟩
def W_(a b:Int):SP 73 [Γ a,Γ b] [] (bj (.bool (decide (a=b))) []):=by
 refine Enzz λW F w hS=>?_;apply a_r;refine Gp ?_;(exact bt hS)
def XG(H:aX)(u v:Ε)(A B:Ω)(hu:bK H 1 u A.length (A.map (Value.int .i64)))(hv:bK H 1 v B.length (B.map (Value.int .i64)))(hn:A.length<=9223372036854775806):
  SP 37 [u,v] [.mem H] (bj (.bool (decide (A=B))) [.mem H]):=by
 refine Enzz λW F w hS=>?_;apply aZl;refine Cc (N_ rfl (λv0 v1 v2 w R h=>a_q v0 v1 v2 w R h) W_ [.mem H] (.mem H) (.mem H) (λ_=>.hd) (λ_=>.hd) u v A B hu.AP hv.AP hn) ?_;clear hS;rintro v post ⟨rfl,rfl⟩ w hS;try simp only[app]at hS
 (exact bt hS)
def Sx(a b:bY)(w:Ζ):(Op.equal 70 (agg (dh a)) (agg (dh b))).run prog w= .ok (decide (a=b)) w:=by
 refine D8 underlying70 (by kernel_rfl) ?_;obtain⟨a1,a2,a3,a4⟩:=a;obtain⟨b1,b2,b3,b4⟩:=b;simp[dh,Op.eqFields,part,vvy (h:=xxm),vvy (h:=zz9),run_equalIn_bool' (h:=wwo),run_equalIn_string (h:=yyx),Result.andThen,toList_inj];by_cases h0:a1=b1<;>by_cases h1:a2=b2<;>by_cases h2:a3=b3<;>by_cases h3:a4=b4<;>simp[*]
def W9(a b:bY):SP 71 [agg (dh a),agg (dh b)] [] (bj (.bool (decide (a=b))) []):=by
 refine Enzz λW F w hS=>?_;apply a_p;refine zu hS λb1 w hS=>?_;refine zu hS λb2 w hS=>?_;refine zH hS Xh rfl (zH hS Xh rfl (N0 (Sx a b w) ?_));(exact bt hS)
def XF(H:aX)(u v:Ε)(A B:List bY)(hu:bK H 4 u A.length (A.map dh).flatten)(hv:bK H 4 v B.length (B.map dh).flatten)(hn:A.length<=9223372036854775806):
  SP 36 [u,v] [.mem H] (bj (.bool (decide (A=B))) [.mem H]):=by
 refine Enzz λW F w hS=>?_;apply aZj;refine Cc (awl kM rfl (λv0 v1 v2 w R h=>a_o v0 v1 v2 w R h) W9 H u v A B hu hv hn) ?_;clear hS;rintro v post ⟨rfl,rfl⟩ w hS;try simp only[app]at hS
 (exact bt hS)
def Xa(a b:Η):SP 69 [.string a,.string b] [] (bj (.bool (decide (a=b))) []):=by
 refine Enzz λW F w hS=>?_;apply a_m;refine Gp ?_;(exact bt hS)
def XH(H:aX)(u v:Ε)(A B:Ψ)(hu:bK H 1 u A.length (A.map Value.string))(hv:bK H 1 v B.length (B.map Value.string))(hn:A.length<=9223372036854775806):
  SP 35 [u,v] [.mem H] (bj (.bool (decide (A=B))) [.mem H]):=by
 refine Enzz λW F w hS=>?_;apply aZe;refine Cc (N_ rfl (λv0 v1 v2 w R h=>a_l v0 v1 v2 w R h) Xa [.mem H] (.mem H) (.mem H) (λ_=>.hd) (λ_=>.hd) u v A B hu.AP hv.AP hn) ?_;clear hS;rintro v post ⟨rfl,rfl⟩ w hS;try simp only[app]at hS
 (exact bt hS)
structure Bj(t:bB):Prop where
 sg:t.sg.length<=9223372036854775806
 l:t.l.length<=9223372036854775806
 bh:t.bh.length<=9223372036854775806
def ail{P:Program}{w:Ζ}{t:Ι}{xs ys:Ξ}{p:Prop}[Decidable p]{K:Ε->Prop}(h:(Op.equal t (agg xs) (agg ys)).run P w= .ok (decide p) w)(hK:K (.bool (decide p))):ZB P t false (agg xs) (agg ys) w K:=N0 h hK
def aFo(H:aX)(x y:dJ)(t:bB)(hx:dG H x t)(hy:dG H y t)(ht:Bj t):SP 16 [agg (bT x),agg (bT y)] [.mem H] (bj (.bool true) [.mem H]):=by
 refine Enzz λW F w hS=>?_;apply aWg;delta aF aW bc;refine zu hS λb1 w hS=>?_;refine zu hS λb2 w hS=>?_;unfold bT at hS;rw[hx.kind,hx.n,hx.ft,hy.kind,hy.n,hy.ft]at hS
 repeat first|refine Gp ?_|refine Gw λw hS=>?_|refine Gb λb w hS=>?_
 refine Υ ?_;repeat first|refine Gp ?_|refine Gw λw hS=>?_|refine Gb λb w hS=>?_
 refine Υ ?_;repeat first|refine Gp ?_|refine Gw λw hS=>?_|refine Gb λb w hS=>?_
 refine yl (b:=b1) (cs:=[Γ t.kind,Γ t.n,x.sv,x.cv,Γ t.ft.kind,Γ t.ft.bh,x.kv]) (vs:=eE t.ft) hS Xh rfl (λj v h=>?_) ?_
 ·match j,h with
  | 0,h=>exact h
  | 1,h=>exact h
  | j+2,h=>simp[eE]at h
 repeat first|refine Gp ?_|refine Gw λw hS=>?_|refine Gb λb w hS=>?_
 refine yl (b:=b2) (cs:=[Γ t.kind,Γ t.n,y.sv,y.cv,Γ t.ft.kind,Γ t.ft.bh,y.kv]) (vs:=eE t.ft) hS Xh rfl (λj v h=>?_) ?_
 ·match j,h with
  | 0,h=>exact h
  | 1,h=>exact h
  | j+2,h=>simp[eE]at h
 refine ail (xo t.ft t.ft w) ?_;refine Υ ?_;repeat first|refine Gp ?_|refine Gw λw hS=>?_|refine Gb λb w hS=>?_
 refine Cc (XH H x.sv y.sv t.sg t.sg hx.sv hy.sv ht.sg) ?_;clear hS;(rintro v post ⟨rfl,rfl⟩ w hS;(try simp only[app]at hS);(repeat (first|refine Gp ?_|refine Gw λw hS=>?_|refine Gb λb w hS=>?_)))
 refine Υ ?_;repeat first|refine Gp ?_|refine Gw λw hS=>?_|refine Gb λb w hS=>?_
 refine Cc (XF H x.cv y.cv t.l t.l hx.cv hy.cv ht.l) ?_;clear hS;(rintro v post ⟨rfl,rfl⟩ w hS;(try simp only[app]at hS);(repeat (first|refine Gp ?_|refine Gw λw hS=>?_|refine Gb λb w hS=>?_)))
 refine Υ ?_;repeat first|refine Gp ?_|refine Gw λw hS=>?_|refine Gb λb w hS=>?_
 refine Cc (XG H x.kv y.kv t.bh t.bh hx.kv hy.kv ht.bh) ?_;clear hS;(rintro v post ⟨rfl,rfl⟩ w hS;(try simp only[app]at hS);(repeat (first|refine Gp ?_|refine Gw λw hS=>?_|refine Gb λb w hS=>?_)))
 rw[zzr rfl];(exact bt hS)
def yS(H:aX)(u v:Ε)(A:List bB)(hu:eJ H u A)(hv:eJ H v A)(hn:A.length<=9223372036854775806)(hL:∀t∈A,Bj t):
  SP 15 [u,v,.func (.func 16) #[] #[]] [.mem H] (bj (.bool true) [.mem H]):=by
 refine Enzz λW F w hS=>?_;apply aR5;delta aF bD bc ai;obtain⟨xs,iT,eG,ik⟩:=hu;obtain⟨ys,j4,LI,UZ⟩:=hv;refine zh eG (zh LI ?_);repeat first|refine Gp ?_|refine Gw λw hS=>?_|refine Gb λb w hS=>?_
 refine za (λh=>absurd rfl h) (λh=>?_);refine⟨λvs w=>∃k:Nat,vs=[Γ k]/\k<=A.length/\SL W (.mem H::F) w,λvs _=>match vs with|[.int _ k]=>(A.length-k).toNat|_=>0,⟨0,rfl,by omega,hS⟩,?_⟩;clear hS;rintro v7 w ⟨k,vL,hk,hS⟩;cases vL;refine zh eG ?_;repeat first|refine Gp ?_|refine Gw λw hS=>?_|refine Gb λb w hS=>?_
 refine za (λh=>?_) (λh=>?_)
 ·have jm:k<A.length:=by omega
  have K6:k<xs.length:=by omega
  have K7:k<ys.length:=by omega
  refine zQ hS ?_;clear hS;intro w hS;refine zy hS Xh iy eG (x:=xs[k]) (by simp[K6]) jm ?_;refine zy hS Xh iy LI (x:=ys[k]) (by simp[K7]) jm ?_;refine yh (args':=[agg (bT xs[k]),agg (bT ys[k])]) rfl (aFo H xs[k] ys[k] A[k] (ik k jm K6) (UZ k jm K7) (hL _ (zzi jm))) rfl hS Xp ?_;clear hS;rintro v post ⟨rfl,rfl⟩ w hS;try simp only[app]at hS
  repeat first|refine Gp ?_|refine Gw λw hS=>?_|refine Gb λb w hS=>?_
  refine zs ?_;repeat first|refine Gp ?_|refine Gw λw hS=>?_|refine Gb λb w hS=>?_
  exact⟨⟨k+1,by simp,by omega,hS⟩,by dsimp only;omega⟩
 exact bt hS
def uM(s:Η)(n:Nat):Η:=s.extract 0 (min s.size n)
def YI(s:Η)(n:Nat):SP 139 [.string s,Γ n] [] (bj (.string (uM s n)) []):=by
 refine Enzz λW F w hS=>?_;apply aRu;refine Gp ?_;rw[show min (s.size:Int) (n:Int)=((min s.size n:Nat):Int) by omega];refine⟨s,0,min s.size n,rfl,⟨.i64,rfl⟩,rfl,yye _,Nat.min_le_left _ _,?_⟩;(exact bt hS)
def eS(c:bY)(k:Nat):bY:=⟨md c.table k,if md c.key 31=30 then ((1+md c.key 1099511627776:Nat):Int) else ((1+md c.key 12:Nat):Int),c.gone,if c.gone then ⟨#[]⟩ else uM c.val 32⟩
def YG(c:bY)(k:Nat)(h1:0<k)(h2:k<=8):SP 100 [agg (dh c),Γ k] [] (bj (agg (dh (eS c k))) []):=by
 refine Enzz λW F w hS=>?_;apply aI1;delta aF aW ba bD Bv ai bn;obtain⟨table,key,gone,val⟩:=c;refine⟨_,rfl,zD hS ?_⟩;clear hS;intro p w hS;refine zD hS ?_;clear hS;intro q w hS;simp only[dh]at hS;have bcz:=iX key 12 (by decide);have hmb:=iX key 1099511627776 (by decide);have C7:(1:Int)+(md key 12:Int)=((1+md key 12:Nat):Int):=by omega
 have Uo:(1:Int)+(md key 1099511627776:Int)=((1+md key 1099511627776:Nat):Int):=by omega
 refine⟨λus w=>∃x:Nat,us=[Δ x]/\SL W (.pt x [Γ (md table k:Nat),Γ ((1+md key 12:Nat):Int),.bool gone,.string ⟨#[]⟩] 70::.pt q [Γ 0,Γ 0,.bool false,.string ⟨#[]⟩] 70::.pt p [Γ table,Γ key,.bool gone,.string val] 70::F) w,?_,?_⟩
 ·refine zQ hS ?_;clear hS;intro w hS;refine Gp ?_;refine⟨?_,?_⟩
  ·refine Cg (yt table k h1 (by omega)) λw hS=>?_;refine⟨?_,?_⟩
   ·refine Cg (z8 key 12 (by decide) (by decide)) λw hS=>?_;refine Gm λb w hS=>?_;rw[C7]at hS
    exact⟨_,rfl,aI hS⟩
   refine Gm λb w hS=>?_;refine Cg (z8 key 12 (by decide) (by decide)) λw hS=>?_;rw[C7]at hS
   exact⟨_,rfl,aI hS⟩
  refine Gm λb w hS=>?_;refine Cg (yt table k h1 (by omega)) λw hS=>?_;refine Cg (z8 key 12 (by decide) (by decide)) λw hS=>?_;rw[C7]at hS
  exact⟨_,rfl,aI hS⟩
 clear hS;rintro v5 w ⟨x,bM,hS⟩;cases bM;refine⟨λus w=>us=[]/\SL W (.pt x [Γ (md table k:Nat),Γ (eS ⟨table,key,gone,val⟩ k).key,.bool gone,.string ⟨#[]⟩] 70::.pt q [Γ 0,Γ 0,.bool false,.string ⟨#[]⟩] 70::.pt p [Γ table,Γ key,.bool gone,.string val] 70::F) w,?_,?_⟩
 ·refine Gp ?_;refine Cg (z8 key 31 (by decide) (by decide)) λw hS=>?_;refine za (λh=>?_) (λh=>?_)
  ·have hk:(eS ⟨table,key,gone,val⟩ k).key=((1+md key 1099511627776:Nat):Int):=by unfold eS;simp only;rw[zzd (by omega)]
   rw[hk];refine Gp ?_;refine Cg (z8 key 1099511627776 (by decide) (by decide)) λw hS=>?_;rw[Uo]at hS
   exact aI hS
  have hk:(eS ⟨table,key,gone,val⟩ k).key=((1+md key 12:Nat):Int):=by unfold eS;simp only;rw[zzb (by omega)]
  rw[hk];exact⟨rfl,aI hS⟩
 clear hS;rintro w ⟨-,hS⟩;refine Gp ?_;cases gone with
 | true=>
  refine zs ?_;refine Gn λw hS=>?_;have e:dh (eS ⟨table,key,true,val⟩ k)=[Γ (md table k:Nat),Γ (eS ⟨table,key,true,val⟩ k).key,.bool true,.string ⟨#[]⟩]:=rfl;rw[e];(exact bt hS)
 | false=>
  refine zt ?_;refine Gp ?_;refine Cg (YI val 32) λw hS=>?_;have e:dh (eS ⟨table,key,false,val⟩ k)=[Γ (md table k:Nat),Γ (eS ⟨table,key,false,val⟩ k).key,.bool false,.string (uM val 32)]:=rfl;rw[e];(exact bt hS)
def SZ(c:bY)(z:Ξ)(hz:z.length=4):eV (bq z 1) [(0,4,agg (dh c))]=some (dh c):=by
 simp[eV,bq,Value.cells,dh,hz]
def ZR(H:aX)(v:Ε)(l:List bY)(k cC:Nat)(hv:bK H 4 v l.length (l.map dh).flatten)(h1:0<k)(h2:k<=8)(hm:cC<=1000)(hn:l.length<=140737488351232):
  SP 48 [v,Γ k,Γ cC] [.mem H] (λu post=>post=[.ob (aY u 70 4 ((l.take cC).map (eS · k)).length (((l.take cC).map (eS · k)).map dh).flatten),.mem H]):=by
 refine Enzz λW F w hS=>?_;apply aZz;delta aF ai bn aZ;refine⟨λus w=>∃(m:Nat) (u:Ε),us=[u,Γ m]/\m<=l.length/\m<=cC/\SL W (.ob (aY u 70 4 m ((((l.take m).map (eS · k)).map dh).flatten))::.mem H::F) w,
  λus _=>match us with|[_,.int _ m]=>(l.length-m).toNat|_=>0,⟨0,_,rfl,by omega,by omega,aY.nil hS⟩,?_⟩
 clear hS;rintro v7 v8 w ⟨m,u,bM,nf,tm,hS⟩;cases bM;have fM:∀w,(m=l.length\/m=cC)->SL W (.ob (aY v7 70 4 m ((((l.take m).map (eS · k)).map dh).flatten))::.mem H::F) w ->
   ∃post,(post=[.ob (aY v7 70 4 ((l.take cC).map (eS · k)).length (((l.take cC).map (eS · k)).map dh).flatten),.mem H])/\SL W (app post F) w:=λw he hS=>by
  have ht:l.take m=l.take cC:=by
   rcases he with rfl|rfl
   ·rw[zz6,xxb (by omega)]
   rfl
  have hl:m=((l.take cC).map (eS · k)).length:=by rw[<- ht,yyh,zzn];omega
  rw[ht,hl]at hS
  exact⟨_,rfl,hS⟩
 refine zh hv ?_;refine Gp ?_;refine za (λh=>?_) (λh=>fM w (.inl (by omega)) hS);refine Gp ?_;refine za (λh3=>?_) (λh3=>fM w (.inr (by omega)) hS);have bg:m<l.length:=by omega
 refine zy hS Xh kM hv (x:=l[m]) (by simp[bg]) bg ?_;refine Cc (YG l[m] k h1 h2) ?_;clear hS;rintro v26 post ⟨rfl,rfl⟩ w hS;try simp only[app]at hS
 refine zA hS (SZ (eS l[m] k) [Γ 0,Γ 0,.bool false,.string ⟨#[]⟩] rfl) ?_;clear hS;intro b w hS;refine zx (n:=m) (m:=1) hS Xr (fC (cs:=dh (eS l[m] k)) hS .hd rfl) rfl rfl (xk _) (by omega) (by omega) ?_;clear hS;intro u' w hS;refine Gp ?_;have e:(l.take (m+1)).map (eS · k)=(l.take m).map (eS · k)++[eS l[m] k]:=by rw[zzh bg,zzx];rfl
 refine⟨⟨m+1,u',rfl,(by omega),(by omega),(by rw[e,rD];exact aI hS)⟩,(by dsimp only;omega)⟩
def Yk(H:aX)(v:Ε)(l:List bY)(k cC:Nat)(hv:bK H 4 v l.length (l.map dh).flatten)(h1:0<k)(h2:k<=8)(hm:cC<=1000)(hn:l.length<=140737488351232):
  SP 48 [v,Γ k,Γ cC] [.mem H] (λu post=>∃H',H.le H'/\bK H' 4 u ((l.take cC).map (eS · k)).length (((l.take cC).map (eS · k)).map dh).flatten/\post=[.mem H']):=by
 intro W F w hS;refine zL.mono (ZR H v l k cC hv h1 h2 hm hn W F w hS) ?_;rintro u w ⟨post,rfl,hS⟩;have hS:SL W (_::.mem H::F) w:=hS;obtain⟨H2,cT,hR,hS⟩:=zW (H:=H) (v:=u) hS Xp;exact⟨_,⟨H2,cT,hR,rfl⟩,hS⟩
def awu(s:Η)(k:Nat)(h1:0<k)(h2:k<=8):SP 101 [.string s,Γ k] [] (λv post=>∃r,v= .string r/\r.size<=40/\post=[]):=by
 refine Enzz λW F w hS=>?_;apply aI2;delta aF ai;refine Gp ?_;refine za (λh=>⟨_,⟨_,rfl,by decide,rfl⟩,hS⟩) (λh=>?_);have gK:0<s.size:=by
  rcases yy7 s.size with h0|h0
  ·refine absurd ?_ h;obtain⟨⟨l⟩⟩:=s;have:l=[]:=zzm h0;subst this;rfl
  exact h0
 refine awi (j:=0) yyx gK ?_;generalize s[0]=b;have hb:b.toNat<256:=b.toNat_lt;generalize b.toNat=n at hb;refine ya (by omega) ?_;refine ZM (by decide) ?_;refine bw (λh3=>?_) (λh3=>?_)
 ·refine Cg (YI s 40) λw hS=>?_;exact⟨_,⟨_,rfl,by unfold uM;rw[ByteArray.size_extract];omega,rfl⟩,hS⟩
 refine N5 (by decide) (by rw[wwt (by omega)];omega) ?_;rw[show (n:Int).tdiv 4=((n / 4:Nat):Int) by rw[wwt (by omega)];omega];refine N6 h1 ?_;have hk:n / 4 % k<8:=Nat.lt_of_lt_of_le (uun _ h1) h2;refine Gp ?_;refine zK ?_;generalize hx:IntKind.u8.wrap (48+((n / 4 % k:Nat):Int))=x;refine zA hS (cells:=[.int .u8 x]) (by simp[eV,bq,Value.cells]) ?_;clear hS;intro b1 w hS;refine Ye hS .hd yyw yyx yyy ?_;generalize hA:(⟨#[UInt8.ofNat x.toNat]⟩:Η)=A;have xJ:A.size=1:=by rw[<- hA];rfl
 refine qM (by rw[xJ];decide) ?_;generalize hB:(⟨#[115,110,97,112,115,104,111,116,32]⟩:Η)++A=B;have Ku:B.size<=10:=by rw[<- hB,xxe,xJ];decide
 refine ZM (by decide) ?_;refine Gp ?_;refine za (λh4=>?_) (λh4=>⟨_,⟨_,rfl,by omega,rfl⟩,aI hS⟩);refine qM (xx3 (uui Ku _) (by decide)) ?_;generalize hC:B++(⟨#[32]⟩:Η)=C;have Tw:C.size<=11:=by rw[<- hC,xxe];exact uui Ku _
 refine N5 (by decide) (by rw[wwt (by omega)];omega) ?_;rw[show (n:Int).tdiv 16=((n / 16:Nat):Int) by rw[wwt (by omega)];omega];refine ZM (by decide) ?_;rw[show ((n / 16:Nat):Int).tmod 8=((n / 16 % 8:Nat):Int) by rw[xx1 (by omega)];omega];refine Gp ?_;refine zK ?_;generalize IntKind.u8.wrap (49+((n / 16 % 8:Nat):Int))=y;refine zA hS (cells:=[.int .u8 y]) (by simp[eV,bq,Value.cells]) ?_;clear hS;intro b2 w hS;refine Ye hS .hd yyw yyx yyy ?_;refine qM (xx3 (uui Tw _) (by show 11+1<=1000000;decide)) ?_;exact⟨_,⟨_,rfl,by rw[xxe];show C.size+1<=40;omega,rfl⟩,aI hS⟩
def awv(H:aX)(v:Ε)(l:Ψ)(k cC:Nat)(hv:bK H 1 v l.length (l.map Value.string))(h1:0<k)(h2:k<=8)(hm:cC<=1000)(hn:l.length<=140737488351232):
  SP 49 [v,Γ k,Γ cC] [.mem H] (λu post=>∃(H':aX) (rs:Ψ),H.le H'/\rs.length<=cC/\(∀s∈rs,s.size<=40)/\bK H' 1 u rs.length (rs.map Value.string)/\post=[.mem H']):=by
 refine Enzz λW F w hS=>?_;apply aZ0;delta aF ai bn aZ;refine⟨λus w=>∃(m:Nat) (u:Ε) (rs:Ψ),us=[u,Γ m]/\m<=l.length/\rs.length=m/\m<=cC/\(∀s∈rs,s.size<=40)/\SL W (.ob (aY u 9 1 m (rs.map Value.string))::.mem H::F) w,
  λus _=>match us with|[_,.int _ m]=>(l.length-m).toNat|_=>0,⟨0,_,[],rfl,by omega,rfl,by omega,by simp,aY.nil hS⟩,?_⟩
 clear hS;rintro v7 v8 w ⟨m,u,rs,bM,nf,rW,tm,xG,hS⟩;cases bM;have fM:∀w,SL W (.ob (aY v7 9 1 m (rs.map Value.string))::.mem H::F) w ->
   ∃post,(∃(H':aX) (rs:Ψ),H.le H'/\rs.length<=cC/\(∀s∈rs,s.size<=40)/\bK H' 1 v7 rs.length (rs.map Value.string)/\post=[.mem H'])/\SL W (app post F) w:=λw hS=>by
  obtain⟨H2,cT,hR,hS⟩:=zW (H:=H) (v:=v7) hS Xp;rw[<- rW]at hR
  exact⟨_,⟨H2,rs,cT,by omega,xG,hR,rfl⟩,hS⟩
 refine zh hv ?_;refine Gp ?_;refine za (λh=>?_) (λh=>fM w hS);refine Gp ?_;refine za (λh3=>?_) (λh3=>fM w hS);clear fM;have bg:m<l.length:=by omega
 refine yg hS Xh hv bg (u:=.string l[m]) (by simp[bg]) ?_;refine Cc (awu l[m] k h1 h2) ?_;clear hS;rintro v26 post ⟨r,rfl,C_,rfl⟩ w hS;refine Gm λb w hS=>?_;refine zx (n:=m) (m:=1) hS Xr (fC (cs:=[.string r]) hS .hd rfl) rfl rfl (by simp[Value.oneCell']) (by omega) (by omega) ?_;clear hS;intro u' w hS;refine Gp ?_;refine⟨⟨m+1,u',rs++[r],rfl,(by omega),(by simp[rW]),(by omega),(λs hs=>by
  rcases yyb.1 hs with hs|hs
  ·exact xG s hs
  rw[zz8.1 hs];exact C_),(by rw[zzx,zzj,xxa];exact aI hS)⟩,(by dsimp only;omega)⟩
