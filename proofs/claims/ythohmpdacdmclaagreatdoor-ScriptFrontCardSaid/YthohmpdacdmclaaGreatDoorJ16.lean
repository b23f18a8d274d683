/- Part. -/
import Derived.Test.YthohmpdacdmclaaGreatDoorJ15
import Derived.Lib.ItoaLen
namespace Go.Proofs.YthohmpdacdmclaaGreatDoor
set_option linter.all false
set_option maxRecDepth 100000
open Go.RowKit
def xxn:=@ByteArray.size_append
def wwy:=@List.count_append
def ww6:=@Int.tdiv_eq_ediv_of_nonneg
def uuk:=@Nat.add_le_add_right
def tj (H : a_) : Prop := ∃ g t f, Tryz.prog.globalNamed "internal/strconv.uint64pow10" = some g /\ H g = some (.cells (Lib.pow10Tab.map fun z => Value.int .u64 z).toArray t f)
def tj.mono{H H':a_}(hh:H.le H')(h:tj H):tj H':=by
 obtain⟨g,t,f,h1,h2⟩:=h;exact⟨g,t,f,h1,hh _ _ h2⟩
def mP(n:Int):Η:=⟨(Lib.decDigits n.toNat).toArray⟩
def oE(H:a_)(n:Int):Prop:=0<=n/\(n<100\/(n<=9223372036854775807/\tj H))
def oE.mono{H H':a_}(hh:H.le H'){n:Int}(h:oE H n):oE H' n:=⟨h.1,h.2.imp id λh=>⟨h.1,h.2.mono hh⟩⟩
def SL.bqb{W w:Ζ}{l:Β}{H:a_}{b:Nat}{o:Obj}(h:SL W l w)(m:Has (.mem H) l)(hv:H b=some o):w.heap[b]?=some o:=by
 obtain⟨k,s,x⟩:=h.out;obtain⟨h1,rfl,le⟩:=m.heap s;exact x b _ (le b _ hv)
def qu(H:a_)(n:Int)(h:oE H n):SP 43 [Γ n,Γ 10] [.mem H] (bA (.string (mP n)) [.mem H]):=by
 intro W F w hS;have e:((n.toNat:Nat):Int)=n:=Int.toNat_of_nonneg h.1;by_cases hs:n<100
 ·have:=Any.strconv_FormatInt_10_small {SJ with} n.toNat (by omega) w;rw[e]at this
  refine uuf this ?_;rintro e w' ⟨rfl,rfl⟩;exact⟨_,rfl,_,⟨rfl,rfl⟩,hS⟩
 obtain⟨h9,g,t,f,hg,hH⟩:=h.2.resolve_left hs;have s4 : Lib.TabIs Tryz.prog w "internal/strconv.uint64pow10" .u64 Lib.pow10Tab := by
  unfold Lib.TabIs World.var?;rw[hg];show (match w.heap[g]? with|some (.cells cs _ _)=>some cs|_=>none)=_;rw[SL.bqb hS .hd hH]
 refine uuf (Any.strconv_FormatInt_10 SJ n (by omega) h9 w s4) ?_;rintro e' w' ⟨rfl,k,os,rfl⟩;refine⟨_,rfl,_,⟨?_,rfl⟩,SL.grow (SL.drewN hS k)⟩;unfold mP;rw[<- Lib.itoa_nonneg,e]
def sc:Ω->Η
 | []=>⟨#[]⟩
 | n::r=>r.foldl (λs x=>s++⟨#[32]⟩++mP x) (⟨#[]⟩++mP n)
def bnt:∀(l:Ω) (x:Int),sc (l++[x])=if l.length=0 then ⟨#[]⟩++mP x else sc l++⟨#[32]⟩++mP x
 | [],x=>rfl
 | n::l,x=>by
  rw[zzb (by simp)];simp[sc,wwe]
def Hy{H:a_}{n:Int}(h:oE H n):(mP n).size<=20:=by
 show (Lib.decDigits n.toNat).toArray.size<=20;rw[List.size_toArray,Lib.decDigits_length];exact Lib.nDigits_le20 _ (by rcases h.2 with h|⟨h,_⟩<;>omega)
def Jv{H:a_}:∀(l:Ω),(∀n∈l,oE H n)->(sc l).size<=21*l.length
 | [],_=>zzj _
 | n::r,h=>by
  have g:∀(r:Ω) (s:Η),(∀n∈r,oE H n)->(r.foldl (λs x=>s++(⟨#[32]⟩:Η)++mP x) s).size<=s.size+21*r.length:=by
   intro r;induction r with
   | nil=>intro s _;simp
   | cons x r ih=>
    intro s h;have h1:=ih (s++⟨#[32]⟩++mP x) λy hy=>h y (.tail _ hy);have h2:=Hy (h x (.head _));rw[xxn,xxn,show (⟨#[32]⟩:Η).size=1 from rfl]at h1
    rw[xxo,zzi];omega
  have h1:=g r (⟨#[]⟩++mP n) λy hy=>h y (.tail _ hy);have h2:=Hy (h n (.head _));rw[xxn,show (⟨#[]⟩:Η).size=0 from rfl]at h1
  show (List.foldl (λs x=>s++(⟨#[32]⟩:Η)++mP x) (⟨#[]⟩++mP n) r).size<=_;rw[zzi];omega
def pj(l:Ω):Η:=sc l++⟨#[10]⟩
def Yg(H:a_)(b:Nat)(l:Ω)(t:Ι)(hl:l.length<=1000)(h:∀n∈l,oE H n):SP 19 [.slice (some ⟨b,0,none⟩) l.length l.length] [.pt b (l.map (Value.int .i64)) t,.mem H] (bA (.string (pj l)) [.mem H]):=by
 refine Enzz λW F w hS=>?_;apply bEq;delta aI ai;refine Gp ?_;refine⟨λus w=>∃i:Nat,us=[.string (sc (l.take i)),Γ i]/\i<=l.length/\SL W (.pt b (l.map (Value.int .i64)) t::.mem H::F) w,
  λus _=>match us with|[_,.int _ i]=>(l.length-i).toNat|_=>0,⟨0,rfl,by omega,hS⟩,?_⟩
 clear hS;rintro _ _ w ⟨i,bM,hi,hS⟩;cases bM;refine bj (λb9=>?_) (λb9=>?_)
 ·have bn:i<l.length:=by omega
  have hx:=h _ (zzk bn);have e:sc (l.take (i+1))=if i=0 then ⟨#[]⟩++mP l[i] else sc (l.take i)++⟨#[32]⟩++mP l[i]:=by
   rw[zze bn,bnt,zzf,xxd (by omega)]
  refine zI bn (zV hS .hd (v:=Γ l[i]) (by rw[yyd,vvs];simp[bn]) ?_);have hz:=Jv (l.take i) λn hn=>h n (yyg hn);rw[zzf]at hz
  have hd:=Hy hx;refine bj (λh0=>?_) (λh0=>?_)
  ·rw[zzb (by omega)]at e
   refine A8 (by rw[show (⟨#[32]⟩:Η).size=1 from rfl];omega) ?_;refine Cg (qu H l[i] hx) λw hS=>?_;refine A8 (by rw[xxn,show (⟨#[32]⟩:Η).size=1 from rfl];omega) ?_;refine Gp ?_;exact⟨⟨i+1,by rw[e],by omega,aR hS⟩,by dsimp only;omega⟩
  have rS:i=0:=by omega
  rw[zzc rS]at e
  refine Cg (qu H l[i] hx) λw hS=>?_;refine A8 (by omega) ?_;refine Gp ?_;refine⟨⟨i+1,?_,by omega,aR hS⟩,by dsimp only;omega⟩;rw[e];subst rS;rfl
 have:i=l.length:=by omega
 subst this;have hz:=Jv l h;rw[zz0];refine A8 (by rw[show (⟨#[10]⟩:Η).size=1 from rfl];omega) ?_;exact bw hS
def Ju{H:a_}{l:Ω}(h:∀n∈l,oE H n):(pj l).size<=21*l.length+1:=by
 have:=Jv l h;unfold pj;rw[xxn,show (⟨#[10]⟩:Η).size=1 from rfl];omega
def xx(cf:cX)(kc:cT)(p:bq × Η)(x:cx):bq × Η:=((p.1.fM cf kc x).1,p.2++pj [(p.1.fM cf kc x).2.err,(p.1.fM cf kc x).2.aw,(p.1.fM cf kc x).2.il])
def Vg(kc:cT)(c:bq):Η:=pj [(c.look kc).aw,(c.look kc).head,(c.look kc).low,(c.look kc).clock]
def fO(cf:cX)(kc:cT)(n:Nat)(l:List cx):bq × Η:=l.foldl (xx cf kc) (xZ cf n,⟨#[]⟩)
def vK(cf:cX)(kc:cT)(n:Nat)(l:List cx):Η:=(fO cf kc n l).2++Vg kc (fO cf kc n l).1
structure GG(H0:a_)(cf:cX)(kc:cT)(n:Nat)(l:List cx):Prop where
 step:∀(i:Nat) (h:i<l.length) (p:iO) (H:a_) (x:gr),gH H x l[i]->SP 18 [bx p.np,agg (dF x)] [.ob (bF p cf kc H (fO cf kc n (l.take i)).1),.mem H] (K8 p.np cf kc H ((fO cf kc n (l.take i)).1.fM cf kc l[i]))
 told:∀(i:Nat) (h:i<l.length),∀m∈[((fO cf kc n (l.take i)).1.fM cf kc l[i]).2.err,((fO cf kc n (l.take i)).1.fM cf kc l[i]).2.aw,((fO cf kc n (l.take i)).1.fM cf kc l[i]).2.il],oE H0 m
 look:∀(p:iO) (H:a_),SP 20 [bx p.np] [.ob (bF p cf kc H (fO cf kc n l).1),.mem H] (Gq p cf kc H (fO cf kc n l).1 (agg (HF ((fO cf kc n l).1.look kc))))
 lk:∀m∈[((fO cf kc n l).1.look kc).aw,((fO cf kc n l).1.look kc).head,((fO cf kc n l).1.look kc).low,((fO cf kc n l).1.look kc).clock],oE H0 m
def F5{cf:cX}{kc:cT}{n:Nat}{l:List cx}{i:Nat}(h:i<l.length):fO cf kc n (l.take (i+1))=xx cf kc (fO cf kc n (l.take i)) l[i]:=by
 unfold fO;rw[zze h,wwe];rfl
def bnn(H:a_)(b:Nat)(x y z:Int)(t:Ι)(h:∀n∈[x,y,z],oE H n):SP 19 [.slice (some ⟨b,0,none⟩) 3 3] [.pt b [Γ x,Γ y,Γ z] t,.mem H] (bA (.string (pj [x,y,z])) [.mem H]):=Yg H b [x,y,z] t (by simp) h
def bno(H:a_)(b:Nat)(x y z u:Int)(t:Ι)(h:∀n∈[x,y,z,u],oE H n):SP 19 [.slice (some ⟨b,0,none⟩) 4 4] [.pt b [Γ x,Γ y,Γ z,Γ u] t,.mem H] (bA (.string (pj [x,y,z,u])) [.mem H]):=Yg H b [x,y,z,u] t (by simp) h
def K6(X:Μ)(H:a_)(s:Η)(u:Ε)(post:Β):Prop:=u= .string s/\∃H',H.le H'/\post=[X,.mem H']
def qV{cf:cX}{kc:cT}{n:Nat}(hc:CC cf kc n)(X:Μ)(H:a_)(v:Ε)(bs:Φ)(hv:cK X v bs){e:Int}(hd:nA bs= .error e):SP 9 [agg (mf cf),v] [X,.mem H] (K6 X H ⟨#[110,111,110,101,10]⟩):=by
 refine Enzz λW F w hS=>?_;apply X0;delta aI aW ai bc;refine zx hS λcb w hS=>?_;refine Cc (Zo X H v bs hv) ?_;clear hS;rintro r post hq w hS;unfold sx at hq;rw[hd]at hq
 obtain⟨he,H1,bX,rfl,rfl⟩:=hq;(try simp only[app]at hS);refine Gp ?_
 refine Cc (Yw H1 hc) ?_;clear hS;rintro _ post ⟨p,H2,cF,rfl,rfl⟩ w hS;(try simp only[app]at hS);refine Gp ?_
 refine za (λ_=>?_) (λh=>absurd he h);exact⟨_,⟨rfl,H2,a_.le_trans bX cF,rfl⟩,aR hS⟩
def y4{cf:cX}{kc:cT}{n:Nat}(hc:CC cf kc n)(X:Μ)(H:a_)(v:Ε)(bs:Φ)(hv:cK X v bs){l:List cx}(hd:nA bs= .ok l)(ok:GG H cf kc n l)(hl:l.length<=1000):SP 9 [agg (mf cf),v] [X,.mem H] (K6 X H (vK cf kc n l)):=by
 refine Enzz λW F w hS=>?_;apply X0;delta aI aW ai bc;refine zx hS λcb w hS=>?_;refine Cc (Zo X H v bs hv) ?_;clear hS;rintro r post hq w hS;unfold sx at hq;rw[hd]at hq
 obtain⟨lv,H1,bX,rfl,hR,rfl⟩:=hq;(try simp only[app]at hS);refine Gp ?_
 refine Cc (Yw H1 hc) ?_;clear hS;rintro _ post ⟨p,H2,cF,rfl,rfl⟩ w hS;try simp only[app]at hS
 obtain⟨xs,iL,mW,rX⟩:=hR;refine Gp ?_;refine Χ ?_;refine Gp ?_;refine Χ ?_;refine zn mW ?_;refine⟨λus w=>∃(i:Nat) (H3:a_) (q:iO),us=[.string (fO cf kc n (l.take i)).2,Γ i]/\i<=l.length/\H2.le H3/\q.np=p.np/\(fO cf kc n (l.take i)).2.size<=70*i/\SL W (.ob (bF q cf kc H3 (fO cf kc n (l.take i)).1)::X::.mem H3::F) w,
  λus _=>match us with|[_,.int _ i]=>(l.length-i).toNat|_=>0,⟨0,H2,p,rfl,by omega,a_.le_refl _,rfl,zzj _,SL.bo hS (t:=.ob (bF p cf kc H2 (xZ cf n))::X::.mem H2::F) Xi⟩,?_⟩
 clear hS;rintro _ _ w ⟨i,H3,q,bM,hi,dG,hq,hz,hS⟩;cases bM;rw[<- hq];refine bj (λb9=>?_) (λb9=>?_)
 ·have bn:i<l.length:=by omega
  have jc:i<xs.length:=by omega
  have hx:=(rX i bn jc).mono (a_.le_trans cF dG);have hr:=F5 (cf:=cf) (kc:=kc) (n:=n) bn;refine zB hS Xh pG (mW.mono (a_.le_trans cF dG)) (x:=xs[i]) (by simp[jc]) bn ?_;refine Gm λb w hS=>?_;refine zr (vs:=dF xs[i]) hS Xu (pG _) rfl (Bc hx) λw hS=>?_;refine zz hS Xh (pG _) ?_;have vi:=ok.step i bn q H3 xs[i] hx;have I7:∀m∈_,oE H m:=ok.told i bn;refine Cc (vi) ?_;clear hS;rintro _ post ⟨rfl,q2,H4,lL,ki,rfl⟩ w hS;try simp only[app]at hS
  generalize fO cf kc n (l.take i)=st at *
  unfold xx at hr;generalize st.1.fM cf kc l[i]=y at *
  obtain⟨c4,⟨te,tl,td⟩⟩:=y;dsimp only at hS hr I7 ⊢;have rT:=Ju I7;refine Gm λb w hS=>?_;refine Gm λb w hS=>?_;refine Cg (bnn H4 b te tl td 2 λm hm=>(I7 m hm).mono (a_.le_trans bX (a_.le_trans cF (a_.le_trans dG lL)))) λw hS=>?_;refine A8 (by simp at rT;omega) ?_;refine Gp ?_;refine⟨⟨i+1,H4,q2,by rw[hr],by omega,a_.le_trans dG lL,ki,?_,?_⟩,by dsimp only;omega⟩
  ·rw[hr];dsimp only;rw[xxn];simp at rT;omega
  rw[hr];exact aR hS
 have gh:i=l.length:=by omega
 subst gh;rw[zz0]at hS hz ⊢
 have TV:=ok.lk;have rT:=Ju TV;have E7:=ok.look q H3;refine Cc (E7) ?_;clear hS;rintro _ post ⟨rfl,H4,lL,rfl⟩ w hS;try simp only[app]at hS
 have wZ:vK cf kc n l=(fO cf kc n l).2++pj [((fO cf kc n l).1.look kc).aw,((fO cf kc n l).1.look kc).head,((fO cf kc n l).1.look kc).low,((fO cf kc n l).1.look kc).clock]:=rfl;rw[wZ];generalize (fO cf kc n l).1.look kc=lk at *
 unfold HF;refine Gm λb w hS=>?_;refine Gm λb w hS=>?_;refine Cg (bno H4 b lk.aw lk.head lk.low lk.clock 2 λm hm=>(TV m hm).mono (a_.le_trans bX (a_.le_trans cF (a_.le_trans dG lL)))) λw hS=>?_;refine A8 (by simp at rT;omega) ?_;exact⟨_,⟨rfl,H4,a_.le_trans bX (a_.le_trans cF (a_.le_trans dG lL)),rfl⟩,aR hS⟩
section
variable {cf:cX} {kc:cT} {n j:Nat} {AL:List bD} {c:bq}
def fX(x:Int):Prop:=0<=x/\x<=9
def HQ(d:DS)(f:Int):fX (d.find f):=by unfold fX DS.find may;grind
def aW5(d:DS):fX d.bG.err:=by unfold fX DS.err;grind
def a_o(d:DS)(f k:Int):fX (d.cut f k).2:=by
 have:=HQ d f;unfold fX DS.cut at *
 grind
theorem aIi(d:DS)(f:Int)(b:Φ):fX (d.append f b).2:=by
 have:=aW5 d;unfold fX DS.append may at *
 grind
theorem bAd(d:DS)(f:Int):fX (d.sync f).2:=by
 have:=HQ d f;unfold fX DS.sync at *
 grind
def bwi(d:DS)(f:Int):fX (d.remove f).2:=by
 have:=HQ d f;unfold fX DS.remove at *
 grind
def Bl:fX 0:=by unfold fX;omega
theorem XE:∀(L:List b6) (d:DS) (x:Int),fX (gm L d x).2
 | [],d,x=>Bl
 | [_],d,x=>Bl
 | s::t::r,d,x=>by
  have h1:=bwi d s.file;have h2:=XE (t::r) (d.remove s.file).1 x;have:=Bl;unfold gm
  grind
def bBq(k:bQ)(x:Int):fX (k.gB x).2:=by
 have hd:∀d f b,fX (jq d f b).2:=λd f b=>by
  have h1:=a_o d f 0;have h2:=Bl;unfold jq
  grind [aIi,bAd]
 have hs:fX (k.ia).2:=by
  have h2:=Bl;unfold bQ.ia
  grind
 have h1:fX 1:=by unfold fX;omega
 have h8:fX 8:=by unfold fX;omega
 have h0:=Bl;have ht:∀g d n,fX (gl g d n).2:=λg d n=>by
  unfold gl
  grind [XE]
 unfold bQ.gB
 grind
def bcn(h:CS cf kc n j AL c)(hc:CC cf kc n)(hj:j<=190)(s:cx):∀m∈[(c.fM cf kc s).2.err,(c.fM cf kc s).2.aw,(c.fM cf kc s).2.il],0<=m/\m<=1000:=by
 have z:∀{e l d:Int},fX e->(0<=l/\l<=1000)->fX d->∀m∈[e,l,d],0<=m/\m<=1000:=λhe hl hd m hm=>by
  unfold fX at he hd;simp only[yya,yy5,vvb]at hm;omega
 have f0:fX 0:=by unfold fX;omega
 have f1:fX 1:=by unfold fX;omega
 have f7:fX 7:=by unfold fX;omega
 have f8:fX 8:=by unfold fX;omega
 have l0:(0:Int)<=0/\(0:Int)<=1000:=by omega
 by_cases hk:s.kind=8
 ·rw[R_ hk];exact z f0 l0 f0
 by_cases ho:c.s.k.d.off=true
 ·rw[bcm s ho hk];exact z f8 l0 f0
 have ha:=h.on (by simpa using ho);unfold bq.fM;rw[zzb (λh=>ho h.1)];split
 ·have oZ:AL.length<=j:=by obtain⟨_,_,_,_,_,hb,_⟩:=ha;exact hb.al
  rcases ha.ny hc hj s with ⟨x,_,e⟩|⟨_,e⟩|e
  ·rw[e];exact z f0 (by show (0:Int)<=(AL.length:Int)+1/\(AL.length:Int)+1<=1000;omega) f0
  ·rw[e];exact z f8 l0 f0
  unfold bq.ny;rcases e with e|e
  ·rw[e];exact z f1 l0 f0
  rw[e];exact z f7 l0 f0
 split
 ·by_cases hn:s.n<0\/5<=s.n
  ·unfold bq.pick;rw[zzc hn];exact z f1 l0 f0
  rcases ha.br7 hc hj (comp:=s.n) (by omega) (by omega) with ⟨_,e⟩|⟨_,⟨il,e,hf⟩|e⟩
  ·rw[e];exact z f0 l0 f0
  ·rw[e];exact z f0 l0 (show fX il by unfold HS at hf;unfold fX;omega)
  rw[e];exact z f8 l0 f0
 refine z ?_ l0 f0;unfold bq.other;split
 ·unfold bq.fault;repeat' split
  all_goals (first|exact f0|exact f1|exact f7)
 split
 ·unfold bq.tick;repeat' split
  all_goals (first|exact f0|exact f1|exact f7)
 split
 ·unfold bq.drawn;repeat' split
  all_goals (first|exact f0|exact f1|exact f7)
 split
 ·exact bBq _ _
 split
 ·unfold bq.wa;repeat' split
  all_goals (first|exact f0|exact f1)
 exact f1
def bn4(h:CS cf kc n j AL c)(hc:CC cf kc n)(hj:j<=190):∀m∈[(c.look kc).aw,(c.look kc).head,(c.look kc).low,(c.look kc).clock],0<=m/\m<=9223372036854775807:=by
 obtain⟨xs,hb⟩:=h.nu;have h1:=Kd hb.run (by have:=hb.xl;omega);have h2:=sW hb.sg.ok.bf;have h3:=hb.now;have h4:0<=dH c.k.g.bf/\dH c.k.g.bf<=1099511627776:=by
  have:=hb.sg.ok.bf;unfold dH;split
  ·omega
  rename_i s _ e;have:=this s (by rw[e];exact .head _);have a:=this.n0;have b:=this.n1;omega
 have h5:0<=c.s.k.aw/\c.s.k.aw<=1099511627776:=⟨h1.l0,h1.l1⟩;have hv:=vD j;have h6:(c.look kc).aw=c.s.k.aw/\(c.look kc).head=bH c.k.g.bf/\(c.look kc).low=dH c.k.g.bf/\(c.look kc).clock=c.now:=⟨rfl,rfl,rfl,rfl⟩;intro m hm;simp only[yya,yy5,vvb]at hm;omega
def Dp(hc:CC cf kc n)(l:List cx)(hl:l.length<=100):∀i,i<=l.length->∃AL,CS cf kc n i AL (fO cf kc n (l.take i)).1
 | 0,_=>⟨[],.inl (dJ.first (kc:=kc) hc).2.2⟩
 | i+1,hi=>by
  obtain⟨AL,h⟩:=Dp hc l hl i (by omega);rw[F5 (by omega)];obtain⟨dO,h',_⟩:=h.fM hc (by omega) l[i];exact⟨dO,h'⟩
def Dq{H:a_}(hp:tj H)(hc:CC cf kc n)(l:List cx)(hl:l.length<=100)(hs:∀s∈l,s.l.length<=140737488351232):GG H cf kc n l where
 step:=λi h p H x hx=>by
  obtain⟨AL,gU⟩:=Dp hc l hl i (by omega);exact Qo p cf kc H _ gU hc (by omega) x l[i] hx (hs _ (zzk h))
 told:=λi h m hm=>by
  obtain⟨AL,gU⟩:=Dp hc l hl i (by omega);have:=bcn gU hc (by omega) l[i] m hm;exact⟨this.1,.inr ⟨by omega,hp⟩⟩
 look:=λp H=>by
  obtain⟨AL,gU⟩:=Dp hc l hl l.length (zzj _);rw[zz0]at gU
  obtain⟨xs,hb⟩:=gU.nu;have hv:=vD l.length;exact Ql p cf kc H _ hb.sg (by omega) hb.wt.room (by have:=hb.mx.bz.len;omega)
 lk:=λm hm=>by
  obtain⟨AL,gU⟩:=Dp hc l hl l.length (zzj _);rw[zz0]at gU
  have:=bn4 gU hc (by omega) m hm;exact⟨this.1,.inr ⟨this.2,hp⟩⟩
def bl(s:Η):Φ:=s.data.toList
def uR(a b:Η):bl (a++b)=bl a++bl b:=by unfold bl;rw[ByteArray.data_append,Array.toList_append]
def aRq(a:Η):(bl a).length=a.size:=rfl
def bcb:∀u,∀b∈Lib.decDigits u,b≠10:=by
 intro u;induction u using Nat.strongRecOn with
 | _ u ih=>
  have one:∀k,k<10->UInt8.ofNat (48+k)≠10:=λk hk h=>by
   have:=yyp UInt8.toNat h;rw[uur,show (10:Κ).toNat=10 from rfl]at this
   omega
  rw[Lib.decDigits];split
  ·rename_i h;intro b hb;rw[zz8.1 hb];exact one u h
  intro b hb;rcases zz4.1 hb with hb|hb
  ·exact ih _ (by omega) b hb
  rw[zz8.1 hb];exact one _ (by omega)
def R6(x:Int):(bl (mP x)).count 10=0:=List.count_eq_zero.2 λh=>bcb _ _ h rfl
def bns:∀l:Ω,(bl (sc l)).count 10=0
 | []=>rfl
 | x::r=>by
  have g:∀(r:Ω) (s:Η),(bl s).count 10=0->(bl (r.foldl (λs x=>s++(⟨#[32]⟩:Η)++mP x) s)).count 10=0:=by
   intro r;induction r with
   | nil=>intro s h;exact h
   | cons x r ih=>
    intro s h;refine ih _ ?_;rw[uR,uR,wwy,wwy,h,R6];rfl
  refine g r _ ?_;rw[uR,wwy,R6];rfl
def bnp(l:Ω):bl (pj l)=bl (sc l)++[10]:=by unfold pj;rw[uR];rfl
def front(cf:cX)(kc:cT)(n:Nat)(l:List cx):Φ:=bl (fO cf kc n l).2
def bfy(l:List cx)(y:bq × Η):∃r,bl (l.foldl (xx cf kc) y).2=bl y.2++r:=by
 induction l generalizing y with
 | nil=>exact⟨[],by simp⟩
 | cons x l ih=>
  obtain⟨r,e⟩:=ih (xx cf kc y x);refine⟨_,(by rw[xxo,e,show (xx cf kc y x).2=y.2++_ from rfl,uR,zzg]:bl (List.foldl (xx cf kc) y (x::l)).2=_)⟩
def SN(l:List cx)(k:Nat):∃r,bl (vK cf kc n l)=front cf kc n (l.take k)++r:=by
 obtain⟨r,e⟩:=bfy (cf:=cf) (kc:=kc) (l.drop k) (fO cf kc n (l.take k));have e2:bl (fO cf kc n l).2=front cf kc n (l.take k)++r:=by
  unfold front;rw[<- e];unfold fO;rw[<- wwe,yyf]
 exact⟨r++bl (Vg kc (fO cf kc n l).1),by unfold vK;rw[uR,e2,zzg]⟩
def SM{H:a_}{l:List cx}(ok:GG H cf kc n l):∀k,k<=l.length->(front cf kc n (l.take k)).length<=70*k
 | 0,_=>zzj _
 | k+1,hk=>by
  have h1:=SM ok k (by omega);have h2:=Ju (ok.told k (by omega));unfold front at *
  rw[F5 (by omega)];show (bl ((fO cf kc n (l.take k)).2++pj _)).length<=_;rw[uR,zza,aRq (pj _)];simp at h2;omega
def SK(l:List cx):∀k,k<=l.length->(front cf kc n (l.take k)).count 10=k/\∀m,m<(front cf kc n (l.take k)).length->((front cf kc n (l.take k)).take m).count 10<k
 | 0,_=>⟨rfl,λm h=>absurd h (uum m)⟩
 | k+1,hk=>by
  obtain⟨h1,_⟩:=SK l k (by omega);have e:∃q,front cf kc n (l.take (k+1))=front cf kc n (l.take k)++q++[10]/\q.count 10=0:=by
   unfold front;rw[F5 (by omega)];refine⟨bl (sc [((fO cf kc n (l.take k)).1.fM cf kc l[k]).2.err,((fO cf kc n (l.take k)).1.fM cf kc l[k]).2.aw,((fO cf kc n (l.take k)).1.fM cf kc l[k]).2.il]),?_,bns _⟩;show bl ((fO cf kc n (l.take k)).2++pj _)=_;rw[uR,bnp,<- zzg]
  obtain⟨q,e,hq⟩:=e;rw[e];refine⟨by rw[wwy,wwy,h1,hq];rfl,λm hm=>?_⟩;rw[zza,yyb]at hm
  rw[yy4 (by omega)];have h2:(front cf kc n (l.take k)++q).count 10=k:=by rw[wwy,h1,hq];rfl
  have h3:=List.Sublist.count_le (10:Κ) (List.take_sublist m (front cf kc n (l.take k)++q));omega
end
def Ys(H:a_)(x:gr)(s:cx)(hx:gH H x s)(ht:c_ ⟨1,1,s.l,s.sg,0⟩=true):SP 26 [agg (dF x)] [.mem H] (λu post=>post=[gD u (tH s),.mem H]):=by
 refine Enzz λW F w hS=>?_;apply bGi;delta aI aW bg ai bK;have hb:=kr ht;have Cm:s.l.length<=16:=hb.2.2.2.1;have o0:s.sg.length<=2:=hb.2.2.2.2.1;clear hb;refine zx hS λxb w hS=>?_;unfold dF at hS;rw[hx.kind,hx.n,hx.ft]at hS
 have hS:SL W (uL xb x s::_) _:=hS;refine Gp ?_;refine zn hx.sv ?_;refine Gm λb w hS=>?_;refine Cc (rY b s.sg.length 2) ?_;clear hS;rintro u post rfl w hS;(try simp only[app]at hS);refine Gp ?_
 refine zn hx.sv ?_;have hS:SL W (gD u (pI s 0)::_) _:=hS;refine⟨λvs w=>∃(i:Nat) (u:Ε),vs=[u,Γ i]/\i<=s.sg.length/\SL W (gD u (pI s i)::uL xb x s::.mem H::F) w,
  λvs _=>match vs with|[_,.int _ i]=>(s.sg.length-i).toNat|_=>0,⟨0,_,rfl,by omega,aR hS⟩,?_⟩
 clear hS;rintro u v3 w ⟨i,_,dq,hi,hS⟩;cases dq;have oe:=Sp s i;refine bj (λh=>?_) (λh=>?_)
 ·have bn:i<s.sg.length:=by omega
  have hs:=bds bn;refine yA hS Xh hx.sv bn (u:=.string s.sg[i]) (by simp[bn]) ?_;refine Cg (yj s.sg[i]) λw hS=>?_;refine Gm λb w hS=>?_;refine zE (L:=pI s i) (M:=[tF s.sg[i]]) hS Xr (Ba hS Xh) (by simp;omega) λu4 w hS=>?_;refine Gp ?_;refine⟨⟨i+1,_,rfl,by omega,?_⟩,by dsimp only;omega⟩;rw[hs];exact aR hS
 have gh:i=s.sg.length:=by omega
 subst gh;refine Gp ?_;refine zn hx.cv ?_;refine Gm λb w hS=>?_;refine Cc (rY b s.l.length 2) ?_;clear hS;rintro u2 post rfl w hS;try simp only[app]at hS
 refine zE (L:=pI s s.sg.length) hS Xr (jh hS Xh) (by simp;omega) λu3 w hS=>?_;refine Gp ?_;refine zn hx.cv ?_;refine⟨λvs w=>∃(i:Nat) (u:Ε),vs=[u,Γ i]/\i<=s.l.length/\SL W (gD u (pJ s i)::uL xb x s::.mem H::F) w,
  λvs _=>match vs with|[_,.int _ i]=>(s.l.length-i).toNat|_=>0,⟨0,u3,rfl,by omega,?_⟩,?_⟩
 ·rw[show pJ s 0=pI s s.sg.length++[iF s.l.length] by unfold pJ;simp];exact aR hS
 clear hS;rintro u v3 w ⟨i,_,dq,hi,hS⟩;cases dq;have Ak:=HK s i;refine bj (λh=>?_) (λh=>?_)
 ·have bn:i<s.l.length:=by omega
  have hs:=bdt bn;refine zB hS Xh pF hx.cv (x:=s.l[i]) (by simp[bn]) bn ?_;generalize s.l[i]=o at *
  obtain⟨ot,ok,og,ov⟩:=o;refine Gm λb w hS=>?_;unfold eM at hS;refine Cg (y2 og) λw hS=>?_;refine Gm λb w hS=>?_;refine Cc (US b ot ok (fV og) 2) ?_;clear hS;rintro u2 post rfl w hS;try simp only[app]at hS
  refine zE (L:=pJ s i) hS Xr (jh hS Xh) (by simp;omega) λu3 w hS=>?_;refine Gp ?_;refine Cg (yj ov) λw hS=>?_;refine Gm λb w hS=>?_;refine zE (M:=[tF ov]) hS Xr (Ba hS Xh) (by simp;omega) λu4 w hS=>?_;refine Gp ?_;refine⟨⟨i+1,_,rfl,by omega,?_⟩,by dsimp only;omega⟩;rw[hs];simp only[zzg]at hS;have hS:SL W (gD _ (pJ s i++jr ⟨ot,ok,og,ov⟩)::_) _:=hS;exact aR hS
 have gh:i=s.l.length:=by omega
 subst gh;rw[HJ]at hS
 exact⟨_,rfl,aR hS⟩
def Q6(H:a_)(x:gr)(s:cx)(hx:gH H x s)(hm:ix s=true):SP 14 [agg (dF x)] [.mem H] (λu post=>post=[gD u (jE s),.mem H]):=by
 refine Enzz λW F w hS=>?_;apply bDd;delta aI aW ai bK;obtain⟨⟨_,_,_,_,_,_,_,_,bLm⟩,ht,_⟩:=s8.1 hm;have hb:=kr ht;have Cm:s.l.length<=16:=hb.2.2.2.1;have o0:s.sg.length<=2:=hb.2.2.2.2.1;clear hb;have ka:(tH s).length<=68:=by
  have:=HK s s.l.length;rw[HJ]at this;omega
 refine zx hS λxb w hS=>?_;have kH:gH H ⟨s.kind,s.n,x.sv,x.cv,s.ft,x.kv⟩ s:=⟨rfl,rfl,rfl,hx.sv,hx.cv,hx.kv⟩;unfold dF at hS;rw[hx.kind,hx.n,hx.ft]at hS
 refine Gm λb w hS=>?_;refine Cc (rY b s.kind 2) ?_;clear hS;rintro u post rfl w hS;(try simp only[app]at hS);refine bj (λk1=>?_) (λk1=>?_)
 ·have e:jE s=[iF s.kind]++tH s:=by unfold jE sL;rw[zzc k1]
  refine Gp ?_;refine Cc (Ys H ⟨s.kind,s.n,x.sv,x.cv,s.ft,x.kv⟩ s kH ht) ?_;clear hS;rintro u2 post rfl w hS;try simp only[app]at hS
  refine zE (L:=[iF s.kind]) hS Xr (jh hS Xh) (by simp;omega) λu3 w hS=>?_;rw[e];exact⟨_,rfl,aR hS⟩
 refine bj (λk3=>?_) (λk3=>?_)
 ·have e:jE s=[iF s.kind]++[iF s.ft.kind,iF s.ft.keep]:=by unfold jE sL;rw[zzb k1,zzc k3]
  refine Gm λb w hS=>?_;refine Cc (Jk b s.ft.kind s.ft.keep 2) ?_;clear hS;rintro u2 post rfl w hS;try simp only[app]at hS
  refine zE (L:=[iF s.kind]) hS Xr (jh hS Xh) (by simp) λu3 w hS=>?_;rw[e];exact⟨_,rfl,aR hS⟩
 refine bj (λk6=>?_) (λk6=>?_)
 ·have e:jE s=[iF s.kind]:=by unfold jE sL;rw[zzb k1,zzb k3,zzc k6];rfl
  rw[e];exact⟨_,rfl,aR hS⟩
 refine bj (λk8=>?_) (λk8=>?_)
 ·have e:jE s=rJ s s.keep.length:=by unfold jE sL rJ;rw[zzb k1,zzb k3,zzb k6,zzc k8,zz0,zzg]
  refine Gp ?_;refine zn hx.kv ?_;refine Gm λb w hS=>?_;refine Cc (rY b s.keep.length 2) ?_;clear hS;rintro u2 post rfl w hS;try simp only[app]at hS
  refine zE (L:=[iF s.kind]) hS Xr (jh hS Xh) (by simp) λu3 w hS=>?_;refine Gp ?_;refine zn hx.kv ?_;refine⟨λvs w=>∃(i:Nat) (u:Ε),vs=[u,Γ i]/\i<=s.keep.length/\SL W (gD u (rJ s i)::uL xb x s::.mem H::F) w,
   λvs _=>match vs with|[_,.int _ i]=>(s.keep.length-i).toNat|_=>0,⟨0,u3,rfl,by omega,?_⟩,?_⟩
  ·rw[show rJ s 0=[iF s.kind]++[iF s.keep.length] by unfold rJ;simp];exact aR hS
  clear hS;rintro u v3 w ⟨i,_,dq,hi,hS⟩;cases dq;have Ak:=bdy s i;refine bj (λh=>?_) (λh=>?_)
  ·have bn:i<s.keep.length:=by omega
   have hs:=bdz bn;refine yA hS Xh hx.kv bn (u:=Γ s.keep[i]) (by simp[bn]) ?_;refine Gm λb w hS=>?_;refine Cc (rY b s.keep[i] 2) ?_;clear hS;rintro u4 post rfl w hS;try simp only[app]at hS
   refine zE (L:=rJ s i) hS Xr (jh hS Xh) (by simp;omega) λu5 w hS=>?_;refine Gp ?_;refine⟨⟨i+1,_,rfl,by omega,?_⟩,by dsimp only;omega⟩;rw[hs];exact aR hS
  have gh:i=s.keep.length:=by omega
  rw[e,<- gh];exact⟨_,rfl,aR hS⟩
 have e:jE s=[iF s.kind]++[iF s.n]:=by unfold jE sL;rw[zzb k1,zzb k3,zzb k6,zzb k8]
 refine Gm λb w hS=>?_;refine Cc (rY b s.n 2) ?_;clear hS;rintro u2 post rfl w hS;try simp only[app]at hS
 refine zE (L:=[iF s.kind]) hS Xr (jh hS Xh) (by simp) λu3 w hS=>?_;rw[e];exact⟨_,rfl,aR hS⟩
def Bp(H:a_)(l:List cx)(u:Ε)(post:Β):Prop:=match z_ l with
 | .error e=>u= .tuple #[Θ,Γ e]/\post=[.mem H]
 | .ok b=>∃v,u= .tuple #[v,Γ 0]/\post=[.ob (bd v 5 1 b.length (b.map bU)),.mem H]
def yx(H:a_)(v:Ε)(l:List cx)(hv:oK H v l)(hn:∀s∈l,s.keep.length<=140737488351232)(hl:l.length<=140737488351232):SP 7 [v] [.mem H] (Bp H l):=by
 refine Enzz λW F w hS=>?_;apply vc7;delta aI bJ ai bK bc;refine Cg (YR H v l hv hn hl) λw hS=>?_;refine zw (λh=>?_) (λhm=>?_)
 ·exact⟨[.mem H],by unfold Bp z_;rw[zzb (by rw[h];decide)];exact⟨rfl,rfl⟩,aR hS⟩
 obtain⟨pa,tZ⟩:=vA.1 hm;obtain⟨xs,iL,mW,rX⟩:=hv;refine zn mW ?_;refine Gm λb w hS=>?_;refine Cc (rY b l.length 2) ?_;clear hS;rintro u post rfl w hS;try simp only[app]at hS
 refine zn mW ?_;have hS:SL W (gD u (oS l 0)::_) _:=hS;refine⟨λvs w=>∃(i:Nat) (u:Ε),vs=[u,Γ i]/\i<=l.length/\SL W (gD u (oS l i)::.mem H::F) w,
  λvs _=>match vs with|[_,.int _ i]=>(l.length-i).toNat|_=>0,⟨0,_,rfl,by omega,aR hS⟩,?_⟩
 clear hS;rintro u v3 w ⟨i,_,dq,hi,hS⟩;cases dq;have oe:=Ss pa i;refine bj (λh=>?_) (λh=>?_)
 ·have bn:i<l.length:=by omega
  have jc:i<xs.length:=by omega
  have hs:=Su bn;have hx:=rX i bn jc;have Uo:=pa _ (zzk bn);have lO:=Sy Uo;refine zB hS Xh pG mW (x:=xs[i]) (by simp[jc]) bn ?_;refine Gm λb w hS=>?_;refine zr (vs:=dF xs[i]) hS Xu (pG _) rfl (Bc hx) λw hS=>?_;refine zz hS Xh (pG _) ?_;refine Cc (Q6 H xs[i] l[i] hx Uo) ?_;clear hS;rintro u2 post rfl w hS;try simp only[app]at hS
  refine zE (L:=oS l i) hS Xr (jh hS Xh) (by omega) λu3 w hS=>?_;refine Gp ?_;refine⟨⟨i+1,_,rfl,by omega,?_⟩,by dsimp only;omega⟩;rw[hs];exact aR hS
 have gh:i=l.length:=by omega
 subst gh;rw[Sr]at hS oe
 refine Cc (yr (gD u (pL l)) u (pL l) px.own (by omega)) ?_;clear hS;rintro r post hq w hS;try simp only[app]at hS
 unfold pq at hq;unfold Bp z_;rw[zzc hm];cases he:lJ (pL l) with
 | error e=>
  rw[he]at hq
  obtain⟨rfl,rfl⟩:=hq;refine Gp ?_;exact bw hS
 | ok bs=>
  rw[he]at hq
  obtain⟨v,rfl,rfl⟩:=hq;refine Gp ?_;exact⟨_,⟨v,rfl,rfl⟩,aR hS⟩
abbrev Hl:cX:=⟨1,0,64,1,1,1,1,1,0,1⟩
abbrev Jo:cT:=⟨1,1,1,1,0⟩
def BS:CC Hl Jo 1:=⟨by decide,by decide,rfl,by decide,by decide,by decide,by decide,rfl,by decide,by decide,by decide,by decide,rfl,by decide,by decide,rfl,rfl,rfl,by decide,by decide,by decide⟩
def Bd:cx:=⟨4,7,[],[],fH,[]⟩
def BY(s:Η)(n:Nat):Η:=s.extract 0 (min s.size n)
def qn(s:Η)(n:Nat):SP 97 [.string s,Γ n] [] (bA (.string (BY s n)) []):=by
 refine Enzz λW F w hS=>?_;apply bJ4;refine Gp ?_;rw[show min (s.size:Int) (n:Int)=((min s.size n:Nat):Int) by omega];refine⟨s,0,min s.size n,rfl,⟨.i64,rfl⟩,rfl,zz6 _,Nat.min_le_left _ _,?_⟩;(exact bw hS)
def fW(c:da)(k:Nat):da:=⟨md c.table k,if md c.key 31=30 then ((1+md c.key 1099511627776:Nat):Int) else ((1+md c.key 12:Nat):Int),c.gone,if c.gone then ⟨#[]⟩ else BY c.val 32⟩
def qi(c:da)(k:Nat)(h1:0<k)(h2:k<=8):SP 58 [agg (eM c),Γ k] [] (bA (agg (eM (fW c k))) []):=by
 refine Enzz λW F w hS=>?_;apply bI0;delta aI aW bg bJ G7 ai bK;obtain⟨table,key,gone,val⟩:=c;refine⟨_,rfl,zD hS ?_⟩;clear hS;intro p w hS;refine zD hS ?_;clear hS;intro q w hS;simp only[eM]at hS;have bL0:=fy key 12 (by decide);have hmb:=fy key 1099511627776 (by decide);have II:(1:Int)+(md key 12:Int)=((1+md key 12:Nat):Int):=by omega
 have hmf:(1:Int)+(md key 1099511627776:Int)=((1+md key 1099511627776:Nat):Int):=by omega
 refine⟨λus w=>∃x:Nat,us=[Δ x]/\SL W (.pt x [Γ (md table k:Nat),Γ ((1+md key 12:Nat):Int),.bool gone,.string ⟨#[]⟩] 118::.pt q [Γ 0,Γ 0,.bool false,.string ⟨#[]⟩] 118::.pt p [Γ table,Γ key,.bool gone,.string val] 118::F) w,?_,?_⟩
 ·refine yl hS ?_;clear hS;intro w hS;refine Gp ?_;refine⟨?_,?_⟩
  ·refine Cg (yc table k h1 (by omega)) λw hS=>?_;refine⟨?_,?_⟩
   ·refine Cg (zP key 12 (by decide) (by decide)) λw hS=>?_;refine Gm λb w hS=>?_;rw[II]at hS
    exact⟨_,rfl,aR hS⟩
   refine Gm λb w hS=>?_;refine Cg (zP key 12 (by decide) (by decide)) λw hS=>?_;rw[II]at hS
   exact⟨_,rfl,aR hS⟩
  refine Gm λb w hS=>?_;refine Cg (yc table k h1 (by omega)) λw hS=>?_;refine Cg (zP key 12 (by decide) (by decide)) λw hS=>?_;rw[II]at hS
  exact⟨_,rfl,aR hS⟩
 clear hS;rintro v5 w ⟨x,bM,hS⟩;cases bM;refine⟨λus w=>us=[]/\SL W (.pt x [Γ (md table k:Nat),Γ (fW ⟨table,key,gone,val⟩ k).key,.bool gone,.string ⟨#[]⟩] 118::.pt q [Γ 0,Γ 0,.bool false,.string ⟨#[]⟩] 118::.pt p [Γ table,Γ key,.bool gone,.string val] 118::F) w,?_,?_⟩
 ·refine Gp ?_;refine Cg (zP key 31 (by decide) (by decide)) λw hS=>?_;refine za (λh=>?_) (λh=>?_)
  ·have hk:(fW ⟨table,key,gone,val⟩ k).key=((1+md key 1099511627776:Nat):Int):=by unfold fW;simp only;rw[zzc (by omega)]
   rw[hk];refine Gp ?_;refine Cg (zP key 1099511627776 (by decide) (by decide)) λw hS=>?_;rw[hmf]at hS
   exact aR hS
  have hk:(fW ⟨table,key,gone,val⟩ k).key=((1+md key 12:Nat):Int):=by unfold fW;simp only;rw[zzb (by omega)]
  rw[hk];exact⟨rfl,aR hS⟩
 clear hS;rintro w ⟨-,hS⟩;refine Gp ?_;cases gone with
 | true=>
  refine zq ?_;refine Gn λw hS=>?_;have e:eM (fW ⟨table,key,true,val⟩ k)=[Γ (md table k:Nat),Γ (fW ⟨table,key,true,val⟩ k).key,.bool true,.string ⟨#[]⟩]:=rfl;rw[e];(exact bw hS)
 | false=>
  refine zu ?_;refine Gp ?_;refine Cg (qn val 32) λw hS=>?_;have e:eM (fW ⟨table,key,false,val⟩ k)=[Γ (md table k:Nat),Γ (fW ⟨table,key,false,val⟩ k).key,.bool false,.string (BY val 32)]:=rfl;rw[e];(exact bw hS)
def bfk(c:da)(z:Ξ)(hz:z.length=4):gT (bE z 1) [(0,4,agg (eM c))]=some (eM c):=by
 simp[gT,bE,Value.cells,eM,hz]
def Yo(H:a_)(v:Ε)(l:List da)(k bI:Nat)(hv:cn H 4 v l.length (l.map eM).flatten)(h1:0<k)(h2:k<=8)(hm:bI<=1000)(hn:l.length<=140737488351232):
  SP 21 [v,Γ k,Γ bI] [.mem H] (λu post=>post=[.ob (bd u 118 4 ((l.take bI).map (fW · k)).length (((l.take bI).map (fW · k)).map eM).flatten),.mem H]):=by
 refine Enzz λW F w hS=>?_;apply bFa;delta aI ai bK bc;refine⟨λus w=>∃(m:Nat) (u:Ε),us=[u,Γ m]/\m<=l.length/\m<=bI/\SL W (.ob (bd u 118 4 m ((((l.take m).map (fW · k)).map eM).flatten))::.mem H::F) w,
  λus _=>match us with|[_,.int _ m]=>(l.length-m).toNat|_=>0,⟨0,_,rfl,by omega,by omega,bd.nil hS⟩,?_⟩
 clear hS;rintro v7 v8 w ⟨m,u,bM,mU,ub,hS⟩;cases bM;have e_:∀w,(m=l.length\/m=bI)->SL W (.ob (bd v7 118 4 m ((((l.take m).map (fW · k)).map eM).flatten))::.mem H::F) w ->
   ∃post,(post=[.ob (bd v7 118 4 ((l.take bI).map (fW · k)).length (((l.take bI).map (fW · k)).map eM).flatten),.mem H])/\SL W (app post F) w:=λw he hS=>by
  have ht:l.take m=l.take bI:=by
   rcases he with rfl|rfl
   ·rw[zz0,zzz (by omega)]
   rfl
  have hl:m=((l.take bI).map (fW · k)).length:=by rw[<- ht,zzv,zzf];omega
  rw[ht,hl]at hS
  exact⟨_,rfl,hS⟩
 refine zn hv ?_;refine Gp ?_;refine za (λh=>?_) (λh=>e_ w (.inl (by omega)) hS);refine Gp ?_;refine za (λh3=>?_) (λh3=>e_ w (.inr (by omega)) hS);have bn:m<l.length:=by omega
 refine zB hS Xh pF hv (x:=l[m]) (by simp[bn]) bn ?_;refine Cc (qi l[m] k h1 h2) ?_;clear hS;rintro v26 post ⟨rfl,rfl⟩ w hS;try simp only[app]at hS
 refine zR hS (bfk (fW l[m] k) [Γ 0,Γ 0,.bool false,.string ⟨#[]⟩] rfl) ?_;clear hS;intro b w hS;refine zL (n:=m) (m:=1) hS Xr (jx (cs:=eM (fW l[m] k)) hS .hd rfl) rfl rfl (HB _) (by omega) (by omega) ?_;clear hS;intro u' w hS;refine Gp ?_;have e:(l.take (m+1)).map (fW · k)=(l.take m).map (fW · k)++[fW l[m] k]:=by rw[zze bn,zzr];rfl
 refine⟨⟨m+1,u',rfl,(by omega),(by omega),(by rw[e,u0];exact aR hS)⟩,(by dsimp only;omega)⟩
def YU(H:a_)(v:Ε)(l:List da)(k bI:Nat)(hv:cn H 4 v l.length (l.map eM).flatten)(h1:0<k)(h2:k<=8)(hm:bI<=1000)(hn:l.length<=140737488351232):
  SP 21 [v,Γ k,Γ bI] [.mem H] (λu post=>∃H',H.le H'/\cn H' 4 u ((l.take bI).map (fW · k)).length (((l.take bI).map (fW · k)).map eM).flatten/\post=[.mem H']):=by
 intro W F w hS;refine zJ.mono (Yo H v l k bI hv h1 h2 hm hn W F w hS) ?_;rintro u w ⟨post,rfl,hS⟩;have hS:SL W (_::.mem H::F) w:=hS;obtain⟨H2,cF,hR,hS⟩:=zA (H:=H) (v:=u) hS Xp;exact⟨_,⟨H2,cF,hR,rfl⟩,hS⟩
def bzc(s:Η)(k:Nat)(h1:0<k)(h2:k<=8):SP 59 [.string s,Γ k] [] (λv post=>∃r,v= .string r/\r.size<=40/\post=[]):=by
 refine Enzz λW F w hS=>?_;apply bI1;delta aI ai;refine Gp ?_;refine za (λh=>⟨_,⟨_,rfl,by decide,rfl⟩,hS⟩) (λh=>?_);have fw:0<s.size:=by
  rcases yy8 s.size with h0|h0
  ·refine absurd ?_ h;obtain⟨⟨l⟩⟩:=s;have:l=[]:=zzl h0;subst this;rfl
  exact h0
 refine WX (j:=0) yyz fw ?_;generalize s[0]=b;have hb:b.toNat<256:=b.toNat_lt;generalize b.toNat=n at hb;refine yz (by omega) ?_;refine ZO (by decide) ?_;refine bj (λh3=>?_) (λh3=>?_)
 ·refine Cg (qn s 40) λw hS=>?_;exact⟨_,⟨_,rfl,by unfold BY;rw[ByteArray.size_extract];omega,rfl⟩,hS⟩
 refine WS (by decide) (by rw[ww6 (by omega)];omega) ?_;rw[show (n:Int).tdiv 4=((n / 4:Nat):Int) by rw[ww6 (by omega)];omega];refine QW h1 ?_;have hk:n / 4 % k<8:=Nat.lt_of_lt_of_le (vvc _ h1) h2;refine Gp ?_;refine zT ?_;generalize hx:IntKind.u8.wrap (48+((n / 4 % k:Nat):Int))=x;refine zR hS (cells:=[.int .u8 x]) (by simp[gT,bE,Value.cells]) ?_;clear hS;intro b1 w hS;refine YN hS .hd xxt yyz wwk ?_;generalize hA:(⟨#[UInt8.ofNat x.toNat]⟩:Η)=A;have Ey:A.size=1:=by rw[<- hA];rfl
 refine QT (by rw[Ey];decide) ?_;generalize hB:(⟨#[115,110,97,112,115,104,111,116,32]⟩:Η)++A=B;have S6:B.size<=10:=by rw[<- hB,xxn,Ey];decide
 refine ZO (by decide) ?_;refine Gp ?_;refine za (λh4=>?_) (λh4=>⟨_,⟨_,rfl,by omega,rfl⟩,aR hS⟩);refine QT (yy1 (uuk S6 _) (by decide)) ?_;generalize hC:B++(⟨#[32]⟩:Η)=C;have hCs:C.size<=11:=by rw[<- hC,xxn];exact uuk S6 _
 refine WS (by decide) (by rw[ww6 (by omega)];omega) ?_;rw[show (n:Int).tdiv 16=((n / 16:Nat):Int) by rw[ww6 (by omega)];omega];refine ZO (by decide) ?_;rw[show ((n / 16:Nat):Int).tmod 8=((n / 16 % 8:Nat):Int) by rw[xx4 (by omega)];omega];refine Gp ?_;refine zT ?_;generalize IntKind.u8.wrap (49+((n / 16 % 8:Nat):Int))=y;refine zR hS (cells:=[.int .u8 y]) (by simp[gT,bE,Value.cells]) ?_;clear hS;intro b2 w hS;refine YN hS .hd xxt yyz wwk ?_;refine QT (yy1 (uuk hCs _) (by show 11+1<=1000000;decide)) ?_;exact⟨_,⟨_,rfl,by rw[xxn];show C.size+1<=40;omega,rfl⟩,aR hS⟩
def bzd(H:a_)(v:Ε)(l:Ψ)(k bI:Nat)(hv:cn H 1 v l.length (l.map Value.string))(h1:0<k)(h2:k<=8)(hm:bI<=1000)(hn:l.length<=140737488351232):
  SP 22 [v,Γ k,Γ bI] [.mem H] (λu post=>∃(H':a_) (rs:Ψ),H.le H'/\rs.length<=bI/\(∀s∈rs,s.size<=40)/\cn H' 1 u rs.length (rs.map Value.string)/\post=[.mem H']):=by
 refine Enzz λW F w hS=>?_;apply bFi;delta aI ai bK bc;refine⟨λus w=>∃(m:Nat) (u:Ε) (rs:Ψ),us=[u,Γ m]/\m<=l.length/\rs.length=m/\m<=bI/\(∀s∈rs,s.size<=40)/\SL W (.ob (bd u 9 1 m (rs.map Value.string))::.mem H::F) w,
  λus _=>match us with|[_,.int _ m]=>(l.length-m).toNat|_=>0,⟨0,_,[],rfl,by omega,rfl,by omega,by simp,bd.nil hS⟩,?_⟩
 clear hS;rintro v7 v8 w ⟨m,u,rs,bM,mU,wZ,ub,Ce,hS⟩;cases bM;have e_:∀w,SL W (.ob (bd v7 9 1 m (rs.map Value.string))::.mem H::F) w ->
   ∃post,(∃(H':a_) (rs:Ψ),H.le H'/\rs.length<=bI/\(∀s∈rs,s.size<=40)/\cn H' 1 v7 rs.length (rs.map Value.string)/\post=[.mem H'])/\SL W (app post F) w:=λw hS=>by
  obtain⟨H2,cF,hR,hS⟩:=zA (H:=H) (v:=v7) hS Xp;rw[<- wZ]at hR
  exact⟨_,⟨H2,rs,cF,by omega,Ce,hR,rfl⟩,hS⟩
 refine zn hv ?_;refine Gp ?_;refine za (λh=>?_) (λh=>e_ w hS);refine Gp ?_;refine za (λh3=>?_) (λh3=>e_ w hS);clear e_;have bn:m<l.length:=by omega
 refine yA hS Xh hv bn (u:=.string l[m]) (by simp[bn]) ?_;refine Cc (bzc l[m] k h1 h2) ?_;clear hS;rintro v26 post ⟨r,rfl,IV,rfl⟩ w hS;refine Gm λb w hS=>?_;refine zL (n:=m) (m:=1) hS Xr (jx (cs:=[.string r]) hS .hd rfl) rfl rfl (by simp[Value.oneCell']) (by omega) (by omega) ?_;clear hS;intro u' w hS;refine Gp ?_;refine⟨⟨m+1,u',rs++[r],rfl,(by omega),(by simp[wZ]),(by omega),(λs hs=>by
  rcases zz4.1 hs with hs|hs
  ·exact Ce s hs
  rw[zz8.1 hs];exact IV),(by rw[zzr,zzp,yy6];exact aR hS)⟩,(by dsimp only;omega)⟩
