/- Part. -/
import Derived.Test.YthohmpdacdmclaaGreatDoorJ17
import Derived.MakeChecks
namespace Go.Proofs.YthohmpdacdmclaaGreatDoor
set_option linter.all false
set_option maxRecDepth 100000
open Go.ChangeShapes Go.WideShapes Go.ChangeAt Go.RowKit Go.Proofs.Tryz
def Rg(s:Η):cU (bl s)=s:=by
 unfold cU bl;simp
def rF0:vK Hl Jo 1 []=⟨#[48,32,48,32,49,32,48,10]⟩:=by decide +kernel
def rF2:vK Hl Jo 1 [Bd,q_ 1]=⟨#[48,32,48,32,48,10,48,32,49,32,48,10,48,32,49,32,49,32,55,10]⟩:=by decide +kernel
def bod:oC [Bd,q_ 1]=true:=by decide +kernel
def Eh{H:a_}{l:List cx}{b:Φ}(e:z_ l= .ok b){u:Ε}{post:Β}(h:Bp H l u post):∃v,u= .tuple #[v,Γ 0]/\post=[.ob (bd v 5 1 b.length (b.map bU)),.mem H]:=by
 unfold Bp at h;rw[e]at h
 exact h
set_option maxHeartbeats 4000000 in
def Yl(H:a_)(hp:tj H):SP 8 [] [.mem H] (λv post=>v= .bool true/\∃H',H.le H'/\post=[.mem H']):=by
 refine Enzz λW F w hS=>?_;apply vc8;delta aI br ai bc gC;obtain⟨b0,e0,d0,_⟩:=F_ (l:=[]) (by decide) (by decide);obtain⟨b2,e2,d2,_⟩:=F_ (l:=[Bd,q_ 1]) bod (by decide);refine Cc (yx H Θ [] ⟨[],rfl,cn.nil H 7,λi h=>absurd h (uum i)⟩ (λ_ h=>by cases h) (by decide)) ?_;clear hS;rintro u post hq w hS;obtain⟨v8,rfl,rfl⟩:=Eh e0 hq;refine Gm λb w hS=>?_;refine Gm λb w hS=>?_;obtain⟨H2,cF,hR,hS⟩:=SL.Wu (sz:=7) (H:=H) (b:=b) (n:=2) hS Xp rfl;have cJ:oK H2 (.slice (some ⟨b,0,none⟩) 2 2) [Bd,q_ 1]:=⟨[⟨4,7,Θ,Θ,fH,Θ⟩,⟨1,0,Θ,Θ,fH,Θ⟩],rfl,hR,λi h h'=>by
  match i,h,h' with
  | 0,_,_=>exact⟨rfl,rfl,rfl,cn.nil _ _,cn.nil _ _,cn.nil _ _⟩
  | 1,_,_=>exact⟨rfl,rfl,rfl,cn.nil _ _,cn.nil _ _,cn.nil _ _⟩⟩
 refine Cc (yx H2 (.slice (some ⟨b,0,none⟩) 2 2) [Bd,q_ 1] cJ (by decide) (by decide)) ?_;clear hS;rintro u post hq w hS;obtain⟨xA,rfl,rfl⟩:=Eh e2 hq;(try simp only[app]at hS);refine Gp ?_
 refine Υ ?_;refine Gp ?_;refine Cc (y4 BS (.ob (bd v8 5 1 b0.length (b0.map bU))) H2 v8 b0 cK.own d0 (Dq (hp.mono cF) BS [] (by decide) (λ_ h=>by cases h)) (by decide)) ?_;clear hS;rintro u post ⟨rfl,H3,dG,rfl⟩ w hS;try simp only[app]at hS
 rw[rF0];refine Gp ?_;refine Υ ?_;refine Gp ?_;refine Cc (qV (e:=2) BS (.ob (bd v8 5 1 b0.length (b0.map bU))) H3 Θ [] cK.nil (by kernel_rfl)) ?_;clear hS;rintro u post ⟨rfl,H4,lL,rfl⟩ w hS;(try simp only[app]at hS);refine Gp ?_
 refine Υ ?_;refine Gp ?_;refine Υ ?_;refine Gp ?_;have S2:=a_.le_trans cF (a_.le_trans dG lL);refine Cc (y4 BS (.ob (bd xA 5 1 b2.length (b2.map bU))) H4 xA b2 cK.own d2 (Dq (hp.mono S2) BS [Bd,q_ 1] (by decide) (by decide)) (by decide)) ?_;clear hS;rintro u post ⟨rfl,H5,h45,rfl⟩ w hS;try simp only[app]at hS
 rw[rF2];refine Gp ?_;exact⟨_,⟨rfl,H5,a_.le_trans S2 h45,rfl⟩,aR hS⟩
set_option maxHeartbeats 4000000 in
def ZB(H:a_)(c:cX)(v:Ε)(l:List cx)(cut:Int)(hp:tj H)(hv:oK H v l)(bC:∀s∈l,FL s):
  SP 3 [agg (mf c),v,Γ cut] [.mem H] (λv post=>v= .bool true/\∃H' l,H.le H'/\post= .mem H'::l):=by
 refine Enzz λW F w hS=>?_;apply vc3;delta aI aW bJ br GZ ai;refine zx hS λcb w hS=>?_;refine zz hS Xh rfl ?_;refine Cc (qj c) ?_;clear hS;rintro _ post ⟨rfl,rfl⟩ w hS;try simp only[app]at hS
 refine zr hS Xu rfl rfl (bda _) λw hS=>?_;have hc:=aWb c;generalize BU c=cf at *
 generalize Jp c=kc at *
 have h4:=fy c.tables 4 (by decide);generalize hn:1+md c.tables 4=n at *
 have Tu:=hc.tables;have kG:=hc.n1;have E9:=hc.n8;have hS:SL W (.pt cb (aWc cf) 23::.mem H::F) w:=SL.bo hS (t:=.pt cb (mf cf) 23::.mem H::F) Xi;refine Gp ?_;rw[Tu];refine Cc (Y0 H v l n 50 hv (by omega) E9 (by decide) bC) ?_;clear hS;rintro u post ⟨H1,a,bX,ha,oZ,dK,rfl⟩ w hS;try simp only[app]at hS
 have rN:=ha;obtain⟨xs,iL,mW,rX⟩:=rN;refine zn mW ?_;refine Gp ?_;refine Cg (yc cut (a.length+1) (by omega) (by omega)) λw hS=>?_;have mS:=fy cut (a.length+1) (by omega);generalize md cut (a.length+1)=k at *
 have pa:oC a=true:=vA.2 ⟨dK,by omega⟩;have AB:oC (a.take k)=true:=vA.2 ⟨λs hs=>dK s (yyg hs),by rw[zzf];omega⟩;obtain⟨b1,e1,d1,_⟩:=F_ pa (by omega);obtain⟨b2,e2,d2,_⟩:=F_ AB (by rw[zzf];omega);have wI:∀s∈a,s.l.length<=140737488351232/\s.keep.length<=140737488351232:=λs hs=>by
  obtain⟨⟨_,_,_,_,_,_,_,_,hk⟩,ht,_⟩:=s8.1 (dK s hs);have h1:s.l.length<=16:=(kr ht).2.2.2.1;omega
 refine Cc (yx H1 u a ha (λs hs=>(wI s hs).2) (by omega)) ?_;clear hS;rintro r post hq w hS;obtain⟨v1,rfl,rfl⟩:=Eh e1 hq;(try simp only[app]at hS);refine Gp ?_
 refine bxx mW (by omega) λu2 nF=>?_;have tQ:oK H1 u2 (a.take k):=⟨xs.take k,by rw[zzf,zzf,iL],by
  rw[zzf,xxd (by omega),<- sM pG];exact nF,λi h h'=>by
  rw[vva,vva];exact rX i _ _⟩
 refine Cc (yx H1 u2 (a.take k) tQ (λs hs=>(wI s (yyg hs)).2) (by rw[zzf];omega)) ?_;clear hS;rintro r post hq w hS;obtain⟨v2,rfl,rfl⟩:=Eh e2 hq;(try simp only[app]at hS);refine Gp ?_
 refine Cc (Yl H1 (hp.mono bX)) ?_;clear hS;rintro _ post ⟨rfl,H2,cF,rfl⟩ w hS;(try simp only[app]at hS);refine Gp ?_
 refine zq ?_;refine Gp ?_;refine Χ ?_;refine Gp ?_;refine Χ ?_;refine yl hS λw hS=>?_;refine zz hS Xh rfl ?_;refine zz hS Xh rfl ?_;have dW:=a_.le_trans bX cF;refine Cc (y4 hc (.ob (bd v1 5 1 b1.length (b1.map bU))) H2 v1 b1 cK.own d1 (Dq (hp.mono dW) hc a (by omega) λs hs=>(wI s hs).1) (by omega)) ?_;clear hS;rintro u3 post ⟨rfl,H3,dG,rfl⟩ w hS;try simp only[app]at hS
 refine zz hS Xh rfl ?_;refine⟨rfl,?_⟩;have lh:=a_.le_trans dW dG;refine Cc (y4 hc (.ob (bd v2 5 1 b2.length (b2.map bU))) H3 v2 b2 cK.own d2 (Dq (hp.mono lh) hc (a.take k) (by rw[zzf];omega) λs hs=>(wI s (yyg hs)).1) (by rw[zzf];omega)) ?_;clear hS;rintro u4 post ⟨rfl,H4,lL,rfl⟩ w hS;try simp only[app]at hS
 obtain⟨r1,f1⟩:=SN (cf:=cf) (kc:=kc) (n:=n) a k;obtain⟨r2,f2⟩:=SN (cf:=cf) (kc:=kc) (n:=n) (a.take k) k;rw[uut,Nat.min_self]at f2
 obtain⟨g1,g2⟩:=SK (cf:=cf) (kc:=kc) (n:=n) a k (by omega);have g3:=SM (Dq (hp.mono dW) hc a (by omega) λs hs=>(wI s hs).1) k (by omega);rw[<- Rg (vK cf kc n a),<- Rg (vK cf kc n (a.take k)),f1,f2];generalize front cf kc n (a.take k)=P at *
 have hS:SL W (.mem H4::F) w:=aR hS;refine⟨λvs w=>∃m q:Nat,vs=[Γ m,Γ q]/\m<=P.length/\(P.take m).count 10=q/\SL W (.mem H4::F) w,
  λvs _=>match vs with|[.int _ m,_]=>(P.length+r2.length-m).toNat|_=>0,⟨0,0,rfl,by omega,rfl,hS⟩,?_⟩
 clear hS;rintro _ _ w ⟨m,q,bM,hm,hq,hS⟩;cases bM;have e_:m=P.length->q=k:=λh=>by rw[<- hq,h,zz0];exact g1
 have b9:m<P.length->q<k:=λh=>by rw[<- hq];exact g2 m h
 have sz:∀L:Φ,(cU L).size=L.length:=λL=>by unfold cU;simp[ByteArray.size]
 refine Y4 ?_;rw[sz,zza];refine bj (λh1=>?_) (λh1=>?_)
 ·refine bj (λh2=>?_) (λh2=>?_)
  ·have vp:m<P.length:=by
    rcases xxz m P.length with h|h
    ·exact h
    have:=e_ (by omega);omega
   refine qN (l:=P++r2) (j:=m) yyz (by rw[zza];omega) ?_;rw[yy2 vp];have e:(P.take (m+1)).count 10=q+if P[m]=10 then 1 else 0:=by
    rw[zze vp,wwy,hq,List.count_singleton];simp
   refine bj (λh3=>?_) (λh3=>?_)
   ·have h3:P[m]=10:=uu5.1 (by have:((10:Κ).toNat:Int)=10:=rfl;omega);rw[zzc h3]at e
    refine Gp ?_;exact⟨⟨m+1,q+1,by simp,by omega,e,aR hS⟩,by dsimp only;omega⟩
   have h3:P[m]≠10:=λh=>h3 (by rw[h];rfl);rw[zzb h3]at e
   refine Gp ?_;exact⟨⟨m+1,q,by simp,by omega,e,aR hS⟩,by dsimp only;omega⟩
  have vp:m=P.length:=by
   rcases xxz m P.length with h|h
   ·have:=b9 h;omega
   omega
  have:=e_ vp;subst vp this;refine yl hS λw hS=>?_;refine Gp ?_;refine Υ ?_;refine Y4 ?_;rw[sz,zza];refine Gp ?_;refine Υ ?_;refine Zz (by rw[zza];omega) (Zz (by rw[zza];omega) ?_);rw[wwg,wwg];refine Gp ?_;rw[zzm rfl];exact⟨_,⟨rfl,H4,[],a_.le_trans lh lL,rfl⟩,aR hS⟩
 have vp:m=P.length:=by omega
 have:=e_ vp;subst vp this;refine yl hS λw hS=>?_;refine Gp ?_;refine Υ ?_;refine Y4 ?_;rw[sz,zza];refine Gp ?_;refine Υ ?_;refine Zz (by rw[zza];omega) (Zz (by rw[zza];omega) ?_);rw[wwg,wwg];refine Gp ?_;rw[zzm rfl];exact⟨_,⟨rfl,H4,[],a_.le_trans lh lL,rfl⟩,aR hS⟩
def bMu{W:Ζ}(h:laidMetH prog Rows.scriptFrontRow.laid W):tj (a_.of W):=by
 rw[MakeChecks.laidMetH_plain _ _ _ (by kernel_rfl)]at h
 obtain⟨ps,h,_⟩:=h;obtain⟨_,_,_,_,_,_,_,_,_,_,h,_⟩:=h;obtain⟨_,_,_,_,_,_,_,_,_,_,h,_⟩:=h;obtain⟨g,t,cs,fuel,p,q,hg,ht,C1,hd,_,_⟩:=h;have pP : prog.globalNamed "internal/strconv.uint64pow10" = some g := hg;have TH : prog.globalNamed "internal/strconv.uint64pow10" = some 0 := by kernel_rfl
 obtain rfl:0=g:=xx1 (TH.symm.trans pP);have I5:(prog.globals[0]?).map (·.type)=some 340:=by kernel_rfl
 obtain rfl:340=t:=xx1 (I5.symm.trans ht);unfold World.var? at C1;rw[TH,Option.bind_some]at C1
 split at C1
 ·rename_i nX t' f' e;cases C1;have gU:=Lib.cells_of_tab (zs:=Lib.pow10Tab) (k:=.u64) (n:=20) (e:=62) underlying340 uuz (by kernel_rfl) (by kernel_rfl) hd;exact⟨_,t',f',pP,by show W.heap[0]?=_;rw[e,<- gU]⟩
 cases C1
def bMx(c:cX)(l:List cx)(cut:Int)(ok:∀s∈l,FL s)(cs:Array Ε)(v:Ε)(w:Ζ)(hc:Ks.rd w jJ c cs.toList)(hl:kD Gf w jJ l v)(hp:tj (a_.of w)):
  Calls prog 3 #[.agg cs,v,Γ cut] w λe w'=>e= .returned (.bool true)/\Below w.heap.size w w':=by
 obtain rfl:cs=(mf c).toArray:=by rw[<- bAe hc]
 exact (qA (ZB (a_.of w) c v l cut hp (oK.of hl) ok)).calls
