/- Part. -/
import Derived.Test.YtgfbifafbkkghaaGreatDoorJ10
namespace Go.Proofs.YtgfbifafbkkghaaGreatDoor
set_option linter.all false
set_option maxRecDepth 100000
open Go.RowKit
def www:=@Nat.not_lt_zero
abbrev fG(b:Nat)(k n:Int)(sv cv:Ε)(kv:Ε):Μ:=.pt b [Γ k,Γ n,sv,cv,Γ 0,Γ 0,kv] 29
abbrev pc(v:Ε)(l:Ω):Μ:=.ob (aY v 3 1 l.length (l.map λk=>[Γ k]).flatten)
def LX(l:Ω):(l.map λk=>[Γ k]).flatten=l.map (Value.int .i64):=by
 induction l with
 | nil=>rfl
 | cons a l ih=>simp[ih]
def qg(rp sb:Nat)(r0:bf)(k:Int):SP 67 [Δ rp,Δ sb] [.ob (b8 rp r0),fG sb k 0 Θ Θ Θ]
  (λv post=>v= .tuple #[]/\∃(x:(Int × Ψ) × (Int × List bY)) (r':bf) (sv cv:Ε),cL (dO (bm 2) (cz cJ)) (λ_=>dO (bm 16) (cz fJ)) r0=(x,r')/\post=[hU sv x.1.2,iJ cv x.2.2,.ob (b8 rp r'),fG sb k 0 sv cv Θ]):=by
 refine Enzz λW F w hS=>?_;apply a_k;delta aF cq ba bG ai bn;have kY:=mw (m:=2) (by decide) r0;have hS:SL W (iJ Θ []::_) _:=aY.nil hS;have hS:SL W (hU Θ []::_) _:=aY.nil hS;refine Cc (zo rp r0 2) ?_;clear hS;rintro v1 post ⟨rfl,rfl⟩ w hS;try simp only[app]at hS
 cases h1:bm 2 r0 with|mk n1 r2=>
 rw[h1]at hS kY
 dsimp only at hS kY ⊢;refine⟨λus w=>∃(j:Nat) (gz:Ψ) (r:bf) (sv:Ε),us=[Γ j]/\jc cJ n1.toNat r2 gz j r/\SL W (hU sv gz::.ob (b8 rp r)::iJ Θ []::fG sb k 0 sv Θ Θ::F) w,
  λus _=>match us with|[.int _ i]=>i.toNat|_=>0,⟨n1.toNat,[],r2,Θ,by rw[show ((n1.toNat:Nat):Int)=n1 by omega],jc.start _ _ _,aI hS⟩,?_⟩
 clear hS;rintro v8 w ⟨j,gz,r,sv,bM,hM,hS⟩;cases bM;have hle:=hM.le;repeat first|refine Gp ?_|refine Gw λw hS=>?_|refine Gb λb w hS=>?_
 refine za (λh=>?_) (λh=>?_)
 ·obtain⟨j,rfl⟩:∃i,j=i+1:=⟨j-1,by omega⟩;have hM:=hM.step;repeat first|refine Gp ?_|refine Gw λw hS=>?_|refine Gb λb w hS=>?_
  refine Cc (zZ rp r) ?_;clear hS;(rintro v post ⟨rfl,rfl⟩ w hS;(try simp only[app]at hS);(repeat (first|refine Gp ?_|refine Gw λw hS=>?_|refine Gb λb w hS=>?_)))
  refine ye (n:=gz.length) (xs:=gz) (y:=(cJ r).1) (enc:=λs=>[Value.string s]) hS Xr Xh (λ_=>rfl) (by simp[Value.oneCell']) rfl (by omega) (by omega) λu w hS=>?_;have h1:=aY.one hS;repeat first|refine Gp ?_|refine Gw λw hS=>?_|refine Gb λb w hS=>?_
  refine⟨⟨j,_,_,u,by rw[show ((j+1:Nat):Int)-1=(j:Int) by omega],hM,?_⟩,by dsimp only;omega⟩;have hS:=hS.lS (x:=(cJ r).1);exact aI hS
 obtain rfl:j=0:=by omega
 have e1:=hM.stop;have kZ:=mw (m:=16) (by decide) r;refine Cc (zo rp r 16) ?_;clear hS;rintro v1 post ⟨rfl,rfl⟩ w hS;try simp only[app]at hS
 cases h2:bm 16 r with|mk n2 r5=>
 rw[h2]at hS kZ
 dsimp only at hS kZ ⊢;refine⟨λus w=>∃(j:Nat) (dY:List bY) (r:bf) (cv:Ε),us=[Γ j]/\jc fJ n2.toNat r5 dY j r/\SL W (iJ cv dY::.ob (b8 rp r)::hU sv gz::fG sb k 0 sv cv Θ::F) w,
  λus _=>match us with|[.int _ i]=>i.toNat|_=>0,⟨n2.toNat,[],r5,Θ,by rw[show ((n2.toNat:Nat):Int)=n2 by omega],jc.start _ _ _,aI hS⟩,?_⟩
 clear hS;rintro v8 w ⟨j,dY,r',cv,bM,kr,hS⟩;cases bM;have La:=kr.le;repeat first|refine Gp ?_|refine Gw λw hS=>?_|refine Gb λb w hS=>?_
 refine za (λh=>?_) (λh=>?_)
 ·obtain⟨j,rfl⟩:∃i,j=i+1:=⟨j-1,by omega⟩;have kr:=kr.step;repeat first|refine Gp ?_|refine Gw λw hS=>?_|refine Gb λb w hS=>?_
  refine Cc (zo rp r' 8) ?_;clear hS;(rintro v post ⟨rfl,rfl⟩ w hS;(try simp only[app]at hS);(repeat (first|refine Gp ?_|refine Gw λw hS=>?_|refine Gb λb w hS=>?_)))
  refine Cc (zE rp _) ?_;clear hS;(rintro v post ⟨rfl,rfl⟩ w hS;(try simp only[app]at hS);(repeat (first|refine Gp ?_|refine Gw λw hS=>?_|refine Gb λb w hS=>?_)))
  refine Cc (yE rp _) ?_;clear hS;(rintro v post ⟨rfl,rfl⟩ w hS;(try simp only[app]at hS);(repeat (first|refine Gp ?_|refine Gw λw hS=>?_|refine Gb λb w hS=>?_)))
  refine Cc (zZ rp _) ?_;clear hS;(rintro v post ⟨rfl,rfl⟩ w hS;(try simp only[app]at hS);(repeat (first|refine Gp ?_|refine Gw λw hS=>?_|refine Gb λb w hS=>?_)))
  have hS:SL W (.pt b (dh (fJ r').1) 70::_) w:=hS;refine ye (n:=dY.length) (xs:=dY) (y:=(fJ r').1) (enc:=dh) hS Xr Xh kM (λx=>xk x) rfl (by omega) (by omega) λu w hS=>?_;have h1:=aY.one hS;repeat first|refine Gp ?_|refine Gw λw hS=>?_|refine Gb λb w hS=>?_
  refine⟨⟨j,_,_,u,by rw[show ((j+1:Nat):Int)-1=(j:Int) by omega],kr,?_⟩,by dsimp only;omega⟩;have hS:=hS.lS (x:=(fJ r').1);rw[show (fJ r').2=(cJ (iu (cG (bm 8 r').2).2).2).2 from rfl];exact aI hS
 obtain rfl:j=0:=by omega
 have e2:=kr.stop;repeat first|refine Gp ?_|refine Gw λw hS=>?_|refine Gb λb w hS=>?_
 exact⟨_,⟨rfl,((n1,gz),(n2,dY)),r',sv,cv,by unfold dO cL;simp only[h1,e1,h2,e2],rfl⟩,aI hS⟩
def Mu{α:Type}(p:bf->α × bf):∀(n:Nat) (r:bf),(cz p n r).1.length=n
 | 0,_=>rfl
 | n+1,r=>yyl (· + 1) (Mu p n (p r).2)
def aFe(r:bf):(ja r).1.bh.length<=64:=by
 have h:∀(k:Int) (r:bf),(gR k r).1.bh.length<=64:=λk r=>by
  unfold gR;split
  ·exact yye _
  split
  ·exact yye _
  split
  ·exact yye _
  split
  ·show (cz (bm 2147483647) (bm 64 r).1.toNat (bm 64 r).2).1.length<=64;have:=mw (m:=64) (by decide) r;rw[Mu];omega
  exact yye _
 exact h _ _
set_option maxHeartbeats 1000000 in
def qV(rp:Nat)(r:bf)(H:aX):SP 33 [Δ rp] [.ob (b8 rp r),.mem H]
  (λv post=>∃(y:dJ) (H':aX),H.le H'/\v=agg (bT y)/\dG H' y (ja r).1/\post=[.ob (b8 rp (ja r).2),.mem H']):=by
 refine Enzz λW F w hS=>?_;apply aY7;delta aF aW ba sI ai aZ;have he:ja r=gR (bm 8 r).1 (bm 8 r).2:=rfl;rw[he];have kY:=mw (m:=8) (by decide) r;refine Gb λzb w hS=>?_;refine Cc (zo rp r 8) ?_;clear hS;rintro v1 post ⟨rfl,rfl⟩ w hS;try simp only[app]at hS
 clear he;generalize (bm 8 r).1=k at *
 generalize (bm 8 r).2=r2 at *
 have nl:∀(H:aX) (sz:Nat),bK H sz Θ 0 []:=bK.nil;(repeat refine Gp ?_)
 refine Gb λob w hS=>?_;repeat first|refine Gp ?_|refine Gw λw hS=>?_|refine Gb λb w hS=>?_
 have fin:∀(n:Int) (sv cv:Ε) (x y:Int) (kv:Ε) (H2:aX) (t:bB) (r':bf) {w:Ζ},gR k r2=(t,r')->H.le H2->dG H2 ⟨k,n,sv,cv,⟨x,y⟩,kv⟩ t->SL W (.pt ob [Γ k,Γ n,sv,cv,Γ x,Γ y,kv] 29::fG zb 0 0 Θ Θ Θ::.ob (b8 rp r')::.mem H2::F) w ->
   zf 7 (Δ ob) w λra=>zn 7 (Δ zb) ra w λjR=>zf 7 (Δ zb) jR λv=>∃post,(∃(y:dJ) (H':aX),H.le H'/\v=agg (bT y)/\dG H' y (gR k r2).1/\post=[.ob (b8 rp (gR k r2).2),.mem H'])/\SL W (app post F) jR:=by
  intro n sv cv x y kv H2 t r' w e hh gd hS;rw[e];refine zH hS Xh rfl ?_;refine zO (vs:=bT ⟨k,n,sv,cv,⟨x,y⟩,kv⟩) hS Xu rfl rfl (oo gd) λw hS=>?_;refine zH hS Xh rfl ?_;exact⟨_,⟨_,H2,hh,rfl,gd,rfl⟩,aI hS⟩
 refine za (λk1=>?_) (λk1=>?_)
 ·have hS:SL W (.ob (b8 rp r2)::fG ob k 0 Θ Θ Θ::fG zb 0 0 Θ Θ Θ::.mem H::F) w:=SL.bA (t:=.ob (b8 rp r2)::.pt ob [Γ k,Γ 0,Θ,Θ,Γ 0,Γ 0,Θ] 29::.pt zb [Γ 0,Γ 0,Θ,Θ,Γ 0,Γ 0,Θ] 29::.mem H::F) hS Xi;refine Cc (qg rp ob r2 k) ?_;clear hS;rintro _ post ⟨rfl,x,r',sv,cv,e,rfl⟩ w hS;try simp only[app]at hS
  obtain⟨H1,dF,hN,hS⟩:=aY.freeze (SL.bA hS (t:=.mem H::hU sv x.1.2::iJ cv x.2.2::.ob (b8 rp r')::fG ob k 0 sv cv Θ::fG zb 0 0 Θ Θ Θ::F) Xi);obtain⟨H2,cT,hO,hS⟩:=aY.freeze hS;rw[AZ]at hN
  exact fin 0 sv cv 0 0 Θ H2 (tH k x) r' (by unfold gR;rw[zzd k1];unfold eX;rw[e]) (aX.le_trans dF cT) ⟨rfl,rfl,rfl,hN.mono cT,hO,nl _ _⟩ (aI hS)
 repeat first|refine Gp ?_|refine Gw λw hS=>?_|refine Gb λb w hS=>?_
 refine za (λk3=>?_) (λk3=>?_)
 ·repeat first|refine Gp ?_|refine Gw λw hS=>?_|refine Gb λb w hS=>?_
  refine Cc (zo rp r2 3) ?_;clear hS;(rintro v post ⟨rfl,rfl⟩ w hS;(try simp only[app]at hS);(repeat (first|refine Gp ?_|refine Gw λw hS=>?_|refine Gb λb w hS=>?_)))
  refine Cc (zo rp _ 2147483647) ?_;clear hS;(rintro v post ⟨rfl,rfl⟩ w hS;(try simp only[app]at hS);(repeat (first|refine Gp ?_|refine Gw λw hS=>?_|refine Gb λb w hS=>?_)))
  refine Qm (cs:=[Γ k,Γ 0,Θ,Θ,Γ 0,Γ 0,Θ]) (vs:=eE ⟨(bm 3 r2).1,(bm 2147483647 (bm 3 r2).2).1⟩) hS Xu rfl (show 6<=7 by decide) (by simp[eE,Value.oneCell']) λw hS=>?_;have hS:SL W (_::.pt ob [Γ k,Γ 0,Θ,Θ,Γ (bm 3 r2).1,Γ (bm 2147483647 (bm 3 r2).2).1,Θ] 29::_) w:=hS;refine fin 0 Θ Θ (bm 3 r2).1 (bm 2147483647 (bm 3 r2).2).1 Θ H (tI k ((bm 3 r2).1,(bm 2147483647 (bm 3 r2).2).1)) (bm 2147483647 (bm 3 r2).2).2 (by unfold gR;rw[zzb k1,zzd k3];rfl) (aX.le_refl H) ⟨rfl,rfl,rfl,nl _ _,nl _ _,nl _ _⟩ (aI hS)
 repeat first|refine Gp ?_|refine Gw λw hS=>?_|refine Gb λb w hS=>?_
 refine za (λk6=>?_) (λk6=>?_)
 ·exact fin 0 Θ Θ 0 0 Θ H (gA k) r2 (by unfold gR;rw[zzb k1,zzb k3,zzd k6]) (aX.le_refl H) ⟨rfl,rfl,rfl,nl _ _,nl _ _,nl _ _⟩ (aI hS)
 repeat first|refine Gp ?_|refine Gw λw hS=>?_|refine Gb λb w hS=>?_
 refine za (λk8=>?_) (λk8=>?_)
 ·have kZ:=mw (m:=64) (by decide) r2;have hb:gR k r2=eX (n3 k) (dO (bm 64) (cz (bm 2147483647))) r2:=by unfold gR;rw[zzb k1,zzb k3,zzb k6,zzd k8]
  repeat first|refine Gp ?_|refine Gw λw hS=>?_|refine Gb λb w hS=>?_
  refine Cc (zo rp r2 64) ?_;clear hS;rintro v1 post ⟨rfl,rfl⟩ w hS;try simp only[app]at hS
  obtain⟨n2,r3,h2⟩:∃n2 r3,bm 64 r2=(n2,r3):=⟨_,_,rfl⟩;rw[h2]at hS kZ ⊢
  dsimp only at hS kZ ⊢;have hS:SL W (pc Θ []::_) _:=aY.nil hS;refine⟨λus w=>∃(j:Nat) (ks:Ω) (r:bf) (kv:Ε),us=[Γ j]/\jc (bm 2147483647) n2.toNat r3 ks j r/\SL W (pc kv ks::.ob (b8 rp r)::fG ob k 0 Θ Θ kv::fG zb 0 0 Θ Θ Θ::.mem H::F) w,
   λus _=>match us with|[.int _ i]=>i.toNat|_=>0,⟨n2.toNat,[],r3,Θ,by rw[show ((n2.toNat:Nat):Int)=n2 by omega],jc.start _ _ _,SL.bA (t:=pc Θ []::.ob (b8 rp r3)::.pt ob [Γ k,Γ 0,Θ,Θ,Γ 0,Γ 0,Θ] 29::.pt zb [Γ 0,Γ 0,Θ,Θ,Γ 0,Γ 0,Θ] 29::.mem H::F) hS Xi⟩,?_⟩
  clear hS;rintro v8 w ⟨j,ks,r',kv,bM,hM,hS⟩;cases bM;have hle:=hM.le;repeat first|refine Gp ?_|refine Gw λw hS=>?_|refine Gb λb w hS=>?_
  refine za (λh=>?_) (λh=>?_)
  ·obtain⟨j,rfl⟩:∃i,j=i+1:=⟨j-1,by omega⟩;have hM:=hM.step;repeat first|refine Gp ?_|refine Gw λw hS=>?_|refine Gb λb w hS=>?_
   refine Cc (zo rp r' 2147483647) ?_;clear hS;(rintro v post ⟨rfl,rfl⟩ w hS;(try simp only[app]at hS);(repeat (first|refine Gp ?_|refine Gw λw hS=>?_|refine Gb λb w hS=>?_)))
   refine ye (n:=ks.length) (xs:=ks) (y:=(bm 2147483647 r').1) (enc:=λk=>[Γ k]) hS Xr Xh (λ_=>rfl) (by simp[Value.oneCell']) rfl (by omega) (by omega) λu w hS=>?_;have h1:=aY.one hS;repeat first|refine Gp ?_|refine Gw λw hS=>?_|refine Gb λb w hS=>?_
   refine⟨⟨j,_,_,u,by rw[show ((j+1:Nat):Int)-1=(j:Int) by omega],hM,?_⟩,by dsimp only;omega⟩;have hS:=hS.lS (x:=(bm 2147483647 r').1);exact aI hS
  obtain rfl:j=0:=by omega
  obtain⟨H2,ep,hN,hS⟩:=aY.freeze (SL.bA hS (t:=.mem H::pc kv ks::.ob (b8 rp r')::fG ob k 0 Θ Θ kv::fG zb 0 0 Θ Θ Θ::F) Xi);rw[LX]at hN
  exact fin 0 Θ Θ 0 0 kv H2 (n3 k (n2,ks)) r' (by rw[hb];unfold eX dO cL;simp only[h2,hM.stop]) ep ⟨rfl,rfl,rfl,nl _ _,nl _ _,hN⟩ (aI hS)
 repeat first|refine Gp ?_|refine Gw λw hS=>?_|refine Gb λb w hS=>?_
 refine Cc (zE rp r2) ?_;clear hS;(rintro v post ⟨rfl,rfl⟩ w hS;(try simp only[app]at hS);(repeat (first|refine Gp ?_|refine Gw λw hS=>?_|refine Gb λb w hS=>?_)))
 rw[show gR k r2=(pU k (cG r2).1,(cG r2).2) by unfold gR;rw[zzb k1,zzb k3,zzb k6,zzb k8];rfl];exact⟨_,⟨⟨k,(cG r2).1,Θ,Θ,⟨0,0⟩,Θ⟩,H,aX.le_refl H,rfl,⟨rfl,rfl,rfl,nl _ _,nl _ _,nl _ _⟩,rfl⟩,aI hS⟩
def kD(X:Μ)(H:aX)(b:Φ)(u:Ε)(post:Β):Prop:=match h_ b with
 | .error e=>e≠0/\∃H',H.le H'/\u= .tuple #[Θ,Γ e]/\post=[X,.mem H']
 | .ok l=>∃v H',H.le H'/\u= .tuple #[v,Γ 0]/\eJ H' v l/\post=[X,.mem H']
def JJ{b:Φ}{e:Int}(h:dK b= .error e):h_ b= .error e:=by unfold h_;rw[h]
def JM{b:Φ}{l:List bz}(h:dK b= .ok l)(h2:¬mr (jq ⟨l,false⟩)):h_ b= .error 3:=by
 unfold h_;rw[h];simp only;rw[zzb h2]
def JK{b:Φ}{l:List bz}(h:dK b= .ok l)(h2:mr (jq ⟨l,false⟩)):h_ b= .ok (jq ⟨l,false⟩).1.2:=by
 unfold h_;rw[h];simp only;rw[zzd h2]
set_option maxHeartbeats 1000000 in
def zU(X:Μ)(H:aX)(v:Ε)(bs:Φ)(hv:bN X v bs):SP 14 [v] [X,.mem H] (kD X H bs):=by
 refine Enzz λW F w hS=>?_;apply aRv;delta aF bD Bw ai aZ;refine Cc (yj X v bs hv) ?_;clear hS;rintro r post hq w hS;unfold lq at hq;cases hd:dK bs with
 | error e=>
  rw[hd]at hq
  obtain⟨rfl,rfl⟩:=hq;have he:=uN hd;try simp only[app]at hS
  repeat first|refine Gp ?_|refine Gw λw hS=>?_|refine Gb λb w hS=>?_
  refine za (λ_=>?_) (λh=>absurd he h);repeat first|refine Gp ?_|refine Gw λw hS=>?_|refine Gb λb w hS=>?_
  exact⟨[X,.mem H],by unfold kD;rw[JJ hd];exact⟨he,H,aX.le_refl H,rfl,rfl⟩,aI hS⟩
 | ok l=>
  rw[hd]at hq
  obtain⟨lv,rfl,rfl⟩:=hq;try simp only[app]at hS
  repeat first|refine Gp ?_|refine Gw λw hS=>?_|refine Gb λb w hS=>?_
  refine Χ ?_;refine Cc (yF lv l) ?_;clear hS;rintro _ post ⟨rp,rfl,rfl⟩ w hS;try simp only[app]at hS
  repeat first|refine Gp ?_|refine Gw λw hS=>?_|refine Gb λb w hS=>?_
  have kY:=mw (m:=1000) (by decide) ⟨l,false⟩;refine Cc (zo rp ⟨l,false⟩ 1000) ?_;clear hS;rintro v1 post ⟨rfl,rfl⟩ w hS;try simp only[app]at hS
  have oU:jq ⟨l,false⟩=(((bm 1000 ⟨l,false⟩).1,(bW ja (bm 1000 ⟨l,false⟩).1.toNat (bm 1000 ⟨l,false⟩).2).1),(bW ja (bm 1000 ⟨l,false⟩).1.toNat (bm 1000 ⟨l,false⟩).2).2):=rfl;generalize (bm 1000 ⟨l,false⟩).1=n1 at *
  generalize (bm 1000 ⟨l,false⟩).2=r2 at *
  have hS:SL W (.ob (aY Θ 29 7 ([]:List dJ).length (([]:List dJ).map bT).flatten)::_) _:=aY.nil hS;refine⟨λus w=>∃(k:Nat) (a:List bB) (ys:List dJ) (r:bf) (u:Ε) (H2:aX),us=[u,Γ k]/\gO ja n1.toNat r2 a k r/\H.le H2/\ys.length=a.length/\(∀s∈a,s.bh.length<=64)/\(∀i (h:i<a.length) (h':i<ys.length),dG H2 ys[i] a[i])/\SL W (.ob (aY u 29 7 ys.length (ys.map bT).flatten)::.ob (b8 rp r)::X::.mem H2::F) w,
   λus _=>match us with|[_,.int _ i]=>i.toNat|_=>0,⟨n1.toNat,[],[],r2,Θ,H,by rw[show ((n1.toNat:Nat):Int)=n1 by omega],gO.start _ _ _,aX.le_refl H,rfl,(λ_ h=>by cases h),(λi h=>absurd h (www i)),aI hS⟩,?_⟩
  clear hS;rintro v8 v9 w ⟨k,a,ys,r,u,H2,bM,hM,ep,j4,vv,pL,hS⟩;cases bM;have hle:=hM.le;have fM:(k=0\/r.bad=true)->∀{w:Ζ},SL W (.ob (aY v8 29 7 ys.length (ys.map bT).flatten)::.ob (b8 rp r)::X::.mem H2::F) w ->
    aw 34 [Δ rp] w λv35 wx=>yM v35 λv36=>bL v36 (∃post,kD X H bs (.tuple #[Θ,Γ 3]) post/\SL W (app post F) wx)
     (aw 11 [v8] wx λv39 wv=>yM v39 λv40=>bL v40 (∃post,kD X H bs (.tuple #[Θ,Γ 3]) post/\SL W (app post F) wv) (∃post,kD X H bs (.tuple #[v8,Γ 0]) post/\SL W (app post F) wv)):=by
   intro gd w hS;have lJ:=hM.stop gd;rw[lJ]at oU
   refine Cc (yC rp r) ?_;clear hS;(rintro v post ⟨rfl,rfl⟩ w hS;(try simp only[app]at hS);(repeat (first|refine Gp ?_|refine Gw λw hS=>?_|refine Gb λb w hS=>?_)))
   have cU:¬(r.bad=false/\r.l=[]/\iV a=true)->∀{w:Ζ} {H3:aX},H.le H3->SL W (X::.mem H3::F) w->∃post,kD X H bs (.tuple #[Θ,Γ 3]) post/\SL W (app post F) w:=λh w H3 hh hS=>⟨[X,.mem H3],by unfold kD;rw[JM hd (by rw[oU];exact λk=>h ⟨k.1.1,k.1.2,k.2⟩)];exact⟨by decide,H3,hh,rfl,rfl⟩,hS⟩;refine zr (λhb=>?_) (λhb=>?_)
   ·have hb:=yyj hb;exact cU (λh=>hb ⟨h.1,h.2.1⟩) ep (aI hS)
   have hb:=zzl hb;obtain⟨H3,da,hR,hS⟩:=aY.freeze (SL.bA hS (t:=.mem H2::.ob (aY v8 29 7 ys.length (ys.map bT).flatten)::X::F) Xi);have bU:eJ H3 v8 a:=⟨ys,j4,by rw[<- j4];exact hR,λi h h'=>(pL i h h').mono da⟩;have iQ:=aX.le_trans ep da;repeat first|refine Gp ?_|refine Gw λw hS=>?_|refine Gb λb w hS=>?_
   refine Cc (yW H3 v8 a bU (λs hs=>by have:=vv s hs;omega) (by omega)) ?_;clear hS;(rintro v post ⟨rfl,rfl⟩ w hS;(try simp only[app]at hS);(repeat (first|refine Gp ?_|refine Gw λw hS=>?_|refine Gb λb w hS=>?_)))
   refine zr (λhm=>?_) (λhm=>?_)
   ·exact cU (λh=>by rw[h.2.2]at hm;cases hm) iQ (aI hS)
   exact⟨[X,.mem H3],by unfold kD;rw[JK hd (by rw[oU];exact⟨⟨hb.1,hb.2⟩,hm⟩),oU];exact⟨v8,H3,iQ,rfl,bU,rfl⟩,aI hS⟩
  repeat first|refine Gp ?_|refine Gw λw hS=>?_|refine Gb λb w hS=>?_
  refine za (λh=>?_) (λh=>fM (.inl (by omega)) hS);repeat first|refine Gp ?_|refine Gw λw hS=>?_|refine Gb λb w hS=>?_
  refine Cc (yD rp r) ?_;clear hS;(rintro v post ⟨rfl,rfl⟩ w hS;(try simp only[app]at hS);(repeat (first|refine Gp ?_|refine Gw λw hS=>?_|refine Gb λb w hS=>?_)))
  refine zr (λhb=>?_) (λhb=>fM (.inr hb) (aI hS));clear fM;obtain⟨k,rfl⟩:∃i,k=i+1:=⟨k-1,by omega⟩;have hM:=hM.step hb;have hle:=hM.le;rw[zza,yyg]at hle
  have K_:=aFe r;repeat first|refine Gp ?_|refine Gw λw hS=>?_|refine Gb λb w hS=>?_
  refine Cc (qV rp r H2) ?_;clear hS;rintro _ post ⟨y,H3,da,rfl,hy,rfl⟩ w hS;try simp only[app]at hS
  repeat first|refine Gp ?_|refine Gw λw hS=>?_|refine Gb λb w hS=>?_
  have hS:SL W (_::.ob (b8 rp (ja r).2)::.mem H3::.ob (aY v8 29 7 ys.length (ys.map bT).flatten)::X::F) w:=SL.bA hS (t:=.pt b (bT y) 29::.ob (b8 rp (ja r).2)::.mem H3::.ob (aY v8 29 7 ys.length (ys.map bT).flatten)::X::F) Xi;refine zx (n:=ys.length) (m:=1) hS Xr (fC (cs:=bT y) hS .hd rfl) rfl rfl (oo hy) (by omega) (by omega) ?_;clear hS;intro u' w hS;repeat first|refine Gp ?_|refine Gw λw hS=>?_|refine Gb λb w hS=>?_
  refine⟨⟨k,a++[(ja r).1],ys++[y],(ja r).2,u',H3,by rw[show ((k+1:Nat):Int)-1=(k:Int) by omega],hM,aX.le_trans ep da,by simp[j4],λs hs=>?_,λi h h'=>?_,?_⟩,by dsimp only;omega⟩
  ·rcases yyb.1 hs with h|h
   ·exact vv s h
   rw[zz8.1 h];exact K_
  ·by_cases e:i<a.length
   ·rw[yy6 (by omega),yy6 (by omega)];exact (pL i (by omega) (by omega)).mono da
   have e:i=a.length:=by simp at h;omega
   subst e;have e1:(ys++[y])[a.length]=y:=by rw[yy0 (by omega)];simp[j4]
   have e2:(a++[(ja r).1])[a.length]=(ja r).1:=by rw[yy0 (by omega)];simp
   rw[e1,e2];exact hy
  rw[rD,zza,yyg];exact aI hS
abbrev wz(w:dS)(rv:Ε):Ξ:=[Γ w.mark,Γ w.after,Γ w.id,Γ w.table,rv,Γ w.cN,.bool w.last,Γ w.n,Γ w.state]
def iN(wp:Nat)(k:dS):zw:=gi λrv:Ε=>zG True [.pt wp (wz k rv) 210,g_ rv k.rows]
def iN.iff{W w:Ζ}{l:Β}{wp:Nat}{k:dS}:SL W (.ob (iN wp k)::l) w↔∃rv,SL W (.pt wp (wz k rv) 210::g_ rv k.rows::l) w:=by
 unfold iN;simp only[SL.ex,SL.fact,vv7,zzq,zzp]
def iN.put{W w:Ζ}{l F:Β}{wp:Nat}(k:dS)(rv:Ε)(hS:SL W l w)(p:eQ [.pt wp (wz k rv) 210,g_ rv k.rows] l F):SL W (.ob (iN wp k)::F) w:=iN.iff.2 ⟨rv,hS.pick p⟩
def g_.nil{W w:Ζ}{l:Β}(h:SL W l w):SL W (g_ Θ []::l) w:=aY.nil h
def QY(n:Int):SP 206 [Γ n] [] (λv post=>(¬(1<=n/\n<=64)/\v= .tuple #[.pointer none,Γ 1]/\post=[])\/((1<=n/\n<=64)/\∃wp:Nat,v= .tuple #[bH wp,Γ 0]/\post=[.ob (iN wp (mC n))])):=by
 refine Enzz λW F w hS=>?_;apply aW3;delta aF ai bC aZ;refine Gp ?_;refine za (λh=>⟨_,.inl ⟨by omega,rfl,rfl⟩,hS⟩) (λh1=>?_);refine Gp ?_;refine za (λh=>⟨_,.inl ⟨by omega,rfl,rfl⟩,hS⟩) (λh2=>?_);refine Gp ?_;refine⟨_,rfl,zD hS λwp w hS=>?_⟩;have hS:=g_.nil hS;exact⟨_,.inr ⟨by omega,wp,rfl,rfl⟩,SL.bA (iN.put (wp:=wp) (mC n) Θ hS Xp) Xi⟩
section
variable (wp:Nat) (k:dS)
def qk:SP 95 [bH wp] [.ob (iN wp k)] (bj (Γ k.state) [.ob (iN wp k)]):=by
 refine Enzz λW F w hS=>?_;apply bae;delta bd;obtain⟨rv,hS⟩:=iN.iff.1 hS;unfold wz at hS;refine Gp ?_;exact⟨_,⟨rfl,rfl⟩,SL.bA (iN.put k rv hS Xp) Xi⟩
def q6(hn:k.rows.length<=1000000):SP 96 [bH wp] [.ob (iN wp k)] (λu post=>post=[g_ u k.rows,.ob (iN wp k)]):=by
 refine Enzz λW F w hS=>?_;apply baf;delta aW bG;obtain⟨rv,hS⟩:=iN.iff.1 hS;unfold wz at hS;refine Gp ?_;refine Cc (Rs rv k.rows hn) ?_;clear hS;rintro u post rfl w hS;try simp only[app]at hS
 exact⟨_,rfl,SL.bA (iN.put k rv hS Xp) Xi⟩
end
abbrev P7(e u l:Int):Ξ:=[Γ e,Γ u,Γ l]
abbrev mD(p:Nat)(e u l:Int):Μ:=.pt p (P7 e u l) 221
def YE(p:Nat)(e u l now:Int)(he:1<=e/\e<=1073741824):SP 204 [Δ p,Γ now] [mD p e u l] (bj (.tuple #[]) [mD p e (nk e now) l]):=by
 refine Enzz λW F w hS=>?_;apply aW1;delta bd cq ai;have e1:min (max now 0) 1125899906842624+e=nk e now:=rfl;refine Gn λw hS=>?_;rw[e1]at hS
 (exact bt hS)
def P8(e now aR:Int)(he:1<=e/\e<=1073741824)(hn:0<=now/\now<=1125899906842624)(hl:0<=aR/\aR<=1099511627776):SP 151 [Γ e,Γ now,Γ aR] [] (λv post=>∃p:Nat,v= .tuple #[Δ p,Γ 0]/\post=[mD p e (nk e now) aR]):=by
 refine Enzz λW F w hS=>?_;apply aR7;delta aF bG ai bC;refine Gp ?_;refine Χ ?_;refine Gp ?_;refine Χ ?_;refine Gp ?_;refine Χ ?_;refine Gp ?_;refine Χ ?_;refine Gp ?_;refine Χ ?_;refine Gp ?_;refine Χ ?_;refine Gp ?_;refine⟨_,rfl,zD hS λp w hS=>?_⟩;refine Gp ?_;refine Cg (YE p e 0 aR now he) λw hS=>?_;exact⟨_,⟨p,rfl,rfl⟩,aI hS⟩
def qm(p:Nat)(e u l:Int):SP 99 [Δ p] [mD p e u l] (bj (Γ u) [mD p e u l]):=by
 refine Enzz λW F w hS=>?_;apply bai;delta aW bG;refine Gp ?_;(exact bt hS)
