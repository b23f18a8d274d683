/- Part. -/
import Derived.Test.YthohmpdacdmclaaGreatDoorJ8
namespace Go.Proofs.YthohmpdacdmclaaGreatDoor
set_option linter.all false
set_option maxRecDepth 100000
open Go.RowKit Go.Proofs.Tryz
def vv5:=@underlying281
def xxg:=@underlying2
def uux:=@zeroValue450
def uuu:=@Option.isSome_none
def uuv:=@Option.isSome_some
def vv6:=@List.mem_replicate
def xxm:=@List.length_replicate
def uub:=@List.getLast?_map
def wwc:=@List.getLast?_eq_getElem?
def vvh:=@Nat.add_sub_cancel_left
def vvw:=@List.drop_length
def uuc:=@List.filter_eq_nil_iff
def jm(x:Nat × List Cell):zC:=iX λm:List (Int × Cell)=>zF (rr m x.2) [.ob (dx KI tB x.1 m)]
def jm.iff{W w:Ζ}{x:Nat × List Cell}{l:Β}:SL W (.ob (jm x)::l) w↔∃m,rr m x.2/\SL W (.ob (dx KI tB x.1 m)::l) w:=by
 unfold jm;simp only[SL.ex,SL.fact,zzn,zzo]
abbrev lU(b:Nat):Ε:=.map (some b)
def ig(r:Nat)(ts:List (List Cell)):zC:=iX λx:Nat × Nat × Ξ × Α=>zF (x.2.2.2.length=ts.length/\ts.length<=8/\sh ts)
 [.pt r [.slice (some ⟨x.1,0,none⟩) ts.length x.2.1] 280,.pt x.1 (x.2.2.2.map lU++x.2.2.1) 281,.ob (zg jm (x.2.2.2.zip ts))]
def ig.iff{W w:Ζ}{r:Nat}{ts:List (List Cell)}{l:Β}:SL W (.ob (ig r ts)::l) w↔∃(bv cap:Nat) (rest:Ξ) (bs:Α),(bs.length=ts.length/\ts.length<=8/\sh ts) /\
  SL W (.pt r [.slice (some ⟨bv,0,none⟩) ts.length cap] 280::.pt bv (bs.map lU++rest) 281::.ob (zg jm (bs.zip ts))::l) w:=by
 unfold ig;simp only[SL.ex,SL.fact,zzn,zzo];constructor
 ·rintro ⟨⟨bv,cap,rest,bs⟩,h1,h2⟩;exact⟨bv,cap,rest,bs,h1,h2⟩
 rintro ⟨bv,cap,rest,bs,h1,h2⟩;exact⟨⟨bv,cap,rest,bs⟩,h1,h2⟩
def X9:∀(bs:Α) (ts:List (List Cell)) (t:Nat) (b:Nat) (C:List Cell),bs[t]?=some b->(bs.zip ts).set t (b,C)=bs.zip (ts.set t C)
 | [],ts,t,b,C,h=>by simp at h
 | x::bs,[],t,b,C,h=>by simp
 | x::bs,y::ts,0,b,C,h=>by simp at h;subst h;simp
 | x::bs,y::ts,t+1,b,C,h=>by simp;exact X9 bs ts t b C (by simpa using h)
def DP.open{W w:Ζ}{bs:Α}{ts:List (List Cell)}{l:Β}{t:Nat}(ht:t<ts.length)(hb:t<bs.length)(h:SL W (.ob (zg jm (bs.zip ts))::l) w):
  ∃m,rr m ts[t]/\SL W (.ob (dx KI tB bs[t] m)::.ob (zg jm ((bs.zip ts).eraseIdx t))::l) w:=
 jm.iff.1 (zg.take h (x:=(bs[t],ts[t])) (by simp[List.getElem?_zip_eq_some,hb,ht]))
def DP.close{W w:Ζ}{bs:Α}{ts:List (List Cell)}{l:Β}{t:Nat}{C:List Cell}{m:List (Int × Cell)}(ht:t<ts.length)(hb:t<bs.length)(hm:rr m C)
  (h:SL W (.ob (dx KI tB bs[t] m)::.ob (zg jm ((bs.zip ts).eraseIdx t))::l) w):SL W (.ob (zg jm (bs.zip (ts.set t C)))::l) w:=by
 have h1:SL W (.ob (jm (bs[t],C))::.ob (zg jm ((bs.zip ts).eraseIdx t))::l) w:=jm.iff.2 ⟨m,hm,h⟩;have h2:=zg.put h1 (by simp;omega)
 rwa [X9 bs ts t bs[t] C (by simp[hb])]at h2
def bhf(a:Option Addr)(n cap:Nat)(t:Int):SP 316 [.slice a n cap,Γ t] [] (bA (.bool (decide (0<=t/\t<n))) []):=by
 refine Enzz λW F w hS=>?_;apply bHq;delta aI br ai;refine bj (λh=>?_) (λh=>?_)
 ·refine Gp ?_;have:(decide (t<(n:Int)))=decide (0<=t/\t<n):=by simp[h]
  rw[this];(exact bw hS)
 have:(decide (0<=t/\t<(n:Int)))=false:=by simp;omega
 rw[this];(exact bw hS)
def Qy(bv cap:Nat)(rest:Ξ)(bs:Α)(ts:List (List Cell))(o:fB)(hb:bs.length=ts.length):
  SP 279 [.slice (some ⟨bv,0,none⟩) ts.length cap,agg (iR o)] [.pt bv (bs.map lU++rest) 281,.ob (zg jm (bs.zip ts))]
   (bA (.bool (kP ts o).2) [.pt bv (bs.map lU++rest) 281,.ob (zg jm (bs.zip (kP ts o).1))]):=by
 refine Enzz λW F w hS=>?_;apply bGy;delta aI aW bg bJ br ai bK;obtain⟨aw,table,key,gone,val⟩:=o;refine⟨_,rfl,zD hS ?_⟩;clear hS;intro p w hS;simp only[iR]at hS;refine Gp ?_;refine Cg (bhf (some ⟨bv,0,none⟩) ts.length cap table) λw hS=>?_;refine zw (λhe=>?_) (λhe=>?_)
 ·have hp:kP ts ⟨aw,table,key,gone,val⟩=(ts,false):=by
   simp only[xxr]at he;unfold kP;by_cases h0:table<0
   ·simp[h0]
   have:ts[table.toNat]?=none:=yyt (by omega);simp[h0,this]
  rw[hp];(exact bw hS)
 have oy:=zzt he;obtain⟨t,rfl⟩:∃t:Nat,table=t:=⟨table.toNat,by omega⟩;have ht:t<ts.length:=by omega
 have AJ:t<bs.length:=by omega
 have EH:(bs.map lU++rest)[0+t*1]?=some (lU bs[t]):=by simp[zzy,AJ]
 obtain⟨m,hm,hS⟩:=DP.open ht AJ (SL.bo hS (t:=.ob (zg jm (bs.zip ts))::.pt p [Γ aw,Γ t,Γ key,.bool gone,.string val] 354::.pt bv (bs.map lU++rest) 281::F) Xi);refine⟨λvs w=>vs=[]/\(∀c,u7 ts[t] key=some c->¬aw<c.aw)/\SL W (.ob (dx KI tB bs[t] m)::.ob (zg jm ((bs.zip ts).eraseIdx t))::.pt p [Γ aw,Γ t,Γ key,.bool gone,.string val] 354::.pt bv (bs.map lU++rest) 281::F) w,?_,?_⟩
 ·refine yl hS ?_;clear hS;intro w hS;refine Gp ?_;refine zI ht (zV hS Xh EH ?_);refine Gp ?_;refine Y5 (z:=agg (tE ⟨0,0,false,⟨#[]⟩⟩)) hS Xh (ph .i64) vv5 xxg uux ?_;rw[hm.get];cases hg:u7 ts[t] key with
  | none=>
   simp only[vvm,ww2,uuu];refine Gm λb w hS=>?_;refine zV hS Xh EH (QX ?_);refine Gp ?_;refine Y5 (z:=agg (tE ⟨0,0,false,⟨#[]⟩⟩)) hS Xh (ph .i64) vv5 xxg uux ?_;rw[hm.get,hg];simp only[vvm,ww2,uuu];refine⟨trivial,?_⟩;simp only[tE];refine Gn λw hS=>?_;exact⟨by simp,λc hc=>(by cases hc),(by exact aR hS)⟩
  | some c=>
   simp only[yyo,xxq,uuv];refine Gm λb w hS=>?_;refine zV hS Xh EH (QX ?_);refine Gp ?_;refine Y5 (z:=agg (tE ⟨0,0,false,⟨#[]⟩⟩)) hS Xh (ph .i64) vv5 xxg uux ?_;rw[hm.get,hg];simp only[yyo,xxq,uuv];refine⟨trivial,?_⟩;simp only[tB,tE];refine Gn λw hS=>?_;refine za (λhl=>?_) (λhl=>?_)
   ·have hp:p8 ts[t] ⟨aw,t,key,gone,val⟩=(ts[t],false):=by unfold p8;simp only[hg,hl,ww0]
    rw[Ws (t:=t) rfl ht,hp];have hS:=DP.close (l:=.pt bv (bs.map lU++rest) 281::F) ht AJ hm (by exact aR hS);(exact bw hS)
   exact⟨by simp,λc' hc=>(by cases hc;exact hl),(by exact aR hS)⟩
 clear hS;rintro w ⟨-,sZ,hS⟩;have hp:p8 ts[t] ⟨aw,t,key,gone,val⟩=(lS ts[t] (cellOf ⟨aw,t,key,gone,val⟩),true):=by
  unfold p8;cases hg:u7 ts[t] key with
  | none=>simp only
  | some c=>simp only[sZ c hg,wwt]
 rw[Ws (t:=t) rfl ht,hp];refine Gm λb w hS=>?_;refine⟨λvs w=>vs=[]/\SL W (.pt b (tE (cellOf ⟨aw,t,key,gone,val⟩)) 450::.ob (dx KI tB bs[t] m)::.ob (zg jm ((bs.zip ts).eraseIdx t))::.pt p [Γ aw,Γ t,Γ key,.bool gone,.string val] 354::.pt bv (bs.map lU++rest) 281::F) w,?_,?_⟩
 ·refine Gp ?_;cases gone with
  | true=>
   refine zu ?_;refine Gn λw hS=>?_;simp only[cellOf,tE,ww0];exact aR hS
  | false=>
   refine zq ?_;refine⟨rfl,?_⟩;simp only[cellOf,tE,xxx,wwt];exact aR hS
 clear hS;rintro w ⟨-,hS⟩;refine yl hS ?_;clear hS;intro w hS;refine Gp ?_;refine zI ht (zV hS Xh EH ?_);refine Gp ?_;refine qQ (val:=tB) hS Xu (ph .i64) vv5 xxg ?_;clear hS;intro u w hS;have t_:rr (fN m key (cellOf ⟨aw,t,key,gone,val⟩)) (lS ts[t] (cellOf ⟨aw,t,key,gone,val⟩)):=hm.put (cellOf ⟨aw,t,key,gone,val⟩);have hS:=DP.close (l:=.pt bv (bs.map lU++rest) 281::F) ht AJ t_ (by exact aR hS);(exact bw hS)
def bgb(n:Int)(h:n<1\/8<n):SP 107 [Γ n] [] (bA (.tuple #[.pointer none,Γ 1]) []):=by
 refine Enzz λW F w hS=>?_;apply XR;delta aI bh bS ai bT bc;refine bj (λh1=>?_) (λh1=>?_)
 ·(exact bw hS)
 refine Gp ?_;refine za (λh2=>?_) (λh2=>by omega);(exact bw hS)
def bgc(n:Nat)(h1:1<=n)(h2:n<=8):SP 107 [Γ n] [] (λv post=>∃r:Nat,v= .tuple #[Δ r,Γ 0]/\post=[.ob (ig r (List.replicate n []))]):=by
 refine Enzz λW F w hS=>?_;apply XR;delta aI bh bS ai bT bc;refine Gp ?_;refine Χ ?_;refine Gp ?_;refine Χ ?_;refine Gp ?_;refine⟨_,rfl,zD hS ?_⟩;clear hS;intro r w hS;have hS:=bd.nil (t:=281) (sz:=1) hS;have hS:=zg.nil (A:=jm) hS;refine⟨λvs w=>∃(k:Nat) (v:Ε) (bs:Α),vs=[Γ k]/\k<=n/\bs.length=k/\SL W (.ob (zg jm (bs.zip (List.replicate k [])))::.ob (bd v 281 1 k (bs.map lU))::.pt r [v] 280::F) w,λvs _=>match vs with|[.int _ k]=>(n-k).toNat|_=>0,⟨0,_,[],rfl,by omega,rfl,hS⟩,?_⟩;clear hS;rintro KA w ⟨k,v,bs,dq,hk,EG,hS⟩;cases dq;refine bj (λh=>?_) (λh=>?_)
 ·refine Gp ?_;refine bxj (key:=KI) (val:=tB) (p:=λb w'=>zm (bE [.map none] 1) [(0,1,(.map (some b)))] 281 1 w' _) hS ?_;clear hS;intro b w hS;have hS:SL W (.ob (jm (b,[]))::_) w:=jm.iff.2 ⟨[],rr.nil,hS⟩;refine zR (cells:=[lU b]) hS (by simp[gT,bE,Value.cells]) ?_;clear hS;intro b2 w hS;refine zL (n:=k) (m:=1) (cells:=bs.map lU) hS Xr (jx (cs:=[lU b]) hS .hd rfl) rfl rfl (by simp[Value.oneCell']) (by omega) (by omega) ?_;clear hS;intro v' w hS;have h1:=bd.one hS;have hS:=zg.snoc (A:=jm) (x:=(b,[])) (xs:=bs.zip (List.replicate k [])) (l:=.ob (bd v' 281 1 (k+1) (bs.map lU++[lU b]))::.pt r [v] 280::F) (by exact aR hS);refine Gn λw hS=>?_;refine⟨⟨k+1,v',bs++[b],rfl,(by omega),(by simp[EG]),?_⟩,(by dsimp only;omega)⟩;have e:(bs++[b]).zip (List.replicate (k+1) ([]:List Cell))=bs.zip (List.replicate k [])++[(b,[])]:=by
   rw[List.replicate_succ',List.zip_append (by simp[EG])];rfl
  rw[e,zzr,zzp,yy6];exact aR hS
 obtain rfl:k=n:=by omega
 rcases bd.open (Has.front hS Xr) with ⟨_,h0,_⟩|⟨bv,cap,rest,rfl,hc,hl,hr,hS⟩
 ·omega
 have hS:SL W (.ob (ig r (List.replicate k []))::F) w:=ig.iff.2 ⟨bv,cap,rest,bs,⟨by simp[EG],by simpa using h2,λC hC=>by
  obtain⟨_,rfl⟩:=vv6.1 hC;exact⟨List.Pairwise.nil,by simp⟩⟩,by rw[xxm];exact aR hS⟩
 exact⟨_,⟨r,rfl,rfl⟩,hS⟩
def qK(r:Nat)(ts:List (List Cell)):SP 232 [Δ r] [.ob (ig r ts)] (bA (Γ ts.length) [.ob (ig r ts)]):=by
 refine Enzz λW F w hS=>?_;apply bFs;delta bh;obtain⟨bv,cap,rest,bs,hA,hS⟩:=ig.iff.1 hS;refine Gp ?_;have hS:=ig.iff.2 ⟨bv,cap,rest,bs,hA,hS⟩;(exact bw hS)
def bgj(H:a_)(r:Nat)(ts:List (List Cell))(v:Ε)(ops:List fB)(hv:cn H 5 v ops.length (ops.map iR).flatten)(hn:ops.length<=1000000)(hk:∀o∈ops,kJ o.key):
  SP 234 [Δ r,v] [.mem H,.ob (ig r ts)] (bA (Γ ((ep ts ops).2:Nat)) [.mem H,.ob (ig r (ep ts ops).1)]):=by
 refine Enzz λW F w hS=>?_;apply bFu;delta aI bh ai bK;refine zn hv ?_;refine⟨λvs w=>∃k:Nat,vs=[Γ ((ep ts (ops.take k)).2:Nat),Γ k]/\k<=ops.length/\SL W (.mem H::.ob (ig r (ep ts (ops.take k)).1)::F) w,λvs _=>match vs with|[_,.int _ k]=>(ops.length-k).toNat|_=>0,⟨0,rfl,by omega,hS⟩,?_⟩;clear hS;rintro v5 v10 w ⟨k,dq,o_,hS⟩;cases dq;refine bj (λh=>?_) (λh=>?_)
 ·have gV:k<ops.length:=by omega
  have hx:ops[k]?=some ops[k]:=by simp[gV]
  refine zB hS Xh bdg hv hx gV ?_;obtain⟨bv,cap,rest,bs,hA,hS⟩:=ig.iff.1 (SL.bo hS (t:=.ob (ig r (ep ts (ops.take k)).1)::.mem H::F) Xi);refine zD hS ?_;clear hS;intro p w hS;refine zr (vs:=iR ops[k]) hS Xu rfl rfl (B4 _) ?_;clear hS;intro w hS;refine Gn λw hS=>?_;refine Cc (Qy bv cap rest bs (ep ts (ops.take k)).1 ops[k] hA.1) ?_;clear hS;rintro v post ⟨rfl,rfl⟩ w hS;try simp only[app]at hS
  have wX:ep ts (ops.take (k+1))=((kP (ep ts (ops.take k)).1 ops[k]).1,(ep ts (ops.take k)).2+if (kP (ep ts (ops.take k)).1 ops[k]).2 then 1 else 0):=by
   rw[zze gV,btm];simp[ep]
  have hle:(ep ts (ops.take k)).2<=k:=yy1 (btn _ _) (by simp;omega);have hS:=ig.iff.2 ⟨bv,cap,rest,bs,⟨by rw[FY];exact hA.1,by rw[FY];exact hA.2.1,V3 hA.2.2 (hk _ (zzk gV))⟩,(by rw[FY];exact SL.bo hS (t:=.pt r [.slice (some ⟨bv,0,none⟩) (ep ts (ops.take k)).1.length cap] 280::.pt bv (bs.map lU++rest) 281::.ob (zg jm (bs.zip (kP (ep ts (ops.take k)).1 ops[k]).1))::.mem H::F) Xi)⟩;cases o0:(kP (ep ts (ops.take k)).1 ops[k]).2 with
  | true=>
   refine zu ?_;refine Gp ?_;refine⟨⟨k+1,(by rw[wX,o0];simp),(by omega),(by rw[wX];exact aR hS)⟩,(by dsimp only;omega)⟩
  | false=>
   refine zq ?_;refine Gp ?_;refine⟨⟨k+1,(by rw[wX,o0];simp),(by omega),(by rw[wX];exact aR hS)⟩,(by dsimp only;omega)⟩
 obtain rfl:k=ops.length:=by omega
 rw[zz0]at hS ⊢
 (exact bw hS)
structure cO where
 file:Int
 first:Int
 size:Nat
 es:List ng
 a:Option Addr
 c:Nat
def cO.lv(x:cO):Ε:=.slice x.a x.es.length x.c
def cO.pl(x:cO):b6:=⟨x.file,x.first,x.size,nW x.es⟩
def ez(x:cO):Ξ:=[Γ x.file,Γ x.first,Γ x.size,x.lv]
def Gl(x:cO):(ez x).length=4:=rfl
def xV(es:List ng):(nW es).length=es.length:=by simp[nW]
def cV(x:cO):zC:=zF True [.ob (cz x.lv 28 1 x.es.length (fF x.es)),.ob (zg fP x.es)]
def cV.iff{W w:Ζ}{x:cO}{l:Β}:SL W (.ob (cV x)::l) w↔SL W (.ob (cz x.lv 28 1 x.es.length (fF x.es))::.ob (zg fP x.es)::l) w:=by
 unfold cV;simp only[SL.fact,zzn,zzo,uus]
def dS(v:Ε)(t:Option xL):zC:=match t with
 | none=>zF (v= .pointer none) []
 | some x=>iX λb:Nat=>zF (v= Δ b) [.pt b [Γ x.file,Γ x.nG,.bool x.fresh] 410]
def xN{W w:Ζ}{v:Ε}{l:Β}:SL W (.ob (dS v none)::l) w↔v= .pointer none/\SL W l w:=by
 unfold dS;simp only[SL.fact,zzo]
def xO{W w:Ζ}{v:Ε}{x:xL}{l:Β}:SL W (.ob (dS v (some x))::l) w↔∃b:Nat,v= Δ b/\SL W (.pt b [Γ x.file,Γ x.nG,.bool x.fresh] 410::l) w:=by
 unfold dS;simp only[SL.ex,SL.fact,zzn,zzo]
def aw0{W w:Ζ}{v:Ε}{t:Option xL}{l:Β}(h:SL W (.ob (dS v t)::l) w):v.oneCell'=true:=by
 cases t with
 | none=>rw[(xN.1 h).1];rfl
 | some x=>obtain⟨b,rfl,_⟩:=xO.1 h;rfl
abbrev dC(sv tv:Ε)(dp:Nat)(base size:Int):Ξ:=[sv,Δ dp,Γ base,Γ size,tv]
abbrev dA(sv:Ε)(xs:List cO):Μ:=.ob (cz sv 265 4 xs.length (xs.map ez).flatten)
abbrev K1(lp dp:Nat)(base size:Int)(t:Option xL)(sv tv:Ε)(xs:List cO):Β:=[.pt lp (dC sv tv dp base size) 173,dA sv xs,.ob (zg cV xs),.ob (dS tv t)]
def b7(lp dp:Nat)(g:bV):zC:=iX λx:Ε × Ε × List cO=>zF (x.2.2.map cO.pl=g.bf) (K1 lp dp g.base g.size g.cC x.1 x.2.1 x.2.2)
def b7.iff{W w:Ζ}{lp dp:Nat}{g:bV}{l:Β}:SL W (.ob (b7 lp dp g)::l) w↔∃sv tv xs,xs.map cO.pl=g.bf/\SL W (.pt lp (dC sv tv dp g.base g.size) 173::dA sv xs::.ob (zg cV xs)::.ob (dS tv g.cC)::l) w:=by
 unfold b7 K1;simp only[SL.ex,SL.fact,zzn,zzo];exact⟨λ⟨x,h1,h2⟩=>⟨x.1,x.2.1,x.2.2,h1,h2⟩,λ⟨a,b,c,h1,h2⟩=>⟨(a,b,c),h1,h2⟩⟩
section
variable {W w:Ζ} {l:Β}
def ZU{v:Ε}{xs:List cO}{j:Nat}{k:IntKind}{K:Ε->Prop}(h:SL W l w)(m:Has (dA v xs) l)(hj:j<xs.length)(hK:K (.agg (ez xs[j]).toArray)):zl 4 v (.int k (j:Int)) λp=>zf 4 p w K:=by
 refine y3 h m hj λb o hb=>⟨⟨b,o,none⟩,ez xs[j],rfl,rfl,λi u hu=>?_,hK⟩;rw[zz9];have hi:i<4:=(zzh.1 hu).1;exact hb i u hi (HT Gl hj hu)
def Y6{v u:Ε}{xs:List cO}{i j:Nat}{k:IntKind}{K:Ε->Prop}(h:SL W l w)(m:Has (dA v xs) l)(hj:j<xs.length)(hu:(ez xs[j])[i]?=some u)(hK:K u):zl 4 v (.int k (j:Int)) λp=>zk i p λq=>bu q w K:=by
 refine y3 h m hj λb o hb=>?_;refine yI ?_;have hi:i<4:=(zzh.1 hu).1;exact⟨_,u,rfl,hb i u hi (HT Gl hj hu),hK⟩
end
def SH(xs:List cO):(xs.map ez).flatten.length=xs.length*4:=by
 induction xs with
 | nil=>rfl
 | cons x xs ih=>simp[ih,Gl];omega
def yV(f n s:Int)(a:Option Addr)(k c:Nat)(h : -1000000000000000<=n/\n<=1000000000000000)(hk:k<=1000000000000000):SP 154 [.agg #[Γ f,Γ n,Γ s,.slice a k c]] [] (bA (Γ (n+k)) []):=by
 refine Enzz λW F w hS=>?_;apply bDp;delta aW;refine⟨[Γ f,Γ n,Γ s,.slice a k c],rfl,?_⟩;refine Gm λb w hS=>?_;(exact bw hS)
def Zb(x:cO){N:Nat}(h:j7 x.pl N)(hN:N<=1000000000000000):SP 154 [.agg (ez x).toArray] [] (bA (Γ x.pl.next) []):=by
 have h1:=h.n0;have h2:=h.n1;have h3:=h.ln;have e:x.pl.next=x.first+x.es.length:=by simp[b6.next,cO.pl,xV]
 rw[e];have h3:x.es.length<=N:=by simpa [cO.pl,xV] using h3
 exact yV x.file x.first x.size x.a x.es.length x.c (by simp only[cO.pl]at h1 h2;omega) (by omega)
def yi(lp:Nat)(cs:Ξ)(t:Ι)(sv:Ε)(xs:List cO)(gU:cs[0]?=some sv){N:Nat}(h:∀s∈xs.map cO.pl,j7 s N)(hN:N<=1000000000000000)(hl:xs.length<=1000000000000000):
  SP 93 [Δ lp] [.pt lp cs t,dA sv xs] (bA (Γ (bH (xs.map cO.pl))) [.pt lp cs t,dA sv xs]):=by
 refine Enzz λW F w hS=>?_;apply bJ1;delta aI bh ai;refine Gp ?_;refine zV hS .hd gU ?_;refine zO hS Xh ?_;refine Gp ?_;have hh:=sW h;refine za (λh0=>?_) (λh0=>?_)
 ·have:xs=[]:=zzl (by omega);subst this;(exact bw hS)
 refine Gn λw hS=>?_;refine zV hS .hd gU ?_;refine Gp ?_;refine zV hS .hd gU ?_;refine zO hS Xh ?_;refine Gp ?_;have e:((xs.length:Nat):Int)-1=((xs.length-1:Nat):Int):=by omega
 rw[e];have hj:xs.length-1<xs.length:=by omega
 refine ZU hS Xh hj ?_;have hm:(xs[xs.length-1]'hj).pl∈xs.map cO.pl:=zz5.2 ⟨_,zzk hj,rfl⟩;have hg:bH (xs.map cO.pl)=(xs[xs.length-1]'hj).pl.next-1:=by
  unfold bH;rw[uub,wwc,zzd hj];rfl
 have bC:=h _ hm;rw[hg]at hh ⊢
 refine Cg (Zb _ bC hN) λw hS=>?_;exact bw hS
def bn7(lp:Nat)(cs:Ξ)(t:Ι)(sv:Ε)(xs:List cO)(gU:cs[0]?=some sv)(hl:xs.length<=1000000000000000):
  SP 94 [Δ lp] [.pt lp cs t,dA sv xs] (bA (Γ (dH (xs.map cO.pl))) [.pt lp cs t,dA sv xs]):=by
 refine Enzz λW F w hS=>?_;apply bJ2;delta aI bh aW ai;refine Gp ?_;refine zV hS .hd gU ?_;refine zO hS Xh ?_;refine bj (λh0=>?_) (λh0=>?_)
 ·have:xs=[]:=zzl (by omega);subst this;(exact bw hS)
 cases xs with
 | nil=>simp at h0
 | cons x xs=>
  refine Gp ?_;refine zV hS .hd gU ?_;refine Y6 (j:=0) (i:=1) hS Xh (by simp) (u:=Γ x.first) rfl ?_;exact⟨_,⟨rfl,rfl⟩,hS⟩
def zg.back{W w:Ζ}{l:Β}{α:Type}{A:α->zC}{xs:List α}{t:Nat}{x:α}(h:SL W (.ob (A x)::.ob (zg A (xs.eraseIdx t))::l) w)(hx:xs[t]?=some x):SL W (.ob (zg A xs)::l) w:=by
 obtain⟨ht,e⟩:=zzh.1 hx;have:=zg.put h ht
 rwa [<- e,List.set_getElem_self]at this
def bKu(x:cO):x.pl.next=x.first+x.es.length:=by simp[b6.next,cO.pl,xV]
def bu8(xs:List cO)(i:Nat)(n:Int):lY ((xs.drop i).map cO.pl) n=match xs[i]? with
 | none=>none
 | some x=>if x.first<=n/\n<x.pl.next then (nW x.es)[(n-x.first).toNat]? else lY ((xs.drop (i+1)).map cO.pl) n:=by
 cases h:xs[i]? with
 | none=>
  have:xs.drop i=[]:=xxb (by rw[List.getElem?_eq_none_iff]at h;exact h);rw[this];rfl
 | some x=>
  obtain⟨hi,e⟩:=zzh.1 h;rw[yyn hi,e];rfl
def DK(pre:Β)(o:Option Φ)(r:Ε)(post:Β):Prop:=match o with
 | none=>r= .tuple #[Θ,Γ 5]/\post=pre
 | some b=>∃u,r= .tuple #[u,Γ 0]/\post= .ob (bd u 5 1 b.length (b.map bU))::pre
def QR(lp:Nat)(cs:Ξ)(t:Ι)(sv:Ε)(xs:List cO)(n:Int)(gU:cs[0]?=some sv){N:Nat}(h:∀s∈xs.map cO.pl,j7 s N)(hN:N<=1000000000000000)(hl:xs.length<=1000000000000000)(hn : -9000000000000000000<=n/\n<=9000000000000000000):
  SP 162 [Δ lp,Γ n] [.pt lp cs t,dA sv xs,.ob (zg cV xs)] (DK [.pt lp cs t,dA sv xs,.ob (zg cV xs)] (lY (xs.map cO.pl) n)):=by
 refine Enzz λW F w hS=>?_;apply bDy;delta aI bh aW ai bc;refine Gp ?_;refine zV hS .hd gU ?_;refine zO hS Xh ?_;refine⟨λvs w=>∃i:Nat,i<=xs.length/\vs=[Γ i]/\lY (xs.map cO.pl) n=lY ((xs.drop i).map cO.pl) n/\SL W (.pt lp cs t::dA sv xs::.ob (zg cV xs)::F) w,λvs _=>match vs with
  | [.int _ i]=>xs.length-i.toNat
  | _=>0,⟨0,by omega,rfl,rfl,hS⟩,?_⟩
 clear hS;rintro v1 w1 ⟨i,hi,hv,hr,hS⟩;cases hv;rw[bu8]at hr
 refine bj (λh0=>?_) (λh0=>?_)
 ·have hj:i<xs.length:=by omega
  have hx:xs[i]?=some xs[i]:=zzd hj;refine ZU hS Xh hj ?_;have bC:=h _ (zz5.2 ⟨_,zzk hj,rfl⟩);rw[hx]at hr
  simp only at hr;generalize xs[i]=x at *
  have oA:=bKu x;unfold ez cO.lv;refine Gm λb w hS=>?_;refine za (λh1=>?_) (λh1=>?_)
  ·refine Gp ?_;refine Cg (Zb x bC hN) λw hS=>?_;refine za (λh2=>?_) (λh2=>?_)
   ·rw[zzc ⟨h1,h2⟩]at hr
    have EW:=bC.n0;have hh2:=bC.n1;simp only[cO.pl]at EW hh2;refine Gp ?_;obtain⟨j,IB⟩:=xxs (show 0<=n-x.first by omega);have fY:j<x.es.length:=by omega
    rw[IB]at hr ⊢
    have hS:=zg.take (SL.bo hS (t:=.ob (zg cV xs)::.pt lp cs t::dA sv xs::F) Xi) hx;have hS:=cV.iff.1 hS;unfold cO.lv at hS;refine y3 (j:=j) hS .hd fY λb o hb=>?_;have TD:x.es[j]?=some x.es[j]:=zzd fY;have nI:(fF x.es)[j*1+0]?=some x.es[j].1:=by simp[fF,fY]
    refine⟨_,_,rfl,hb 0 _ (by omega) nI,?_⟩;have hS:=zg.take (SL.bo hS (t:=.ob (zg fP x.es)::.ob (cz (.slice x.a x.es.length x.c) 28 1 x.es.length (fF x.es))::.ob (zg cV (xs.eraseIdx i))::.pt lp cs t::dA sv xs::F) Xi) TD;have o7:x.es[j].2.length<=1048576:=bC.bl _ (zz5.2 ⟨_,zzk fY,rfl⟩);have hby:(nW x.es)[((j:Int)).toNat]?=some x.es[j].2:=by simp[nW,fY]
    rw[hby]at hr
    rw[hr];generalize x.es[j]=e at *
    have hR:cK (.ob (fP e)) e.1 e.2:=cK.own;obtain⟨ea,ec,ee,_⟩:=hR.sl hS .hd;have nF:=hR;rw[ee]at nF ⊢
    refine Zm (cs:=e.2.map bU) hS (λw' c fR=>nF.src fR (.tl .hd)) (by simp) (uE _) (by omega) ?_;clear hS;intro u w hS _;have hS:=zg.back (SL.bo hS (t:=.ob (fP e)::.ob (zg fP (x.es.eraseIdx j))::.ob (cz (.slice x.a x.es.length x.c) 28 1 x.es.length (fF x.es))::.ob (bd u 5 1 e.2.length (e.2.map bU))::.ob (zg cV (xs.eraseIdx i))::.pt lp cs t::dA sv xs::F) Xi) TD;have hS:=(cV.iff (x:=x)).2 (SL.bo hS (t:=.ob (cz (.slice x.a x.es.length x.c) 28 1 x.es.length (fF x.es))::.ob (zg fP x.es)::.ob (bd u 5 1 e.2.length (e.2.map bU))::.ob (zg cV (xs.eraseIdx i))::.pt lp cs t::dA sv xs::F) Xi);have hS:=zg.back (SL.bo hS (t:=.ob (cV x)::.ob (zg cV (xs.eraseIdx i))::.ob (bd u 5 1 e.2.length (e.2.map bU))::.pt lp cs t::dA sv xs::F) Xi) hx;exact⟨.ob (bd u 5 1 e.2.length (e.2.map bU))::[.pt lp cs t,dA sv xs,.ob (zg cV xs)],⟨u,rfl,rfl⟩,aR hS⟩
   rw[zzb (by omega)]at hr
   refine Gp ?_;refine⟨⟨i+1,by omega,rfl,hr,aR hS⟩,?_⟩;simp only[zzw];omega
  rw[zzb (by omega)]at hr
  refine Gp ?_;refine⟨⟨i+1,by omega,rfl,hr,aR hS⟩,?_⟩;simp only[zzw];omega
 have hx:xs[i]?=none:=yyt (by omega);rw[hx]at hr
 rw[hr];exact⟨_,⟨rfl,rfl⟩,hS⟩
def bo3(bf:List b6)(base size:Int)(x:xL)(d:DS):cw ⟨bf,base,size,some x⟩ d =
  ((⟨bf,base,size,if (if x.fresh=true then d.remove x.file else d.cut x.file x.nG).2=0 then none else some x⟩,(if x.fresh=true then d.remove x.file else d.cut x.file x.nG).1),(if x.fresh=true then d.remove x.file else d.cut x.file x.nG).2):=rfl
def QF(lp dp:Nat)(g:bV)(d:DS)(N:Nat)(bC:d.Ok N)(hN:N<=140737488355328)(cZ:d.ops<=100000):
  SP 238 [Δ lp] [.ob (b7 lp dp g),.ob (bm dp d)] (bA (Γ (cw g d).2) [.ob (b7 lp dp (cw g d).1.1),.ob (bm dp (cw g d).1.2)]):=by
 refine Enzz λW F w hS=>?_;apply bFy;delta aI bh bS ai bT;obtain⟨sv,tv,xs,hx,hS⟩:=b7.iff.1 hS;obtain⟨bf,base,size,cC⟩:=g;simp only at hx hS;cases cC with
 | none=>
  rw[show cw ⟨bf,base,size,none⟩ d=((⟨bf,base,size,none⟩,d),0) from rfl];obtain⟨rfl,hS⟩:=xN.1 (SL.bo hS (t:=.ob (dS tv none)::.pt lp (dC sv tv dp base size) 173::dA sv xs::.ob (zg cV xs)::.ob (bm dp d)::F) Xi);refine Gp ?_;refine zu ?_;have hS:=(xN (v:=.pointer none)).2 ⟨rfl,hS⟩;exact⟨_,⟨rfl,rfl⟩,b7.iff.2 ⟨sv,.pointer none,xs,hx,aR hS⟩⟩
 | some x=>
  obtain⟨tb,rfl,hS⟩:=xO.1 (SL.bo hS (t:=.ob (dS tv (some x))::.pt lp (dC sv tv dp base size) 173::dA sv xs::.ob (zg cV xs)::.ob (bm dp d)::F) Xi);rw[bo3];refine Gp ?_;refine zq ?_;refine Gp ?_;refine yJ (λhf=>?_) (λhf=>?_)
  ·simp only[zzc hf];refine Gn λw hS=>?_;refine Cg (yR dp d N bC cZ x.file) λw hS=>?_;refine za (λh=>?_) (λh=>?_)
   ·rw[zzc h];refine Gn λw hS=>?_;have hS:=(xN (v:=.pointer none)).2 ⟨rfl,hS⟩;exact⟨_,⟨rfl,rfl⟩,b7.iff.2 ⟨sv,.pointer none,xs,hx,aR hS⟩⟩
   rw[zzb h];have hS:=(xO (v:=Δ tb) (x:=x)).2 ⟨tb,rfl,SL.bo hS (t:=.pt tb [Γ x.file,Γ x.nG,.bool x.fresh] 410::.pt lp (dC sv (Δ tb) dp base size) 173::dA sv xs::.ob (zg cV xs)::.ob (bm dp (d.remove x.file).1)::F) Xi⟩;exact⟨_,⟨rfl,rfl⟩,b7.iff.2 ⟨sv,_,xs,hx,aR hS⟩⟩
  have hf:¬x.fresh=true:=by rw[hf];decide
  simp only[zzb hf];refine Gn λw hS=>?_;refine Cg (Zs dp d N bC hN cZ x.file x.nG) λw hS=>?_;refine za (λh=>?_) (λh=>?_)
  ·rw[zzc h];refine Gn λw hS=>?_;have hS:=(xN (v:=.pointer none)).2 ⟨rfl,hS⟩;exact⟨_,⟨rfl,rfl⟩,b7.iff.2 ⟨sv,.pointer none,xs,hx,aR hS⟩⟩
  rw[zzb h];have hS:=(xO (v:=Δ tb) (x:=x)).2 ⟨tb,rfl,SL.bo hS (t:=.pt tb [Γ x.file,Γ x.nG,.bool x.fresh] 410::.pt lp (dC sv (Δ tb) dp base size) 173::dA sv xs::.ob (zg cV xs)::.ob (bm dp (d.cut x.file x.nG).1)::F) Xi⟩;exact⟨_,⟨rfl,rfl⟩,b7.iff.2 ⟨sv,_,xs,hx,aR hS⟩⟩
def aif(lp dp:Nat)(g:bV)(d:DS)(X:Μ)(p:Φ)(y:Except Int gq)(r:Ε)(post:Β):Prop:=match y with
 | .error e=>(∃z,r= .tuple #[.agg #[Γ 0,.bool false,Θ],Γ z]/\z=e/\z≠0)/\post=[.ob (b7 lp dp g),.ob (bm dp d),X]
 | .ok x=>∃a c,r= .tuple #[.agg #[Γ x.file,.bool x.fresh,.slice a x.b.length c],Γ 0]/\post=[.ob (bd (.slice a x.b.length c) 5 1 x.b.length (x.b.map bU)),.ob (b7 lp dp g),.ob (bm dp d),X]
def bV.Ok.xs{g:bV}{N:Nat}(h:g.Ok N){xs:List cO}(hx:xs.map cO.pl=g.bf):(∀s∈xs.map cO.pl,j7 s N)/\xs.length<=N/\0<=bH g.bf/\bH g.bf<=1099511627776+N:=by
 refine⟨by rw[hx];exact h.bf,?_,sW h.bf⟩;have:=h.ln;rw[<- hx,zzv]at this;exact this
def QN(X:Μ)(lp dp:Nat)(g:bV)(d:DS)(v:Ε)(p:Φ)(hv:cK X v p)(hp:p.length<=140737488355328){M:Nat}(hg:g.Ok M)(hM:M<=1000000000000000):
  SP 237 [Δ lp,v] [.ob (b7 lp dp g),.ob (bm dp d),X] (aif lp dp g d X p (dE g d.off p)):=by
 refine Enzz λW F w hS=>?_;apply bFx;delta aI bh aW bk GX ai bc;obtain⟨sv,tv,xs,hx,hS⟩:=b7.iff.1 hS;obtain⟨bC,hl,hh0,EW⟩:=hg.xs hx;have sV:=hg.b0;have Cm:=hg.b1;have w_:=hg.s1;have w9:=hg.s0;have nH:bH (xs.map cO.pl)=bH g.bf:=by rw[hx]
 refine Gm λb w hS=>?_;refine Cc (Z9 X v p hv hp) ?_;clear hS;rintro r post hQ w hS;unfold sB at hQ;by_cases wH:1048576<p.length
 ·rw[zzc wH]at hQ
  obtain⟨rfl,rfl⟩:=hQ;have dm:dE g d.off p= .error 1:=by unfold dE;rw[zzc wH]
  rw[dm];(try simp only[app]at hS);refine Gp ?_
  refine Υ ?_;refine Gn λw hS=>?_;exact⟨_,⟨⟨1,rfl,rfl,by decide⟩,rfl⟩,SL.bo (b7.iff.2 ⟨sv,tv,xs,hx,SL.bo hS (t:=.pt lp (dC sv tv dp g.base g.size) 173::dA sv xs::.ob (zg cV xs)::.ob (dS tv g.cC)::.ob (bm dp d)::X::F) Xi⟩) Xi⟩
 rw[zzb wH]at hQ
 obtain⟨u,rfl,rfl⟩:=hQ;try simp only[app]at hS
 have hu:=hS.p6 .hd;obtain⟨au,cu,eu,_⟩:=bd.at hS .hd;subst eu;refine Gp ?_;refine Χ ?_;refine Gp ?_;refine Cg (zH dp d) λw hS=>?_;have gg:∀{w:Ζ} {l:Β},SL W (.pt lp (dC sv tv dp g.base g.size) 173::dA sv xs::.ob (zg cV xs)::.ob (dS tv g.cC)::l) w->SL W (.ob (b7 lp dp g)::l) w:=λh=>b7.iff.2 ⟨sv,tv,xs,hx,h⟩;refine yJ (λho=>?_) (λho=>?_)
 ·have dm:dE g d.off p= .error 8:=by unfold dE;rw[zzb wH,zzc ho]
  rw[dm];refine Gn λw hS=>?_;exact⟨_,⟨⟨8,rfl,rfl,by decide⟩,rfl⟩,SL.bo (gg (SL.bo hS (t:=.pt lp (dC sv tv dp g.base g.size) 173::dA sv xs::.ob (zg cV xs)::.ob (dS tv g.cC)::.ob (bm dp d)::X::F) Xi)) Xi⟩
 refine Gp ?_;refine Cg (yi lp (dC sv tv dp g.base g.size) 173 sv xs rfl bC hM (by omega)) λw hS=>?_;rw[nH];refine za (λh1=>?_) (λh1=>?_)
 ·have dm:dE g d.off p= .error 7:=by unfold dE;rw[zzb wH,zzb (by rw[ho];decide),zzc h1]
  rw[dm];refine Gn λw hS=>?_;exact⟨_,⟨⟨7,rfl,rfl,by decide⟩,rfl⟩,SL.bo (gg (SL.bo hS (t:=.pt lp (dC sv tv dp g.base g.size) 173::dA sv xs::.ob (zg cV xs)::.ob (dS tv g.cC)::.ob (bm dp d)::X::F) Xi)) Xi⟩
 refine Gp ?_;refine⟨λvs w=>∃f:Int,vs=[Γ f]/\dE g d.off p=mi g f p/\-1000000<=f/\f<=1000000/\SL W (.pt b [Γ 0,.bool false,Θ] 308::.pt lp (dC sv tv dp g.base g.size) 173::dA sv xs::.ob (zg cV xs)::.ob (dS tv g.cC)::.ob (bm dp d)::.ob (bd (.slice au (bY p).length cu) 5 1 (bY p).length ((bY p).map bU))::X::F) w,?_,?_⟩
 ·refine Gp ?_;refine zO hS Xh ?_;refine bj (λh2=>?_) (λh2=>?_)
  ·refine Gp ?_;have e:((xs.length:Nat):Int)-1=((xs.length-1:Nat):Int):=by omega
   rw[e];have hj:xs.length-1<xs.length:=by omega
   refine ZU hS Xh hj ?_;have hm:(xs[xs.length-1]'hj).pl∈xs.map cO.pl:=zz5.2 ⟨_,zzk hj,rfl⟩;have mn:g.bf.getLast?=some (xs[xs.length-1]'hj).pl:=by
    rw[<- hx,uub,wwc,zzd hj];rfl
   have mu:=bC _ hm;generalize xs[xs.length-1]'hj=x at *
   have rW:dE g d.off p=if x.pl.l.length=0\/(x.pl.size:Int)+(bY p).length<=g.size then .ok ⟨x.pl.file,false,bY p⟩ else mi g (x.pl.file+1) p:=by
    unfold dE;rw[zzb wH,zzb (by rw[ho];decide),zzb (by omega),mn]
   have iL:x.pl.l.length=x.es.length:=by simp[cO.pl,xV]
   have UB:x.pl.size=x.size:=rfl;have AM:x.pl.file=x.file:=rfl;have k1:=mu.f0;have k2:=mu.f1;have k3:=mu.sz;rw[iL,UB,AM]at rW
   rw[AM]at k1 k2
   rw[UB]at k3
   have vw:=jX p;unfold ez cO.lv;refine Gm λb w hS=>?_;refine za (λh3=>?_) (λh3=>?_)
   ·rw[zzc (.inl (by omega))]at rW
    rw[rW];refine Gn λw hS=>?_;exact⟨_,⟨au,cu,rfl,rfl⟩,SL.bo (gg (SL.bo hS (t:=.pt lp (dC sv tv dp g.base g.size) 173::dA sv xs::.ob (zg cV xs)::.ob (dS tv g.cC)::.ob (bd (.slice au (bY p).length cu) 5 1 (bY p).length ((bY p).map bU))::.ob (bm dp d)::X::F) Xi)) Xi⟩
   refine bj (λh4=>?_) (λh4=>?_)
   ·rw[zzc (.inr (by omega))]at rW
    rw[rW];refine Gn λw hS=>?_;exact⟨_,⟨au,cu,rfl,rfl⟩,SL.bo (gg (SL.bo hS (t:=.pt lp (dC sv tv dp g.base g.size) 173::dA sv xs::.ob (zg cV xs)::.ob (dS tv g.cC)::.ob (bd (.slice au (bY p).length cu) 5 1 (bY p).length ((bY p).map bU))::.ob (bm dp d)::X::F) Xi)) Xi⟩
   rw[zzb (by omega)]at rW
   refine Gp ?_;exact⟨x.file+1,rfl,rW,by omega,by omega,aR hS⟩
  have rW:dE g d.off p=mi g g.base p:=by
   have IN:g.bf=[]:=by
    rw[<- hx];have:xs=[]:=zzl (by omega);rw[this];rfl
   unfold dE;rw[zzb wH,zzb (by rw[ho];decide),zzb (by omega),IN];rfl
  exact⟨g.base,rfl,rW,by omega,by omega,aR hS⟩
 clear hS;rintro v8 w ⟨f,dq,rW,f0,f1,hS⟩;cases dq;rw[rW];unfold mi;refine bj (λh2=>?_) (λh2=>?_)
 ·rw[zzc h2];refine Gn λw hS=>?_;exact⟨_,⟨⟨7,rfl,rfl,by decide⟩,rfl⟩,SL.bo (gg (SL.bo hS (t:=.pt lp (dC sv tv dp g.base g.size) 173::dA sv xs::.ob (zg cV xs)::.ob (dS tv g.cC)::.ob (bm dp d)::X::F) Xi)) Xi⟩
 rw[zzb h2];refine Gp ?_;refine Cg (yi lp (dC sv tv dp g.base g.size) 173 sv xs rfl bC hM (by omega)) λw hS=>?_;rw[nH];refine Cc (qa (bH g.bf+1)) ?_;clear hS;rintro r post hQ w hS;unfold Gu at hQ;rw[zzb (by omega)]at hQ
 obtain⟨y,rfl,rfl⟩:=hQ;try simp only[app]at hS
 have hy:=hS.p6 .hd;obtain⟨ay,cy,ey,_⟩:=bd.at hS .hd;subst ey;refine Gm λb w hS=>?_;refine yF (F:=_) (ZE _ 2 _ [_,_] [bY (cW (bH g.bf+1).toNat),bY p] [.ob (bd (.slice ay (bY (cW (bH g.bf+1).toNat)).length cy) 5 1 (bY (cW (bH g.bf+1).toNat)).length ((bY (cW (bH g.bf+1).toNat)).map bU)),.ob (bd (.slice au (bY p).length cu) 5 1 (bY p).length ((bY p).map bU))] rfl rfl ?_ ?_ (by omega)) hS Xp ?_
 ·intro i hi
  match i,hi with
  | 0,_=>exact⟨_,.hd,cK.own⟩
  | 1,_=>exact⟨_,.tl .hd,cK.own⟩
 ·have:=jX p;have:=jX (cW (bH g.bf+1).toNat);have:=Ap (bH g.bf+1).toNat;simp;omega
 clear hS;rintro c post rfl w hS;(try simp only[app]at hS);have e2:[bY (cW (bH g.bf+1).toNat),bY p].flatten=bY (cW (bH g.bf+1).toNat)++bY p:=by simp
 rw[e2]at hS
 have hc:=hS.p6 .hd;obtain⟨ac,cc,ec,_⟩:=bd.at hS .hd;subst ec;refine Gn λw hS=>?_;have e3:(bY (cW (bH g.bf+1).toNat)).length+(bY p).length=(bY (cW (bH g.bf+1).toNat)++bY p).length:=by rw[zza]
 rw[e3];exact⟨_,⟨ac,cc,rfl,rfl⟩,SL.bo (gg (SL.bo hS (t:=.pt lp (dC sv tv dp g.base g.size) 173::dA sv xs::.ob (zg cV xs)::.ob (dS tv g.cC)::.ob (bd (.slice ac (bY (cW (bH g.bf+1).toNat)++bY p).length cc) 5 1 (bY (cW (bH g.bf+1).toNat)++bY p).length ((bY (cW (bH g.bf+1).toNat)++bY p).map bU))::.ob (bm dp d)::X::F) Xi)) Xi⟩
def awr(lp dp:Nat)(g:bV)(d:DS)(X:Μ)(y:Except Int gq)(r:Ε)(post:Β):Prop:=match y with
 | .error e=>e≠0/\r= .tuple #[.agg #[Γ 0,.bool false,Θ],Γ e]/\post=[.ob (b7 lp dp g),.ob (bm dp d),X]
 | .ok x=>∃a c,r= .tuple #[.agg #[Γ x.file,.bool x.fresh,.slice a x.b.length c],Γ (cw g d).2]/\post=[.ob (bd (.slice a x.b.length c) 5 1 x.b.length (x.b.map bU)),.ob (b7 lp dp (cw g d).1.1),.ob (bm dp (cw g d).1.2),X]
def ZL(X:Μ)(lp dp:Nat)(g:bV)(d:DS)(v:Ε)(p:Φ)(hv:cK X v p)(hp:p.length<=140737488355328){M N:Nat}(hg:g.Ok M)(hM:M<=1000000000000000)(bC:d.Ok N)(hN:N<=140737488355328)(cZ:d.ops<=100000):
  SP 175 [Δ lp,v] [.ob (b7 lp dp g),.ob (bm dp d),X] (awr lp dp g d X (dE g d.off p)):=by
 refine Enzz λW F w hS=>?_;apply bEc;delta aI ai bc;refine Gm λb w hS=>?_;refine Cc (QN X lp dp g d v p hv hp hg hM) ?_;clear hS;rintro r post hQ w hS;cases dm:dE g d.off p with
 | error e=>
  rw[dm]at hQ
  obtain⟨⟨z,rfl,rfl,hz⟩,rfl⟩:=hQ;refine Gm λb w hS=>?_;refine za (λh=>absurd h hz) (λ_=>?_);refine Gn λw hS=>?_;exact⟨_,⟨hz,rfl,rfl⟩,aR hS⟩
 | ok x=>
  rw[dm]at hQ
  obtain⟨a,c,rfl,rfl⟩:=hQ;refine Gm λb w hS=>?_;refine Υ ?_;refine Cg (QF lp dp g d N bC hN cZ) λw hS=>?_;exact⟨_,⟨a,c,rfl,rfl⟩,aR hS⟩
def dA.at{W w:Ζ}{l:Β}{v:Ε}{t:Ι}{xs:List cO}{j:Nat}(h:SL W (.ob (cz v t 4 xs.length (xs.map ez).flatten)::l) w)(hj:j<xs.length):
  ∃b o cap A B,v= .slice (some ⟨b,o,none⟩) xs.length cap/\A.length=o+j*4/\SL W (.pt b (A++(ez xs[j]++B)) t::l) w /\
   ∀y w' l',SL W (.pt b (A++(ez y++B)) t::l') w'->SL W (.ob (cz v t 4 (xs.set j y).length ((xs.set j y).map ez).flatten)::l') w':=by
 obtain⟨b,pre,cap,rest,rfl,hc,hl,hr,hS⟩:=cz.block h (by omega);have e:(xs.map ez).flatten=((xs.take j).map ez).flatten++(ez xs[j]++((xs.drop (j+1)).map ez).flatten):=by
  have pd:xs=xs.take j++xs[j]::xs.drop (j+1):=by rw[<- yyn hj,yyf]
  have e:=yyp (λl=>(List.map ez l).flatten) pd;simp only[zzr,zzp,yyq,zz2]at e;exact e
 have el:((xs.take j).map ez).flatten.length=j*4:=by rw[SH,zzf];omega
 refine⟨b,pre.length,cap,pre++((xs.take j).map ez).flatten,((xs.drop (j+1)).map ez).flatten++rest,rfl,by rw[zza,el],?_,λy w' l' h'=>?_⟩
 ·rw[e]at hS
  simp only[zzg]at hS ⊢;exact hS
 have e2:((xs.set j y).map ez).flatten=((xs.take j).map ez).flatten++(ez y++((xs.drop (j+1)).map ez).flatten):=by
  rw[xxf,zzc hj];simp only[zzr,zzp,yyq,zz2]
 have:=cz.mk (b:=b) (t:=t) (sz:=4) (n:=xs.length) (cells:=((xs.set j y).map ez).flatten) (pre:=pre) (rest:=rest) (cap:=cap) hc (by rw[SH,yyl]) hr rfl (by rw[e2];simp only[zzg]at h' ⊢;exact h');show SL W (.ob (cz _ t 4 (xs.set j y).length _)::l') w';rw[yyl];exact this
def A2{A B:Ξ}{cs:Ξ}{i:Nat}{u:Ε}(h:cs[i]?=some u):(A++(cs++B))[A.length+i]?=some u:=by
 rw[yyk (by omega),vvh,zzy (zzh.1 h).1];exact h
def Wk{A B:Ξ}{cs:Ξ}{i:Nat}{u:Ε}(h:i<cs.length):(A++(cs++B)).set (A.length+i) u=A++(cs.set i u++B):=by
 rw[vvo _ _ (by omega),vvh,www _ _ h]
def aIm{g:bV}{d:DS}{p:Φ}{e:Int}(h:dE g d.off p= .error e):d_ g d p=((g,d),(0,e)):=by
 unfold d_;rw[h]
def aIo{g:bV}{d:DS}{p:Φ}{x:gq}(h:dE g d.off p= .ok x)(hm:(cw g d).2≠0):d_ g d p=((cw g d).1,(0,(cw g d).2)):=by
 unfold d_;rw[h];simp only;rw[zzc hm]
def aIl{g:bV}{d:DS}{p:Φ}{x:gq}(h:dE g d.off p= .ok x)(hm:(cw g d).2=0)(ha:((cw g d).1.2.append x.file x.b).2≠0):
  d_ g d p=(((cw g d).1.1,((cw g d).1.2.append x.file x.b).1),(0,((cw g d).1.2.append x.file x.b).2)):=by
 unfold d_;rw[h];simp only;rw[zzb (by simp[hm]),zzc ha]
def aIp{g:bV}{d:DS}{p:Φ}{x:gq}(h:dE g d.off p= .ok x)(hm:(cw g d).2=0)(ha:((cw g d).1.2.append x.file x.b).2=0)(hs:(((cw g d).1.2.append x.file x.b).1.sync x.file).2≠0):
  d_ g d p=(((cw g d).1.1,(((cw g d).1.2.append x.file x.b).1.sync x.file).1),(0,(((cw g d).1.2.append x.file x.b).1.sync x.file).2)):=by
 unfold d_;rw[h];simp only;rw[zzb (by simp[hm]),zzb (by simp[ha]),zzc hs]
def aIn{g:bV}{d:DS}{p:Φ}{x:gq}(h:dE g d.off p= .ok x)(hm:(cw g d).2=0)(ha:((cw g d).1.2.append x.file x.b).2=0)(hs:(((cw g d).1.2.append x.file x.b).1.sync x.file).2=0):
  d_ g d p=(({(cw g d).1.1 with bf:=iU g.bf x p},(((cw g d).1.2.append x.file x.b).1.sync x.file).1),(bH (iU g.bf x p),0)):=by
 unfold d_;rw[h];simp only;rw[zzb (by simp[hm]),zzb (by simp[ha]),zzb (by simp[hs]),(s9 g d).1]
def Wa(s:DS)(f:Int)(b:Φ):(s.append f b).1.ops<=s.ops+1:=by
 unfold DS.append;split<;>simp[DS.bG]
def brv(s:DS)(f:Int):(s.sync f).1.ops<=s.ops+1:=by
 unfold DS.sync;split
 ·simp
 split<;>simp[DS.bG]
def Wb(s:DS)(f n:Int):(s.cut f n).1.ops<=s.ops+1:=by
 unfold DS.cut;split
 ·simp
 split
 ·simp
 split<;>simp[DS.bG]
def Wd(s:DS)(f:Int):(s.remove f).1.ops<=s.ops+1:=by
 unfold DS.remove;split
 ·simp
 split<;>simp[DS.bG]
def Wc(g:bV)(d:DS):(cw g d).1.2.ops<=d.ops+1:=by
 unfold cw;split
 ·simp
 simp only;split
 ·exact Wd _ _
 exact Wb _ _ _
def Zg(X:Μ)(lp dp:Nat)(g:bV)(d:DS)(v:Ε)(p:Φ)(hv:cK X v p)(hp:p.length<=140737488355328){M N:Nat}(hg:g.Ok M)(hM:M<=1000000000000)(bC:d.Ok N)(hN:N<=140737480000000)(cZ:d.ops<=90000):
  SP 121 [Δ lp,v] [.ob (b7 lp dp g),.ob (bm dp d),X] (bA (.tuple #[Γ (d_ g d p).2.1,Γ (d_ g d p).2.2]) [.ob (b7 lp dp (d_ g d p).1.1),.ob (bm dp (d_ g d p).1.2),X]):=by
 refine Enzz λW F w hS=>?_;apply bCv;delta aI bh aW bS bg bk ai bc;obtain⟨va,vc,rfl,I_⟩:=hv.sl hS Xh;refine Cc (ZL X lp dp g d _ p hv hp hg (by omega) bC (by omega) (by omega)) ?_;clear hS;rintro r post hQ w hS;cases dm:dE g d.off p with
 | error e=>
  rw[dm]at hQ
  obtain⟨hz,rfl,rfl⟩:=hQ;rw[aIm dm];refine Gm λb w hS=>?_;refine⟨λvs w=>vs=[Γ e]/\SL W (.ob (b7 lp dp g)::.ob (bm dp d)::X::F) w,?_,?_⟩
  ·refine Gp ?_;refine za (λh=>absurd h hz) (λ_=>⟨rfl,aR hS⟩)
  clear hS;rintro v7 w ⟨dq,hS⟩;cases dq;refine⟨λvs w=>vs=[Γ e]/\SL W (.ob (b7 lp dp g)::.ob (bm dp d)::X::F) w,?_,?_⟩
  ·refine Gp ?_;refine za (λh=>absurd h hz) (λ_=>⟨rfl,hS⟩)
  clear hS;rintro v7 w ⟨dq,hS⟩;cases dq;refine Gp ?_;refine za (λ_=>?_) (λh=>absurd hz h);(exact bw hS)
 | ok x=>
  rw[dm]at hQ
  obtain⟨a,c,rfl,rfl⟩:=hQ;have hw:=FT hg dm;have E8:=FJ (g:=g) bC;have Az:=JE (d:=d) hg;have pa:=s9 g d;have rU:=Wc g d;have o7:=hw.bl;have hpp:=hw.pl;refine Gm λb w hS=>?_;obtain⟨wb,rfl⟩:∃k,k=b:=⟨b,rfl⟩;by_cases hm:(cw g d).2=0
  ·
   have Tg:=E8.append x.file x.b;have hao:=Wa (cw g d).1.2 x.file x.b;have bMf:=Tg.sync x.file;have tX:=aIn dm hm;have Cj:=aIl dm hm;have AH:=aIp dm hm;generalize d_ g d p=G at *
   generalize cw g d=m at *
   obtain⟨⟨g1,d1⟩,me⟩:=m;simp only at *
   subst hm;refine⟨λvs w=>vs=[Γ (d1.append x.file x.b).2]/\SL W (.pt wb [Γ x.file,.bool x.fresh,.slice a x.b.length c] 308::.ob (bd (.slice a x.b.length c) 5 1 x.b.length (x.b.map bU))::.ob (b7 lp dp g1)::.ob (bm dp (d1.append x.file x.b).1)::X::F) w,?_,?_⟩
   ·refine Gp ?_;refine Υ ?_;obtain⟨sv,tv,xs,hx,hS⟩:=b7.iff.1 (SL.bo hS (t:=.ob (b7 lp dp g1)::.pt wb [Γ x.file,.bool x.fresh,.slice a x.b.length c] 308::.ob (bd (.slice a x.b.length c) 5 1 x.b.length (x.b.map bU))::.ob (bm dp d1)::X::F) Xi);refine Gn λw hS=>?_;refine Cg (Ha (.ob (bd (.slice a x.b.length c) 5 1 x.b.length (x.b.map bU))) dp d1 N E8 (by omega) x.file _ x.b (λhS h=>jh hS h) (by omega)) λw hS=>?_;have hS:=b7.iff.2 ⟨sv,tv,xs,hx,SL.bo hS (t:=.pt lp (dC sv tv dp g1.base g1.size) 173::dA sv xs::.ob (zg cV xs)::.ob (dS tv g1.cC)::.pt wb [Γ x.file,.bool x.fresh,.slice a x.b.length c] 308::.ob (bd (.slice a x.b.length c) 5 1 x.b.length (x.b.map bU))::.ob (bm dp (d1.append x.file x.b).1)::X::F) Xi⟩;exact aR hS
   clear hS;rintro v7 w ⟨dq,hS⟩;cases dq;by_cases ha:(d1.append x.file x.b).2=0
   ·rw[ha];refine⟨λvs w=>vs=[Γ ((d1.append x.file x.b).1.sync x.file).2]/\SL W (.pt wb [Γ x.file,.bool x.fresh,.slice a x.b.length c] 308::.ob (bd (.slice a x.b.length c) 5 1 x.b.length (x.b.map bU))::.ob (b7 lp dp g1)::.ob (bm dp ((d1.append x.file x.b).1.sync x.file).1)::X::F) w,?_,?_⟩
    ·refine Gp ?_;refine Υ ?_;obtain⟨sv,tv,xs,hx,hS⟩:=b7.iff.1 (SL.bo hS (t:=.ob (b7 lp dp g1)::.pt wb [Γ x.file,.bool x.fresh,.slice a x.b.length c] 308::.ob (bd (.slice a x.b.length c) 5 1 x.b.length (x.b.map bU))::.ob (bm dp (d1.append x.file x.b).1)::X::F) Xi);refine Gn λw hS=>?_;refine Cg (Yj dp (d1.append x.file x.b).1 _ Tg (by omega) x.file) λw hS=>?_;have hS:=b7.iff.2 ⟨sv,tv,xs,hx,SL.bo hS (t:=.pt lp (dC sv tv dp g1.base g1.size) 173::dA sv xs::.ob (zg cV xs)::.ob (dS tv g1.cC)::.pt wb [Γ x.file,.bool x.fresh,.slice a x.b.length c] 308::.ob (bd (.slice a x.b.length c) 5 1 x.b.length (x.b.map bU))::.ob (bm dp ((d1.append x.file x.b).1.sync x.file).1)::X::F) Xi⟩;exact aR hS
    clear hS;rintro v7 w ⟨dq,hS⟩;cases dq;by_cases hs:((d1.append x.file x.b).1.sync x.file).2=0
    ·rw[hs];have hG:=tX ha hs;subst hG;clear tX Cj AH hao;generalize ((d1.append x.file x.b).1.sync x.file).1=d3 at *
     refine Gp ?_;refine Χ ?_;obtain⟨sv,tv,xs,hx,hS⟩:=b7.iff.1 (SL.bo hS (t:=.ob (b7 lp dp g1)::.pt wb [Γ x.file,.bool x.fresh,.slice a x.b.length c] 308::.ob (bm dp d3)::X::F) Xi);obtain⟨AN,iL,_,_⟩:=Az.xs hx;have nH:bH (xs.map cO.pl)=bH g.bf:=by rw[hx,pa.1]
     have Iw:=hw.hd;have Cw:=sW hg.bf;have bjt:=VN hg hw;refine⟨λvs w=>vs=[]/\∃ji bZ,bZ.map cO.pl=s_ g.bf x/\bZ.length<=xs.length+1/\SL W (.pt lp (dC ji tv dp g1.base g1.size) 173::dA ji bZ::.ob (zg cV bZ)::.ob (dS tv g1.cC)::.pt wb [Γ x.file,.bool x.fresh,.slice a x.b.length c] 308::.ob (bm dp d3)::X::F) w,?_,?_⟩
     ·refine Gp ?_;unfold s_;refine yJ (λhf=>?_) (λhf=>?_)
      ·rw[zzc hf];refine Gn λw hS=>?_;refine Cg (yi lp (dC sv tv dp g1.base g1.size) 173 sv xs rfl AN (by omega) (by omega)) λw hS=>?_;refine Gm λb w hS=>?_;rw[nH]at hS
       have s3:=cz.one hS (v:=sv) (t:=265) (sz:=4) (n:=xs.length) (cells:=(xs.map ez).flatten) Xh;refine ZT (m:=1) (cs:=[Γ x.file,Γ (bH g.bf+1),Γ 0,Θ]) hS Xr (jx hS .hd rfl) rfl rfl (by simp[Value.oneCell']) (by omega) (by omega) ?_;clear hS;intro ji w hS;have s3:=cz.one hS (v:=ji) .hd;refine Gn λw hS=>?_;have hS:=cz.p5 (a:=none) (t:=28) (sz:=1) hS;have hS:=zg.nil (A:=fP) (SL.bo hS (t:=.ob (cz Θ 28 1 0 [])::.ob (zg cV xs)::.pt lp (dC ji tv dp g1.base g1.size) 173::.ob (cz ji 265 4 (xs.length+1) ((xs.map ez).flatten++[Γ x.file,Γ (bH g.bf+1),Γ 0,Θ]))::.ob (dS tv g1.cC)::.pt wb [Γ x.file,.bool x.fresh,.slice a x.b.length c] 308::.ob (bm dp d3)::X::F) Xi);have hS:=(cV.iff (x:=⟨x.file,bH g.bf+1,0,[],none,0⟩)).2 (SL.bo hS (t:=.ob (cz Θ 28 1 0 [])::.ob (zg fP [])::.ob (zg cV xs)::.pt lp (dC ji tv dp g1.base g1.size) 173::.ob (cz ji 265 4 (xs.length+1) ((xs.map ez).flatten++[Γ x.file,Γ (bH g.bf+1),Γ 0,Θ]))::.ob (dS tv g1.cC)::.pt wb [Γ x.file,.bool x.fresh,.slice a x.b.length c] 308::.ob (bm dp d3)::X::F) Xi);have hS:=zg.snoc (SL.bo hS (t:=.ob (zg cV xs)::.ob (cV ⟨x.file,bH g.bf+1,0,[],none,0⟩)::.pt lp (dC ji tv dp g1.base g1.size) 173::.ob (cz ji 265 4 (xs.length+1) ((xs.map ez).flatten++[Γ x.file,Γ (bH g.bf+1),Γ 0,Θ]))::.ob (dS tv g1.cC)::.pt wb [Γ x.file,.bool x.fresh,.slice a x.b.length c] 308::.ob (bm dp d3)::X::F) Xi);have e1:xs.length+1=(xs++[(⟨x.file,bH g.bf+1,0,[],none,0⟩:cO)]).length:=by simp
       have e2:(xs.map ez).flatten++[Γ x.file,Γ (bH g.bf+1),Γ 0,Θ]=((xs++[(⟨x.file,bH g.bf+1,0,[],none,0⟩:cO)]).map ez).flatten:=by simp[ez,cO.lv]
       rw[e1,e2]at hS
       refine⟨ji,xs++[⟨x.file,bH g.bf+1,0,[],none,0⟩],?_,by simp,aR hS⟩;rw[zzr,hx,pa.1];rfl
      rw[zzb (by rw[hf];decide)];exact⟨rfl,sv,xs,by rw[hx,pa.1],by omega,aR hS⟩
     clear hS AN nH;rintro w ⟨-,ji,bZ,kH,tY,hS⟩;obtain⟨A,s,hA⟩:=JG hw;rw[FV _ _ _ hA];have hle:0<bZ.length:=by
      have:=yyp List.length kH;rw[hA]at this;simp at this;omega
     have hj:bZ.length-1<bZ.length:=by omega
     have pd:bZ=bZ.take (bZ.length-1)++[bZ[bZ.length-1]]:=by
      conv=>lhs;rw[<- yyf (bZ.length-1) bZ]
      rw[yyn hj,xxb (by omega)]
     have Ey:A=(bZ.take (bZ.length-1)).map cO.pl/\s=(bZ[bZ.length-1]).pl:=by
      rw[pd,zzr]at kH
      rw[hA]at kH
      have:=List.append_inj' kH rfl;exact⟨this.1.symm,by simpa using this.2.symm⟩
     obtain⟨wF,w_⟩:=Ey;subst wF w_;have Up:=bjt (bZ[bZ.length-1]).pl (by rw[hA];simp);have z1:=Up.sz;have z2:=Up.ln;have hS:=zg.take (t:=bZ.length-1) (SL.bo hS (t:=.ob (zg cV bZ)::dA ji bZ::.pt lp (dC ji tv dp g1.base g1.size) 173::.ob (dS tv g1.cC)::.pt wb [Γ x.file,.bool x.fresh,.slice a x.b.length c] 308::.ob (bm dp d3)::X::F) Xi) (zzd hj);have hS:=cV.iff.1 hS;obtain⟨rb,ro,rc,AA,BB,rfl,hAA,hS,lj⟩:=dA.at (SL.bo hS (t:=dA ji bZ::.ob (cz (bZ[bZ.length-1]).lv 28 1 (bZ[bZ.length-1]).es.length (fF (bZ[bZ.length-1]).es))::.ob (zg fP (bZ[bZ.length-1]).es)::.ob (zg cV (bZ.eraseIdx (bZ.length-1)))::.pt lp (dC ji tv dp g1.base g1.size) 173::.ob (dS tv g1.cC)::.pt wb [Γ x.file,.bool x.fresh,.slice a x.b.length c] 308::.ob (bm dp d3)::X::F) Xi) hj;generalize Uw:bZ[bZ.length-1]=x0 at *
     have z1:x0.size<=M:=z1;have z2:x0.es.length<=M:=by simpa [cO.pl,xV] using z2
     refine Gn λw hS=>?_;have e:((bZ.length:Nat):Int)-1=((bZ.length-1:Nat):Int):=by omega
     rw[e];refine zI hj ?_;rw[<- hAA];refine Gn λw hS=>?_;refine zV hS Xh (A2 (i:=2) (u:=Γ x0.size) rfl) ?_;refine Gp ?_;refine ZA hS Xu (A2 (i:=2) (u:=Γ x0.size) rfl) rfl ?_;clear hS;intro w hS;rw[Wk (by rw[Gl];decide)]at hS
     have e5:(ez x0).set 2 (Γ ((x0.size+x.b.length:Nat):Int))=[Γ x0.file,Γ x0.first,Γ ((x0.size+x.b.length:Nat):Int),x0.lv]:=rfl;rw[e5]at hS
     refine Gn λw hS=>?_;refine zV hS Xh (A2 (i:=3) (u:=x0.lv) rfl) ?_;refine Zm (cs:=p.map bU) hS (λw' c fR=>hv.src fR (.tl Xh)) (by simp) (uE _) (by omega) ?_;clear hS;intro u w hS _;have hu:=hS.p6 .hd;obtain⟨ua,uc,eu,_⟩:=bd.at hS .hd;subst eu;refine zV hS Xh (A2 (i:=3) (u:=x0.lv) rfl) ?_;refine Gm λb w hS=>?_;refine zV hS Xh (A2 (i:=3) (u:=x0.lv) rfl) ?_;refine Gp ?_;refine ZT (t:=28) (sz:=1) (n:=x0.es.length) (cells:=fF x0.es) (m:=1) (cs:=[.slice ua p.length uc]) hS Xr (jx hS .hd rfl) rfl rfl (by simp[Value.oneCell']) (by omega) (by omega) ?_;clear hS;intro v' w hS;have s3:=cz.one hS (v:=v') .hd;obtain⟨a',c',ev,_⟩:=cz.at hS (v:=v') .hd;subst ev;refine Gp ?_;refine ZA hS Xu (A2 (i:=3) (u:=x0.lv) rfl) s3 ?_;clear hS;intro w hS;rw[Wk (by show 3<4;decide)]at hS
     have e6:([Γ x0.file,Γ x0.first,Γ ((x0.size+x.b.length:Nat):Int),x0.lv]:Ξ).set 3 (.slice a' (x0.es.length+1) c')=ez ⟨x0.file,x0.first,x0.size+x.b.length,x0.es++[(.slice ua p.length uc,p)],a',c'⟩:=by
      simp[ez,cO.lv]
     rw[e6]at hS
     let y:cO:=⟨x0.file,x0.first,x0.size+x.b.length,x0.es++[(.slice ua p.length uc,p)],a',c'⟩
     have nK:(bZ.set (bZ.length-1) y).map cO.pl=(bZ.take (bZ.length-1)).map cO.pl++[xU x0.pl x.b.length p]:=by
      rw[xxf,zzc hj,xxb (by omega),zzr];congr 1;simp[y,cO.pl,xU,nW]
     have wX:=(Wn hg hw).1;rw[FV _ _ _ hA,<- nK]at wX
     have hS:=lj y w _ (SL.bo hS (t:=.pt rb (AA++(ez y++BB)) 265::.ob (cz (.slice a' (x0.es.length+1) c') 28 1 (x0.es.length+1) (fF x0.es++[.slice ua p.length uc]))::.ob (bd (.slice ua p.length uc) 5 1 p.length (p.map bU))::.ob (zg fP x0.es)::.ob (zg cV (bZ.eraseIdx (bZ.length-1)))::.pt lp (dC (.slice (some ⟨rb,ro,none⟩) bZ.length rc) tv dp g1.base g1.size) 173::.ob (dS tv g1.cC)::.ob (bm dp d3)::X::F) Xi);have hS:=SL.bo hS (t:=.ob (bd (.slice ua p.length uc) 5 1 p.length (p.map bU))::.ob (zg fP x0.es)::.ob (cz (.slice a' (x0.es.length+1) c') 28 1 (x0.es.length+1) (fF x0.es++[.slice ua p.length uc]))::.ob (zg cV (bZ.eraseIdx (bZ.length-1)))::dA (.slice (some ⟨rb,ro,none⟩) bZ.length rc) (bZ.set (bZ.length-1) y)::.pt lp (dC (.slice (some ⟨rb,ro,none⟩) bZ.length rc) tv dp g1.base g1.size) 173::.ob (dS tv g1.cC)::.ob (bm dp d3)::X::F) Xi;have hS:SL W (.ob (fP (.slice ua p.length uc,p))::.ob (zg fP x0.es)::.ob (cz (.slice a' (x0.es.length+1) c') 28 1 (x0.es.length+1) (fF x0.es++[.slice ua p.length uc]))::.ob (zg cV (bZ.eraseIdx (bZ.length-1)))::dA (.slice (some ⟨rb,ro,none⟩) bZ.length rc) (bZ.set (bZ.length-1) y)::.pt lp (dC (.slice (some ⟨rb,ro,none⟩) bZ.length rc) tv dp g1.base g1.size) 173::.ob (dS tv g1.cC)::.ob (bm dp d3)::X::F) w:=hS;have hS:=zg.snoc (hS.perm (.swap _ _ _));have e7:x0.es.length+1=y.es.length:=by simp[y]
     have e8:fF x0.es++[.slice ua p.length uc]=fF y.es:=by simp[y,fF]
     rw[e7,e8]at hS
     have hS:=(cV.iff (x:=y)).2 (SL.bo hS (t:=.ob (cz (.slice a' y.es.length c') 28 1 y.es.length (fF y.es))::.ob (zg fP (x0.es++[(.slice ua p.length uc,p)]))::.ob (zg cV (bZ.eraseIdx (bZ.length-1)))::dA (.slice (some ⟨rb,ro,none⟩) bZ.length rc) (bZ.set (bZ.length-1) y)::.pt lp (dC (.slice (some ⟨rb,ro,none⟩) bZ.length rc) tv dp g1.base g1.size) 173::.ob (dS tv g1.cC)::.ob (bm dp d3)::X::F) Xi);have hS:=zg.put hS hj;refine Gp ?_;refine Cg (yi lp (dC (.slice (some ⟨rb,ro,none⟩) bZ.length rc) tv dp g1.base g1.size) 173 (.slice (some ⟨rb,ro,none⟩) bZ.length rc) (bZ.set (bZ.length-1) y) rfl wX (by omega) (by rw[yyl];omega)) λw hS=>?_;rw[nK];have hS:=(b7.iff (g:={bf:=(bZ.take (bZ.length-1)).map cO.pl++[xU x0.pl x.b.length p],base:=g1.base,size:=g1.size,cC:=g1.cC})).2 ⟨_,tv,bZ.set (bZ.length-1) y,nK,SL.bo hS (t:=.pt lp (dC (.slice (some ⟨rb,ro,none⟩) bZ.length rc) tv dp g1.base g1.size) 173::dA (.slice (some ⟨rb,ro,none⟩) bZ.length rc) (bZ.set (bZ.length-1) y)::.ob (zg cV (bZ.set (bZ.length-1) y))::.ob (dS tv g1.cC)::.ob (bm dp d3)::X::F) Xi⟩;exact bw hS
    have hG:=AH ha hs;subst hG;refine Gp ?_;refine za (λ_=>?_) (λh=>absurd hs h);(exact bw hS)
   have hG:=Cj ha;subst hG;refine⟨λvs w=>vs=[Γ (d1.append x.file x.b).2]/\SL W (.ob (b7 lp dp g1)::.ob (bm dp (d1.append x.file x.b).1)::X::F) w,?_,?_⟩
   ·refine Gp ?_;refine za (λh=>absurd h ha) (λ_=>⟨rfl,aR hS⟩)
   clear hS;rintro v7 w ⟨dq,hS⟩;cases dq;refine Gp ?_;refine za (λ_=>?_) (λh=>absurd ha h);(exact bw hS)
  rw[aIo dm hm];refine⟨λvs w=>vs=[Γ (cw g d).2]/\SL W (.ob (b7 lp dp (cw g d).1.1)::.ob (bm dp (cw g d).1.2)::X::F) w,?_,?_⟩
  ·refine Gp ?_;refine za (λh=>absurd h hm) (λ_=>⟨rfl,aR hS⟩)
  clear hS;rintro v7 w ⟨dq,hS⟩;cases dq;refine⟨λvs w=>vs=[Γ (cw g d).2]/\SL W (.ob (b7 lp dp (cw g d).1.1)::.ob (bm dp (cw g d).1.2)::X::F) w,?_,?_⟩
  ·refine Gp ?_;refine za (λh=>absurd h hm) (λ_=>⟨rfl,hS⟩)
  clear hS;rintro v7 w ⟨dq,hS⟩;cases dq;refine Gp ?_;refine za (λ_=>?_) (λh=>absurd hm h);(exact bw hS)
def bA2{g:bV}{d:DS}{p:Φ}{k e:Int}(hk:0<=k)(h:dE g d.off p= .error e):fA g d p k=((g,d),e):=by
 unfold fA;rw[zzb (by omega),h]
def bA4{g:bV}{d:DS}{p:Φ}{k:Int}{x:gq}(hk:0<=k)(h:dE g d.off p= .ok x)(hm:(cw g d).2≠0):fA g d p k=((cw g d).1,(cw g d).2):=by
 unfold fA;rw[zzb (by omega),h];simp only;rw[zzc hm]
def bA0{g:bV}{d:DS}{p:Φ}{k:Int}{x:gq}(hk:0<=k)(h:dE g d.off p= .ok x)(hm:(cw g d).2=0)(ha:((cw g d).1.2.append x.file (x.b.take (k.toNat % x.b.length))).2≠0):
  fA g d p k=(((cw g d).1.1,((cw g d).1.2.append x.file (x.b.take (k.toNat % x.b.length))).1),((cw g d).1.2.append x.file (x.b.take (k.toNat % x.b.length))).2):=by
 unfold fA;rw[zzb (by omega),h];simp only;rw[zzb (by simp[hm]),zzc ha]
def bA3{g:bV}{d:DS}{p:Φ}{k:Int}{x:gq}(hk:0<=k)(h:dE g d.off p= .ok x)(hm:(cw g d).2=0)(ha:((cw g d).1.2.append x.file (x.b.take (k.toNat % x.b.length))).2=0):
  fA g d p k=(({(cw g d).1.1 with cC:=some ⟨x.file,if x.fresh=true then 0 else lT g.bf,x.fresh⟩},((cw g d).1.2.append x.file (x.b.take (k.toNat % x.b.length))).1),0):=by
 unfold fA;rw[zzb (by omega),h];simp only;rw[zzb (by simp[hm]),zzb (by simp[ha]),(s9 g d).1]
def bA9(X:Μ)(lp dp:Nat)(g:bV)(d:DS)(v:Ε)(p:Φ)(k:Int)(hv:cK X v p)(hp:p.length<=140737488355328){M N:Nat}(hg:g.Ok M)(hM:M<=1000000000000)(bC:d.Ok N)(hN:N<=140737480000000)(cZ:d.ops<=90000):
  SP 295 [Δ lp,v,Γ k] [.ob (b7 lp dp g),.ob (bm dp d),X] (bA (Γ (fA g d p k).2) [.ob (b7 lp dp (fA g d p k).1.1),.ob (bm dp (fA g d p k).1.2),X]):=by
 refine Enzz λW F w hS=>?_;apply bHf;delta aI bh aW bS bk bJ ai bc;obtain⟨va,vc,rfl,I_⟩:=hv.sl hS Xh;refine bj (λhk=>?_) (λhk=>?_)
 ·have:fA g d p k=((g,d),1):=by unfold fA;rw[zzc hk]
  rw[this];(exact bw hS)
 have hk:0<=k:=by omega
 refine Cc (ZL X lp dp g d _ p hv hp hg (by omega) bC (by omega) (by omega)) ?_;clear hS;rintro r post hQ w hS;cases dm:dE g d.off p with
 | error e=>
  rw[dm]at hQ
  obtain⟨hz,rfl,rfl⟩:=hQ;rw[bA2 hk dm];refine Gm λb w hS=>?_;refine⟨λvs w=>vs=[Γ e]/\SL W (.ob (b7 lp dp g)::.ob (bm dp d)::X::F) w,?_,?_⟩
  ·refine Gp ?_;refine za (λh=>absurd h hz) (λ_=>⟨rfl,aR hS⟩)
  clear hS;rintro v7 w ⟨dq,hS⟩;cases dq;refine Gp ?_;refine za (λ_=>?_) (λh=>absurd hz h);(exact bw hS)
 | ok x=>
  rw[dm]at hQ
  obtain⟨a,c,rfl,rfl⟩:=hQ;have hw:=FT hg dm;have E8:=FJ (g:=g) bC;have Az:=JE (d:=d) hg;have pa:=s9 g d;have rU:=Wc g d;have o7:=hw.bl;have hpp:=hw.pl;have vt:=hw.pos;refine Gm λb w hS=>?_;obtain⟨wb,rfl⟩:∃k,k=b:=⟨b,rfl⟩;by_cases hm:(cw g d).2=0
  ·have tX:=bA3 hk dm hm;have Cj:=bA0 hk dm hm;generalize fA g d p k=G at *
   generalize cw g d=m at *
   obtain⟨⟨g1,d1⟩,me⟩:=m;simp only at *
   subst hm;obtain⟨kn,rfl⟩:=xxs hk;simp only[zzw]at Cj tX;generalize hq:kn % x.b.length=q at *
   have Fc:q<=x.b.length:=by
    have:=vvc kn (show 0<x.b.length by omega);omega
   refine⟨λvs w=>vs=[Γ (d1.append x.file (x.b.take q)).2]/\SL W (.pt wb [Γ x.file,.bool x.fresh,.slice a x.b.length c] 308::.ob (bd (.slice a x.b.length c) 5 1 x.b.length (x.b.map bU))::.ob (b7 lp dp g1)::.ob (bm dp (d1.append x.file (x.b.take q)).1)::X::F) w,?_,?_⟩
   ·refine Gp ?_;refine Υ ?_;obtain⟨sv,tv,xs,hx,hS⟩:=b7.iff.1 (SL.bo hS (t:=.ob (b7 lp dp g1)::.pt wb [Γ x.file,.bool x.fresh,.slice a x.b.length c] 308::.ob (bd (.slice a x.b.length c) 5 1 x.b.length (x.b.map bU))::.ob (bm dp d1)::X::F) Xi);refine Gn λw hS=>?_;rw[hq];have cJ:cK (.ob (bd (.slice a x.b.length c) 5 1 x.b.length (x.b.map bU))) (.slice a x.b.length c) x.b:=cK.own;refine WU hS Xh cJ Fc ?_;intro u hu;refine Cg (Ha (.ob (bd (.slice a x.b.length c) 5 1 x.b.length (x.b.map bU))) dp d1 N E8 (by omega) x.file u (x.b.take q) (λhS h=>hu.src hS h) (by rw[zzf];omega)) λw hS=>?_;have hS:=b7.iff.2 ⟨sv,tv,xs,hx,SL.bo hS (t:=.pt lp (dC sv tv dp g1.base g1.size) 173::dA sv xs::.ob (zg cV xs)::.ob (dS tv g1.cC)::.pt wb [Γ x.file,.bool x.fresh,.slice a x.b.length c] 308::.ob (bd (.slice a x.b.length c) 5 1 x.b.length (x.b.map bU))::.ob (bm dp (d1.append x.file (x.b.take q)).1)::X::F) Xi⟩;exact aR hS
   clear hS;rintro v7 w ⟨dq,hS⟩;cases dq;by_cases ha:(d1.append x.file (x.b.take q)).2=0
   ·rw[ha];have hG:=tX ha;subst hG;refine Gp ?_;refine Χ ?_;obtain⟨sv,tv,xs,hx,hS⟩:=b7.iff.1 (SL.bo hS (t:=.ob (b7 lp dp g1)::.pt wb [Γ x.file,.bool x.fresh,.slice a x.b.length c] 308::.ob (bm dp (d1.append x.file (x.b.take q)).1)::X::F) Xi);refine Gp ?_;refine⟨_,rfl,zD hS ?_⟩;clear hS;intro tb w hS;have Us:=aw0 (SL.bo hS (t:=.ob (dS tv g1.cC)::F) Xi);refine Gn λw hS=>?_;cases hf:x.fresh with
    | true=>
     rw[hf]at hS
     refine zq ?_;simp only[ww0];have hS:=(xO (v:=Δ tb) (x:=⟨x.file,0,true⟩)).2 ⟨tb,rfl,SL.bo hS (t:=.pt tb [Γ x.file,Γ 0,.bool true] 410::.pt lp (dC sv (Δ tb) dp g1.base g1.size) 173::dA sv xs::.ob (zg cV xs)::.ob (bm dp (d1.append x.file (x.b.take q)).1)::X::F) Xi⟩;have hS:=(b7.iff (g:={bf:=g1.bf,base:=g1.base,size:=g1.size,cC:=some ⟨x.file,0,true⟩})).2 ⟨sv,_,xs,hx,SL.bo hS (t:=.pt lp (dC sv (Δ tb) dp g1.base g1.size) 173::dA sv xs::.ob (zg cV xs)::.ob (dS (Δ tb) (some ⟨x.file,0,true⟩))::.ob (bm dp (d1.append x.file (x.b.take q)).1)::X::F) Xi⟩;exact bw hS
    | false=>
     rw[hf]at hS
     refine zu ?_;simp only[xxx,wwt];obtain⟨_,iL,_,_⟩:=Az.xs hx;obtain⟨s,rT,hsf⟩:=hw.mZ hf;rw[<- pa.1,<- hx]at rT
     have hle:0<xs.length:=by
      rcases yy8 xs.length with h0|h0
      ·rw[zzl h0]at rT;simp at rT
      exact h0
     have hj:xs.length-1<xs.length:=by omega
     have hsx:s=(xs[xs.length-1]'hj).pl:=by
      rw[uub,wwc,zzd hj]at rT
      exact (xx1 rT).symm
     have IH:lT g.bf=((xs[xs.length-1]'hj).size:Nat):=by
      unfold lT;rw[<- pa.1,<- hx,rT,hsx];rfl
     rw[IH];refine Gn λw hS=>?_;refine zO hS (v:=sv) (t:=265) (sz:=4) (n:=xs.length) (cells:=(xs.map ez).flatten) Xh ?_;refine Gp ?_;have e:((xs.length:Nat):Int)-1=((xs.length-1:Nat):Int):=by omega
     rw[e];refine Y6 (i:=2) hS Xh hj (u:=Γ ((xs[xs.length-1]'hj).size:Nat)) rfl ?_;generalize (xs[xs.length-1]'hj).size=z at *
     refine Gn λw hS=>?_;have hS:=(xO (v:=Δ tb) (x:=⟨x.file,(z:Int),false⟩)).2 ⟨tb,rfl,SL.bo hS (t:=.pt tb [Γ x.file,Γ (z:Int),.bool false] 410::.pt lp (dC sv (Δ tb) dp g1.base g1.size) 173::dA sv xs::.ob (zg cV xs)::.ob (bm dp (d1.append x.file (x.b.take q)).1)::X::F) Xi⟩;have hS:=(b7.iff (g:={bf:=g1.bf,base:=g1.base,size:=g1.size,cC:=some ⟨x.file,(z:Int),false⟩})).2 ⟨sv,_,xs,hx,SL.bo hS (t:=.pt lp (dC sv (Δ tb) dp g1.base g1.size) 173::dA sv xs::.ob (zg cV xs)::.ob (dS (Δ tb) (some ⟨x.file,(z:Int),false⟩))::.ob (bm dp (d1.append x.file (x.b.take q)).1)::X::F) Xi⟩;exact bw hS
   have hG:=Cj ha;subst hG;refine Gp ?_;refine za (λ_=>?_) (λh=>absurd ha h);(exact bw hS)
  rw[bA4 hk dm hm];refine⟨λvs w=>vs=[Γ (cw g d).2]/\SL W (.ob (b7 lp dp (cw g d).1.1)::.ob (bm dp (cw g d).1.2)::X::F) w,?_,?_⟩
  ·refine Gp ?_;refine za (λh=>absurd h hm) (λ_=>⟨rfl,aR hS⟩)
  clear hS;rintro v7 w ⟨dq,hS⟩;cases dq;refine Gp ?_;refine za (λ_=>?_) (λh=>absurd hm h);(exact bw hS)
def Zq(lp dp:Nat)(g:bV)(d:DS)(n:Int){M N:Nat}(hg:g.Ok M)(hM:M<=1000000000000)(bC:d.Ok N)(cZ:d.ops+g.bf.length<=100000):
  SP 146 [Δ lp,Γ n] [.ob (b7 lp dp g),.ob (bm dp d)] (bA (Γ (gl g d n).2) [.ob (b7 lp dp (gl g d n).1.1),.ob (bm dp (gl g d n).1.2)]):=by
 refine Enzz λW F w hS=>?_;apply bDk;delta aI bh aW bk ai;obtain⟨sv,tv,xs,hx,hS⟩:=b7.iff.1 hS;refine Gp ?_;refine Cg (zH dp d) λw hS=>?_;refine yJ (λho=>?_) (λho=>?_)
 ·have e:gl g d n=((g,d),8):=by unfold gl;rw[zzc ho]
  rw[e];have hS:=(b7.iff (g:=g)).2 ⟨sv,tv,xs,hx,SL.bo hS (t:=.pt lp (dC sv tv dp g.base g.size) 173::dA sv xs::.ob (zg cV xs)::.ob (dS tv g.cC)::.ob (bm dp d)::F) Xi⟩;exact bw hS
 have e:gl g d n=(({g with bf:=(gm g.bf d n).1.1},(gm g.bf d n).1.2),(gm g.bf d n).2):=by unfold gl;rw[zzb (by rw[ho];decide)]
 rw[e];have gg:∀{w:Ζ} {sv:Ε} {xs:List cO} {d':DS},SL W (.pt lp (dC sv tv dp g.base g.size) 173::dA sv xs::.ob (zg cV xs)::.ob (dS tv g.cC)::.ob (bm dp d')::F) w->SL W (.ob (b7 lp dp {g with bf:=xs.map cO.pl})::.ob (bm dp d')::F) w:=λh=>(b7.iff (g:={g with bf:=_})).2 ⟨_,tv,_,rfl,h⟩;refine⟨λvs w=>vs=[]/\∃a c bZ d',gm g.bf d n=gm (bZ.map cO.pl) d' n/\(∀s∈bZ.map cO.pl,j7 s M)/\bZ.length<=M/\d'.Ok N/\d'.ops+bZ.length<=100000/\SL W (.pt lp (dC (.slice a bZ.length c) tv dp g.base g.size) 173::dA (.slice a bZ.length c) bZ::.ob (zg cV bZ)::.ob (dS tv g.cC)::.ob (bm dp d')::F) w,
  λ_ w=>match w.cell? ⟨lp,0,none⟩ with|some (.slice _ n _)=>n|_=>0,?_,?_⟩
 ·obtain⟨a,c,rfl,_⟩:=cz.at hS (v:=sv) (t:=265) (sz:=4) (n:=xs.length) (cells:=(xs.map ez).flatten) Xh;have hl:xs.length=g.bf.length:=by rw[<- hx,zzv]
  exact⟨rfl,a,c,xs,d,by rw[hx],by rw[hx];exact hg.bf,by rw[hl];exact hg.ln,bC,by rw[hl];exact cZ,aR hS⟩
 clear hS hx;rintro w ⟨-,a,c,bZ,d',AK,CV,hlen,T6,IT,hS⟩;rw[AK];have Co:=hS.cell (b:=lp) (o:=0) .hd rfl;refine bj (λh1=>?_) (λh1=>?_)
 ·match bZ,h1,CV,hlen,AK,IT,hS,Co with
  | x0::x1::r,_,CV,hlen,AK,IT,hS,Co=>
  have w9:=CV x0.pl (by simp);have lu:gm ((x0::x1::r).map cO.pl) d' n=if x0.pl.next-1<=n then (if (d'.remove x0.pl.file).2≠0 then (((x0::x1::r).map cO.pl,(d'.remove x0.pl.file).1),(d'.remove x0.pl.file).2) else gm ((x1::r).map cO.pl) (d'.remove x0.pl.file).1 n) else (((x0::x1::r).map cO.pl,d'),0):=by
   simp only[zzp];rw[gm]
  have k0:=w9.n0;have k1:=w9.n1;have k2:=w9.ln;have oA:x0.pl.next=x0.pl.first+x0.pl.l.length:=rfl;refine Gp ?_;refine ZU (j:=0) hS Xh (by simp) ?_;show zJ _ _ [.agg (ez x0).toArray] _ _;refine Cg (Zb x0 w9 (by omega)) λw hS=>?_;refine za (λh2=>?_) (λh2=>?_)
  ·rw[zzc h2]at lu
   refine Gn λw hS=>?_;refine Y6 (j:=0) (i:=0) hS Xh (by simp) (u:=Γ x0.file) rfl ?_;refine Cg (yR dp d' N T6 (by omega) x0.file) λw hS=>?_;have oB:=T6.remove x0.file;have IZ:=Wd d' x0.file;have AM:x0.pl.file=x0.file:=rfl;rw[AM]at lu
   refine za (λh3=>?_) (λh3=>?_)
   ·rw[lu,zzc h3];have hS:=gg (aR hS);exact bw hS
   rw[zzb h3]at lu
   rw[lu]at AK ⊢
   refine Gp ?_;refine Yd (k:=1) (SL.bo hS (t:=dA (.slice a (x0::x1::r).length c) (x0::x1::r)::.pt lp (dC (.slice a (x0::x1::r).length c) tv dp g.base g.size) 173::.ob (zg cV (x0::x1::r))::.ob (dS tv g.cC)::.ob (bm dp (d'.remove x0.file).1)::F) Xi) (by simp) ?_;clear hS;intro u hS;have e1:(x0::x1::r).length-1=(x1::r).length:=by simp
   have e2:((x0::x1::r).map ez).flatten.drop (1*4)=((x1::r).map ez).flatten:=by simp[ez]
   rw[e1,e2]at hS
   obtain⟨ua,uc,rfl,_⟩:=cz.at hS (v:=u) .hd;have hS:=zg.take (t:=0) (x:=x0) (SL.bo hS (t:=.ob (zg cV (x0::x1::r))::.ob (cz (.slice ua (x1::r).length uc) 265 4 (x1::r).length ((x1::r).map ez).flatten)::.pt lp (dC (.slice a (x0::x1::r).length c) tv dp g.base g.size) 173::.ob (dS tv g.cC)::.ob (bm dp (d'.remove x0.file).1)::F) Xi) rfl;have e3:(x0::x1::r).eraseIdx 0=x1::r:=rfl;rw[e3]at hS
   refine Gn λw hS=>?_;have gf:=hS.cell (b:=lp) (o:=0) (cs:=dC (.slice ua (x1::r).length uc) tv dp g.base g.size) (t:=173) Xh rfl;refine⟨⟨rfl,ua,uc,x1::r,(d'.remove x0.file).1,rfl,λs hs=>CV s (by simp at hs ⊢;exact .inr hs),by simp at hlen ⊢;omega,oB,by simp at IT ⊢;omega,aR hS⟩,?_⟩;dsimp only;rw[gf,Co];simp
  rw[lu,zzb h2];have hS:=gg (aR hS);exact bw hS
 have lu:gm (bZ.map cO.pl) d' n=((bZ.map cO.pl,d'),0):=by
  match bZ,h1 with
  | [],_=>rfl
  | [x],_=>rfl
  | _::_::_,h1=>simp at h1;omega
 rw[lu];have hS:=gg (aR hS);exact bw hS
def qt(lp dp:Nat)(g:bV)(d:DS){M N:Nat}(sV:0<=g.base)(Cm:g.base<=12288)(bC:d.Ok N)(hR:d.R.length<=100000):
  SP 156 [Δ lp] [.ob (b7 lp dp g),.ob (bm dp d)] (λv post=>post=[.ob (bd v 3 1 (eS g.base d.R).length ((eS g.base d.R).map (Value.int .i64))),.ob (b7 lp dp g),.ob (bm dp d)]):=by
 refine Enzz λW F w hS=>?_;apply bDr;delta aI bh ai bc;obtain⟨sv,tv,xs,hx,hS⟩:=b7.iff.1 hS;refine Gp ?_;refine Cc (ZG dp d N bC hR) ?_;clear hS;rintro fl post rfl w hS;try simp only[app]at hS
 refine zy hS (t:=3) (sz:=1) (n:=d.R.length) (cells:=d.R.map λx=>Γ x.id) Xh ?_;have hS:SL W (.ob (bd Θ 3 1 (eS g.base (d.R.take 0)).length ((eS g.base (d.R.take 0)).map (Value.int .i64)))::_) w:=bd.nil hS;refine⟨λvs w=>∃(u:Ε) (i:Nat),i<=d.R.length/\vs=[u,Γ i]/\SL W (.ob (bd u 3 1 (eS g.base (d.R.take i)).length ((eS g.base (d.R.take i)).map (Value.int .i64)))::.pt lp (dC sv tv dp g.base g.size) 173::dA sv xs::.ob (zg cV xs)::.ob (dS tv g.cC)::.ob (bm dp d)::.ob (bd fl 3 1 d.R.length (d.R.map λx=>Γ x.id))::F) w,
  λvs _=>match vs with|[_,.int _ i]=>(d.R.length-i).toNat|_=>0,⟨Θ,0,by omega,rfl,aR hS⟩,?_⟩
 clear hS;rintro v3 v12 w ⟨u,i,hi,dq,hS⟩;cases dq;refine bj (λh=>?_) (λh=>?_)
 ·have bn:i<d.R.length:=by omega
  have hu:(d.R.map λx=>Γ x.id)[i]?=some (Γ d.R[i].id):=by simp[bn]
  have bLk:(eS g.base (d.R.take i)).length<=100000:=by
   unfold eS;have:=yy7 (λf=>decide (g.base<=f/\f<g.base+4096)) ((d.R.take i).map PF.id);rw[zzv,zzf]at this
   omega
  have kj:eS g.base (d.R.take (i+1))=eS g.base (d.R.take i)++if g.base<=d.R[i].id/\d.R[i].id<g.base+4096 then [d.R[i].id] else []:=by
   unfold eS;rw[wwx,zzd bn,zzr,xxj];congr 1;simp only[Option.toList_some,zzp,yy6,xx7,List.filter_nil,zz1]
  have mn:∀{w:Ζ} {u:Ε},(eS g.base (d.R.take (i+1))=eS g.base (d.R.take i))->SL W (.ob (bd u 3 1 (eS g.base (d.R.take i)).length ((eS g.base (d.R.take i)).map (Value.int .i64)))::.pt lp (dC sv tv dp g.base g.size) 173::dA sv xs::.ob (zg cV xs)::.ob (dS tv g.cC)::.ob (bm dp d)::.ob (bd fl 3 1 d.R.length (d.R.map λx=>Γ x.id))::F) w ->
    (∃(u':Ε) (i':Nat),i'<=d.R.length/\[u,Γ ((i+1:Nat):Int)]=[u',Γ i']/\SL W (.ob (bd u' 3 1 (eS g.base (d.R.take i')).length ((eS g.base (d.R.take i')).map (Value.int .i64)))::.pt lp (dC sv tv dp g.base g.size) 173::dA sv xs::.ob (zg cV xs)::.ob (dS tv g.cC)::.ob (bm dp d)::.ob (bd fl 3 1 d.R.length (d.R.map λx=>Γ x.id))::F) w):=λe h=>⟨_,i+1,by omega,rfl,by rw[e];exact h⟩
  refine yv hS (t:=3) Xh bn hu ?_;refine bj (λh1=>?_) (λh1=>?_)
  ·refine bj (λh2=>?_) (λh2=>?_)
   ·rw[zzc ⟨h1,h2⟩]at kj
    refine Gm λb w hS=>?_;refine zL (m:=1) (cs:=[Γ d.R[i].id]) hS Xr (jx hS .hd rfl) rfl rfl (by simp[Value.oneCell']) (by omega) (by omega) ?_;clear hS;intro v' w hS;have e1:(eS g.base (d.R.take i)).length+1=(eS g.base (d.R.take (i+1))).length:=by rw[kj,zza];rfl
    have e2:(eS g.base (d.R.take i)).map (Value.int .i64)++[Γ d.R[i].id]=(eS g.base (d.R.take (i+1))).map (Value.int .i64):=by rw[kj,zzr];rfl
    rw[e1,e2]at hS
    refine Gp ?_;exact⟨⟨v',i+1,by omega,rfl,aR hS⟩,by dsimp only;omega⟩
   rw[zzb (by omega),zz3]at kj
   refine Gp ?_;exact⟨mn kj hS,by dsimp only;omega⟩
  rw[zzb (by omega),zz3]at kj
  refine Gp ?_;exact⟨mn kj hS,by dsimp only;omega⟩
 have gh:i=d.R.length:=by omega
 subst gh;rw[zz0]at hS
 have hS:=(b7.iff (g:=g)).2 ⟨sv,tv,xs,hx,SL.bo hS (t:=.pt lp (dC sv tv dp g.base g.size) 173::dA sv xs::.ob (zg cV xs)::.ob (dS tv g.cC)::.ob (bd v3 3 1 (eS g.base d.R).length ((eS g.base d.R).map (Value.int .i64)))::.ob (bm dp d)::F) Xi⟩;exact⟨_,rfl,aR hS⟩
def bx6(f:Nat):∀b:Φ,b.length<f->(∀p∈(iE b).1,p.length<=1048576)/\(iE b).1.length<=(iE b).2:=by
 induction f with
 | zero=>intro b h;omega
 | succ f ih=>
  intro b hb;cases h:f_ b with
  | error e=>rw[Du h];exact⟨by simp,by simp⟩
  | ok x=>
   obtain⟨p,n⟩:=x;have h2:=Dy h;obtain⟨i1,i2⟩:=ih (b.drop n) (by rw[zzq];omega);rw[F8 h];refine⟨λq hq=>?_,?_⟩
   ·rcases yya.1 hq with rfl|hq
    ·exact h2.2.2.1
    exact i1 q hq
   show (p::(iE (b.drop n)).1).length<=n+(iE (b.drop n)).2;rw[zzi];omega
def Ww{q:Φ}{f:Int}{l:List Φ}{n:Nat}(h:gA q=some (f,l,n)):1<=f/\f<=1099511627776/\n<=q.length/\l.length<=q.length/\∀p∈l,p.length<=1048576:=by
 obtain⟨h1,h2⟩:=bx6 (q.length+1) q (by omega);have h3:=bx5 (q.length+1) q (by omega);unfold gA at h;split at h
 ·cases h
 rename_i hd l' hs;rw[hs]at h1 h2
 cases hh:ou hd with
 | none=>rw[hh]at h;cases h
 | some k=>
  rw[hh]at h
  cases h;have hk:1<=f/\f<=1099511627776:=by
   unfold ou at hh;split at hh
   ·unfold EM at hh;split at hh
    ·split at hh
     ·rename_i hc;cases hh;exact⟨hc.2.1,hc.2.2⟩
     cases hh
    cases hh
   cases hh
  refine⟨hk.1,hk.2,h3,?_,λp hp=>h1 p (.tail _ hp)⟩;rw[zzi]at h2;omega
def pA(R:List PF)(base:Int)(N:Nat):Prop:=∀x∈R,base<=x.id->x.id<base+4096->x.b.length<=N
def pA.all{R:List PF}{N:Nat}(h:∀x∈R,x.b.length<=N)(base:Int):pA R base N:=λx hx _ _=>h x hx
def pA.at_{R:List PF}{base:Int}{N:Nat}(h:pA R base N){f:Int}(hf:base<=f/\f<base+4096):∀x,cP PF.id R f=some x->x.b.length<=N:=λx hx=>by
 obtain⟨h1,h2⟩:=tM hx;have h2:x.id=f:=h2;exact h x h1 (by omega) (by omega)
def Vb{L:List b6}{R:List PF}{f:Int}{last:Bool}{M N:Nat}(hR:∀x,cP PF.id R f=some x->x.b.length<=N)(hN:N<=M)(f0:0<=f)(f1:f<=100000)(hL:∀s∈L,j7 s M):(∀s∈(iu L R f last).2,j7 s M)/\(iu L R f last).2.length<=L.length+1:=by
 have hq:(((cP PF.id R f).map PF.b).getD []).length<=N:=by
  cases hg:cP PF.id R f with
  | none=>simp
  | some x=>exact hR x hg
 unfold iu;generalize ((cP PF.id R f).map PF.b).getD []=q at *
 simp only;cases hr:gA q with
 | none=>exact⟨hL,by simp⟩
 | some y=>
  obtain⟨k,l,n⟩:=y;have:=Ww hr;simp only;split
  ·exact⟨hL,by simp⟩
  refine⟨λs hs=>?_,by simp⟩;rcases zz4.1 hs with hs|hs
  ·exact hL s hs
  rw[zz8.1 hs];exact⟨f0,f1,this.1,this.2.1,by show n<=M;omega,by show l.length<=M;omega,this.2.2.2.2⟩
def QE(lp dp:Nat)(g:bV)(d:DS)(f:Int)(last:Bool){M B N:Nat}(hg:g.Ok M)(hM:M<=1000000000000)(bC:d.Ok B)(hB:B<=140737488355328)(hfN:∀x,cP PF.id d.R f=some x->x.b.length<=N)(hN:N<=10000000000):
  SP 157 [Δ lp,Γ f,.bool last] [.ob (b7 lp dp g),.ob (bm dp d)] (bA (.tuple #[.bool (iu g.bf d.R f last).1.1,.bool (iu g.bf d.R f last).1.2]) [.ob (b7 lp dp {g with bf:=(iu g.bf d.R f last).2}),.ob (bm dp d)]):=by
 refine Enzz λW F w hS=>?_;apply bDs;delta aI bh aW bg bk bJ GU ai bc;obtain⟨sv,tv,xs,hx,hS⟩:=b7.iff.1 hS;obtain⟨AN,iL,hh0,EW⟩:=hg.xs hx;have nH:bH (xs.map cO.pl)=bH g.bf:=by rw[hx]
 have EU:g.bf.length=xs.length:=by rw[<- hx,zzv]
 refine Gp ?_;refine Cc (Ya dp d B bC hB f) ?_;clear hS;rintro r post hQ w hS;have hq:(((cP PF.id d.R f).map PF.b).getD []).length<=N:=by
  cases hg:cP PF.id d.R f with
  | none=>simp
  | some x=>exact hfN x hg
 have vo:iu g.bf d.R f last=match gA (((cP PF.id d.R f).map PF.b).getD []) with
  | none=>((false,last),g.bf)
  | some (first,l,n)=>if (last=false/\(n≠(((cP PF.id d.R f).map PF.b).getD []).length\/l.length=0))\/(0<g.bf.length/\first≠bH g.bf+1)\/1099511627776<first+l.length-1 then ((true,false),g.bf)
   else ((true,true),g.bf++[⟨f,first,n,l⟩]):=rfl
 have cJ:∃(X:Μ) (a:Option Addr) (c:Nat) (bb:Bool),r= .tuple #[.slice a (((cP PF.id d.R f).map PF.b).getD []).length c,.bool bb]/\cK X (.slice a (((cP PF.id d.R f).map PF.b).getD []).length c) (((cP PF.id d.R f).map PF.b).getD [])/\SL W (X::.ob (bm dp d)::.pt lp (dC sv tv dp g.base g.size) 173::dA sv xs::.ob (zg cV xs)::.ob (dS tv g.cC)::F) w:=by
  unfold BC at hQ;cases hg:cP PF.id d.R f with
  | none=>
   rw[hg]at hQ
   obtain⟨rfl,rfl⟩:=hQ;try simp only[app]at hS
   exact⟨.mem a_.emp,none,0,false,rfl,cK.nil,SL.bo hS.Vx Xi⟩
  | some x=>
   rw[hg]at hQ
   obtain⟨u,rfl,rfl⟩:=hQ;try simp only[app]at hS
   obtain⟨a,c,rfl,_⟩:=bd.at hS (v:=u) (t:=5) (sz:=1) (n:=x.b.length) (cells:=x.b.map bU) Xh;exact⟨.ob (bd (.slice a x.b.length c) 5 1 x.b.length (x.b.map bU)),a,c,true,rfl,cK.own,aR hS⟩
 clear hS hQ;obtain⟨X,a,c,bb,rfl,hX,hS⟩:=cJ;rw[vo];clear vo;generalize ((cP PF.id d.R f).map PF.b).getD []=q at *
 refine Gp ?_;refine Cc (qc X _ q hX (by omega)) ?_;clear hS;rintro r post hQ w hS;unfold DL at hQ;cases hr:gA q with
 | none=>
  rw[hr]at hQ
  obtain⟨rfl,rfl⟩:=hQ;(try simp only[app]at hS);refine Gp ?_
  refine Υ ?_;have hS:=(b7.iff (g:=g)).2 ⟨sv,tv,xs,hx,SL.bo hS (t:=.pt lp (dC sv tv dp g.base g.size) 173::dA sv xs::.ob (zg cV xs)::.ob (dS tv g.cC)::.ob (bm dp d)::F) Xi⟩;exact bw hS
 | some y=>
  obtain⟨first,l,n⟩:=y;have oB:=Ww hr;rw[hr]at hQ
  obtain⟨u,es,he,rfl,rfl⟩:=hQ;try simp only[app]at hS
  have vj:l.length=es.length:=by rw[<- he,xV]
  obtain⟨ua,uc,rfl,_⟩:=cz.at hS (v:=u) .hd;obtain⟨r1,r2,r3,r4,r5⟩:=oB;simp only[vj,EU];have bMc:j7 (cO.pl ⟨f,first,n,es,ua,uc⟩) M\/True:=.inr trivial;refine Gp ?_;refine Χ ?_;refine Gm λb w hS=>?_;obtain⟨sb,rfl⟩:∃k,k=b:=⟨b,rfl⟩;obtain⟨I,hI⟩:∃I:Ξ->Ζ->Prop,I=λvs w=>∃bad:Bool,vs=[.bool bad]/\(bad=true↔((last=false/\(n≠q.length\/es.length=0))\/(0<xs.length/\first≠bH g.bf+1)\/1099511627776<first+es.length-1)) /\
   SL W (.pt sb [Γ f,Γ first,Γ n,.slice ua es.length uc] 265::.ob (cz (.slice ua es.length uc) 28 1 es.length (fF es))::.ob (zg fP es)::.ob (bm dp d)::.pt lp (dC sv tv dp g.base g.size) 173::dA sv xs::.ob (zg cV xs)::.ob (dS tv g.cC)::F) w:=⟨_,rfl⟩
  refine⟨I,?_,?_⟩
  ·have e_:∀(w:Ζ) (K:Ε->Ζ->Prop),¬(last=false/\(n≠q.length\/es.length=0))->SL W (.pt sb [Γ f,Γ first,Γ n,.slice ua es.length uc] 265::.ob (cz (.slice ua es.length uc) 28 1 es.length (fF es))::.ob (zg fP es)::.ob (bm dp d)::.pt lp (dC sv tv dp g.base g.size) 173::dA sv xs::.ob (zg cV xs)::.ob (dS tv g.cC)::F) w ->
     (∀(bad:Bool) w,(bad=true↔((last=false/\(n≠q.length\/es.length=0))\/(0<xs.length/\first≠bH g.bf+1)\/1099511627776<first+es.length-1))->SL W (.pt sb [Γ f,Γ first,Γ n,.slice ua es.length uc] 265::.ob (cz (.slice ua es.length uc) 28 1 es.length (fF es))::.ob (zg fP es)::.ob (bm dp d)::.pt lp (dC sv tv dp g.base g.size) 173::dA sv xs::.ob (zg cV xs)::.ob (dS tv g.cC)::F) w->K (.bool bad) w) ->
     (qd (Δ lp) λv54=>zk 0 v54 λv55=>zk 0 v55 λv56=>bu v56 w λv57=>zd v57 λv58=>zc .gtr v58 (Γ 0) λv59=>
      cB v59
      (qd (Δ lp) λv63=>zk 0 v63 λv64=>aF 93 [v64] w λv65 KJ=>zc .add v65 (Γ 1) λv66=>zc .neq (Γ first) v66 λv67=>
       cB v67 (K (.bool true) KJ)
       (zf 4 (Δ sb) KJ λv71=>aF 154 [v71] KJ λv72 vR=>zc .sub v72 (Γ 1) λv73=>zc .gtr v73 (Γ 1099511627776) λv74=>K v74 vR))
      (zf 4 (Δ sb) w λbB0=>aF 154 [bB0] w λbB1 KK=>zc .sub bB1 (Γ 1) λbB3=>zc .gtr bB3 (Γ 1099511627776) λbB5=>K bB5 KK)):=by
    intro w K hn hS hK;clear bb;refine Gp ?_;refine zO hS (v:=sv) (t:=265) (sz:=4) (n:=xs.length) (cells:=(xs.map ez).flatten) Xh ?_;refine bj (λh1=>?_) (λh1=>?_)
    ·refine Gp ?_;refine Cg (yi lp (dC sv tv dp g.base g.size) 173 sv xs rfl AN (by omega) (by omega)) λw hS=>?_;rw[nH];refine za (λh2=>?_) (λh2=>?_)
     ·refine hK true _ ⟨λ_=>.inr (.inl ⟨by omega,by omega⟩),λ_=>rfl⟩ (aR hS)
     refine Gp ?_;refine Cg (yV f first n ua es.length uc (by omega) (by omega)) λw hS=>?_;refine hK _ _ ⟨λh=>.inr (.inr (by simpa using h)),λh=>?_⟩ (aR hS);rcases h with h|h|h
     ·exact absurd h hn
     ·omega
     simpa using h
    refine Gp ?_;refine Cg (yV f first n ua es.length uc (by omega) (by omega)) λw hS=>?_;refine hK _ _ ⟨λh=>.inr (.inr (by simpa using h)),λh=>?_⟩ (aR hS);rcases h with h|h|h
    ·exact absurd h hn
    ·omega
    simpa using h
   cases last with
   | false=>
    refine z7 ?_;refine zu ?_;refine bj (λh1=>?_) (λh1=>?_)
    ·rw[hI];exact⟨true,rfl,⟨λ_=>.inl ⟨rfl,.inl (by omega)⟩,λ_=>rfl⟩,aR hS⟩
    refine bj (λh2=>?_) (λh2=>?_)
    ·rw[hI];exact⟨true,rfl,⟨λ_=>.inl ⟨rfl,.inr (by omega)⟩,λ_=>rfl⟩,aR hS⟩
    exact e_ w (λv w=>I [v] w) (by omega) (aR hS) (λbad w hb h=>by rw[hI];exact⟨bad,rfl,hb,h⟩)
   | true=>
    refine z7 ?_;refine zq ?_;exact e_ w (λv w=>I [v] w) (by simp) (aR hS) (λbad w hb h=>by rw[hI];exact⟨bad,rfl,hb,h⟩)
  clear hS;rw[hI];rintro v75 w ⟨bad,dq,eF,hS⟩;cases dq;cases bad with
  | true=>
   refine zu ?_;rw[zzc (eF.1 rfl)];have hS:=(b7.iff (g:=g)).2 ⟨sv,tv,xs,hx,SL.bo hS (t:=.pt lp (dC sv tv dp g.base g.size) 173::dA sv xs::.ob (zg cV xs)::.ob (dS tv g.cC)::.ob (bm dp d)::F) Xi⟩;exact bw hS
  | false=>
   refine zq ?_;rw[zzb (λh=>by have:=eF.2 h;cases this)];refine Gm λb w hS=>?_;refine ZT (t:=265) (sz:=4) (n:=xs.length) (cells:=(xs.map ez).flatten) (m:=1) (cs:=[Γ f,Γ first,Γ n,.slice ua es.length uc]) hS Xr (jx hS .hd rfl) rfl rfl (by simp[Value.oneCell']) (by omega) (by omega) ?_;clear hS;intro ji w hS;have s3:=cz.one hS (v:=ji) .hd;refine Gn λw hS=>?_;have hS:=(cV.iff (x:=⟨f,first,n,es,ua,uc⟩)).2 (SL.bo hS (t:=.ob (cz (.slice ua es.length uc) 28 1 es.length (fF es))::.ob (zg fP es)::.ob (zg cV xs)::.ob (bm dp d)::.pt lp (dC ji tv dp g.base g.size) 173::.ob (cz ji 265 4 (xs.length+1) ((xs.map ez).flatten++[Γ f,Γ first,Γ n,.slice ua es.length uc]))::.ob (dS tv g.cC)::F) Xi);have hS:=zg.snoc (hS.bo (t:=.ob (zg cV xs)::.ob (cV ⟨f,first,n,es,ua,uc⟩)::.ob (bm dp d)::.pt lp (dC ji tv dp g.base g.size) 173::.ob (cz ji 265 4 (xs.length+1) ((xs.map ez).flatten++[Γ f,Γ first,Γ n,.slice ua es.length uc]))::.ob (dS tv g.cC)::F) Xi);have e1:xs.length+1=(xs++[(⟨f,first,n,es,ua,uc⟩:cO)]).length:=by simp
   have e2:(xs.map ez).flatten++[Γ f,Γ first,Γ n,.slice ua es.length uc]=((xs++[(⟨f,first,n,es,ua,uc⟩:cO)]).map ez).flatten:=by simp[ez,cO.lv]
   rw[e1,e2]at hS
   have nK:(xs++[(⟨f,first,n,es,ua,uc⟩:cO)]).map cO.pl=g.bf++[⟨f,first,n,l⟩]:=by
    rw[zzr,hx];simp[cO.pl,he]
   have hS:=(b7.iff (g:={g with bf:=g.bf++[⟨f,first,n,l⟩]})).2 ⟨ji,tv,xs++[⟨f,first,n,es,ua,uc⟩],nK,SL.bo hS (t:=.pt lp (dC ji tv dp g.base g.size) 173::dA ji (xs++[⟨f,first,n,es,ua,uc⟩])::.ob (zg cV (xs++[⟨f,first,n,es,ua,uc⟩]))::.ob (dS tv g.cC)::.ob (bm dp d)::F) Xi⟩;exact bw hS
def qe(lp dp:Nat)(g:bV)(d:DS)(iv:Ε)(ids:Ω)(whole:Bool){M N:Nat}(hg:g.Ok M)(hM:M<=1000000000000)(bC:d.Ok N)(hN:N<=140737488355328)(cZ:d.ops<=100000)(cY:whole=true->ids≠[]->g.bf≠[])(bn:ids.length<=100000):
  SP 158 [Δ lp,iv,.bool whole] [.ob (b7 lp dp g),.ob (bm dp d),.ob (bd iv 3 1 ids.length (ids.map (Value.int .i64)))]
   (bA (Γ (iQ g.bf d ids whole).2) [.ob (b7 lp dp g),.ob (bm dp (iQ g.bf d ids whole).1),.ob (bd iv 3 1 ids.length (ids.map (Value.int .i64)))]):=by
 refine Enzz λW F w hS=>?_;apply bDt;delta aI bh aW bk bJ ai;obtain⟨sv,tv,xs,hx,hS⟩:=b7.iff.1 hS;obtain⟨AN,iL,_,_⟩:=hg.xs hx;have gg:∀{w:Ζ} {d':DS},SL W (.pt lp (dC sv tv dp g.base g.size) 173::dA sv xs::.ob (zg cV xs)::.ob (dS tv g.cC)::.ob (bm dp d')::.ob (bd iv 3 1 ids.length (ids.map (Value.int .i64)))::F) w->SL W (.ob (b7 lp dp g)::.ob (bm dp d')::.ob (bd iv 3 1 ids.length (ids.map (Value.int .i64)))::F) w:=λh=>(b7.iff (g:=g)).2 ⟨_,tv,_,hx,h⟩;refine zy hS (v:=iv) (t:=3) (sz:=1) (n:=ids.length) (cells:=ids.map (Value.int .i64)) Xh ?_;refine bj (λh=>?_) (λh=>?_)
 ·have:ids=[]:=zzl (by omega);subst this;have hS:=gg (aR hS);exact⟨_,⟨rfl,rfl⟩,hS⟩
 have hj:ids.length-1<ids.length:=by omega
 have EU:ids.getLast?=some (ids[ids.length-1]'hj):=by rw[wwc,zzd hj]
 have bjv:ids≠[]:=λe=>by rw[e]at h;simp at h
 have hu:(ids.map (Value.int .i64))[ids.length-1]?=some (Γ (ids[ids.length-1]'hj)):=by simp[hj]
 generalize (ids[ids.length-1]'hj)=f at *
 refine zy hS (v:=iv) (t:=3) (sz:=1) (n:=ids.length) (cells:=ids.map (Value.int .i64)) Xh ?_;refine Gp ?_;have e:((ids.length:Nat):Int)-1=((ids.length-1:Nat):Int):=by omega
 rw[e];refine yv hS (v:=iv) (t:=3) Xh hj hu ?_;cases whole with
 | false=>
  have hb:iQ g.bf d ids false=d.remove f:=by unfold iQ;rw[EU];rfl
  rw[hb];refine z7 ?_;refine zu ?_;refine Gp ?_;refine Cg (yR dp d N bC cZ f) λw hS=>?_;have hS:=gg (aR hS);exact⟨_,⟨rfl,rfl⟩,hS⟩
 | true=>
  have hb:iQ g.bf d ids true=if lT g.bf<gi d.R f then d.cut f (lT g.bf) else (d,0):=by unfold iQ;rw[EU];rfl
  rw[hb];refine z7 ?_;refine zq ?_;have hn:=cY rfl bjv;have hle:0<xs.length:=by
   rcases yy8 xs.length with h0|h0
   ·rw[<- hx,zzl h0]at hn;exact absurd rfl hn
   exact h0
  have pQ:xs.length-1<xs.length:=by omega
  have IH:lT g.bf=((xs[xs.length-1]'pQ).size:Nat):=by
   unfold lT;rw[<- hx,uub,wwc,zzd pQ];rfl
  rw[IH];refine Gn λw hS=>?_;refine zO hS (v:=sv) (t:=265) (sz:=4) (n:=xs.length) (cells:=(xs.map ez).flatten) Xh ?_;refine Gp ?_;have e:((xs.length:Nat):Int)-1=((xs.length-1:Nat):Int):=by omega
  rw[e];refine Y6 (i:=2) hS Xh pQ (u:=Γ ((xs[xs.length-1]'pQ).size:Nat)) rfl ?_;generalize (xs[xs.length-1]'pQ).size=z at *
  refine Gp ?_;refine Cg (YD dp d f) λw hS=>?_;refine za (λh1=>?_) (λh1=>?_)
  ·rw[zzc h1];refine Gp ?_;refine Cg (Zs dp d N bC (by omega) cZ f (z:Int)) λw hS=>?_;have hS:=gg (aR hS);exact⟨_,⟨rfl,rfl⟩,hS⟩
  rw[zzb h1];have hS:=gg (aR hS);exact⟨_,⟨rfl,rfl⟩,hS⟩
def BA(dp:Nat)(y:DS × Except Int bV)(r:Ε)(post:Β):Prop:=match y.2 with
 | .error e=>e≠0/\r= .tuple #[.pointer none,Γ e]/\post=[.ob (bm dp y.1)]
 | .ok g=>∃lp:Nat,r= .tuple #[Δ lp,Γ 0]/\post=[.ob (b7 lp dp g),.ob (bm dp y.1)]
def Vd{R:List PF}{M N:Nat}{base:Int}(hR:pA R base N)(hN:N<=M)(b0:0<=base)(b1:base<=12288):∀(ids:Ω) (prev:Option Int) (L:List b6) (wh:Bool) (k:Nat),(∀f∈ids,base<=f/\f<base+4096)->(∀s∈L,j7 s M)->L.length<=k->∀{L' xC},kM R ids prev L wh=some (L',xC)->(∀s∈L',j7 s M)/\L'.length<=k+ids.length
 | [],prev,L,wh,k,_,hL,hk,L',xC,h=>by
  cases h;exact⟨hL,by simpa using hk⟩
 | f::r,prev,L,wh,k,hf,hL,hk,L',xC,h=>by
  rw[AS]at h
  obtain⟨f0,f1⟩:=hf f (.head _);obtain⟨k1,k2⟩:=Vb (last:=r.isEmpty) (hR.at_ ⟨f0,f1⟩) hN (by omega) (by omega) hL;split at h
  ·cases h
  split at h
  ·cases h
  have:=Vd hR hN b0 b1 r _ _ _ (k+1) (λx hx=>hf x (.tail _ hx)) k1 (by omega) h;exact⟨this.1,by simp at this ⊢;omega⟩
def UI{base:Int}{R:List PF}{f:Int}(h:f∈eS base R):base<=f/\f<base+4096:=by
 unfold eS at h;have:=(yy0.1 h).2;simpa using this
def UH(base:Int)(R:List PF):(eS base R).length<=R.length:=by
 unfold eS;have:=yy7 (λf=>decide (base<=f/\f<base+4096)) (R.map PF.id)
 rwa [zzv]at this
def bro{d d':DS}{base size:Int}{N:Nat}(hw:pA d.R base N)(hR:d.R.length<=100000){g:bV}(h:dN d base size=(d',.ok g)):g.Ok (N+100000)/\d.off=false:=by
 unfold dN at h;split at h
 ·cases h
 rename_i hb;split at h
 ·cases h
 rename_i ho;split at h
 ·cases h
 rename_i L wh hl;obtain⟨k1,k2⟩:=Vd (M:=N+100000) hw (by omega) (by omega) (by omega) _ _ [] _ 0 (λf hf=>UI hf) (by simp) (by simp) hl;have:=UH base d.R;have hL:(⟨L,base,size,none⟩:bV).Ok (N+100000):=⟨k1,by show 0<=base;omega,by show base<=12288;omega,by show 64<=size;omega,by show size<=65536;omega,by show L.length<=_;omega⟩;split at h
 ·cases h
 cases h;exact⟨hL,by simpa using ho⟩
def V9(dp:Nat)(d:DS)(base size:Int){N B:Nat}(bC:d.Ok B)(hB:B<=140737488355328)(hw:pA d.R base N)(hN:N<=1000000000)(hR:d.R.length<=100000)(cZ:d.ops<=100000):
  SP 104 [Δ dp,Γ base,Γ size] [.ob (bm dp d)] (BA dp (dN d base size)):=by
 refine Enzz λW F w hS=>?_;apply bCd;delta aI bJ ai bT bc;by_cases Il:base<0\/12288<base\/size<64\/65536<size
 ·have e:dN d base size=(d,.error 1):=by unfold dN;rw[zzc Il]
  rw[e];have hE:∀{w:Ζ},SL W (.ob (bm dp d)::F) w->∃post,BA dp (d,.error 1) (.tuple #[.pointer none,Γ 1]) post/\SL W (app post F) w:=λh=>⟨_,⟨by decide,rfl,rfl⟩,h⟩;refine Gp ?_;refine za (λh=>hE hS) (λh1=>?_);refine Gp ?_;refine za (λh=>hE hS) (λh2=>?_);refine Gp ?_;refine za (λh=>hE hS) (λh3=>?_);refine Gp ?_;refine za (λh=>hE hS) (λh4=>by omega)
 refine Gp ?_;refine Χ ?_;refine Gp ?_;refine Χ ?_;refine Gp ?_;refine Χ ?_;refine Gp ?_;refine Χ ?_;refine Cg (zH dp d) λw hS=>?_;refine yJ (λho=>?_) (λho=>?_)
 ·have e:dN d base size=(d,.error 8):=by unfold dN;rw[zzb Il,zzc ho]
  rw[e];exact⟨_,⟨by decide,rfl,rfl⟩,hS⟩
 have eo:dN d base size=match kM d.R (eS base d.R) none [] true with
  | none=>(d,.error 3)
  | some (L,whole)=>if (iQ L d (eS base d.R) whole).2≠0 then ((iQ L d (eS base d.R) whole).1,.error (iQ L d (eS base d.R) whole).2) else ((iQ L d (eS base d.R) whole).1,.ok ⟨L,base,size,none⟩):=by
  unfold dN;rw[zzb Il,zzb (by rw[ho];decide)];rfl
 rw[eo];have hi:∀f∈eS base d.R,base<=f/\f<base+4096:=λf hf=>UI hf;have bn:=UH base d.R;refine Gp ?_;refine⟨_,rfl,zD hS ?_⟩;clear hS;intro lp w hS;have hS:=(xN (v:=.pointer none)).2 ⟨rfl,hS⟩;have hS:=cz.p5 (a:=none) (t:=265) (sz:=4) hS;have hS:=zg.nil (A:=cV) hS;have hS:=SL.bo hS (t:=.pt lp (dC Θ (.pointer none) dp base size) 173::.ob (cz Θ 265 4 0 [])::.ob (zg cV [])::.ob (dS (.pointer none) none)::.ob (bm dp d)::F) Xi;have hS:=(b7.iff (g:=⟨[],base,size,none⟩)).2 ⟨_,_,[],rfl,hS⟩;refine Cc (qt lp dp ⟨[],base,size,none⟩ d (M:=0) (N:=B) (by show 0<=base;omega) (by show base<=12288;omega) bC hR) ?_;clear hS;rintro iv post rfl w hS;(try simp only[app]at hS);generalize wL:eS base d.R=ids at *
 refine zy hS (v:=iv) (t:=3) (sz:=1) (n:=ids.length) (cells:=ids.map (Value.int .i64)) Xh ?_;refine⟨λvs w=>∃(wh:Bool) (i:Nat) (L:List b6),i<=ids.length/\vs=[.bool wh,Γ i]/\kM d.R ids none [] true=kM d.R (ids.drop i) (if i=0 then none else ids[i-1]?) L wh/\(∀s∈L,j7 s (N+100000))/\L.length<=i/\(wh=true->0<i->L≠[])/\SL W (.ob (b7 lp dp ⟨L,base,size,none⟩)::.ob (bm dp d)::.ob (bd iv 3 1 ids.length (ids.map (Value.int .i64)))::F) w,
  λvs _=>match vs with|[_,.int _ i]=>(ids.length-i).toNat|_=>0,⟨true,0,[],by omega,rfl,rfl,by simp,by simp,λ_ h=>by omega,aR hS⟩,?_⟩
 clear hS;rintro v10 v43 w ⟨wh,i,L,sX,dq,mo,S',Ig,hwh,hS⟩;cases dq;have S9:(⟨L,base,size,none⟩:bV).Ok (N+100000):=⟨S',by show 0<=base;omega,by show base<=12288;omega,by show 64<=size;omega,by show size<=65536;omega,by show L.length<=_;omega⟩;refine bj (λh1=>?_) (λh1=>?_)
 ·have hj:i<ids.length:=by omega
  have hu:(ids.map (Value.int .i64))[i]?=some (Γ ids[i]):=by simp[hj]
  have tT:=hi _ (zzk hj);rw[yyn hj,AS]at mo
  refine yv hS (v:=iv) (t:=3) Xh hj hu ?_;refine zy hS (v:=iv) (t:=3) (sz:=1) (n:=ids.length) (cells:=ids.map (Value.int .i64)) Xh ?_;refine Gp ?_;have mn:decide (((i:Nat):Int)=((ids.length:Nat):Int)-1)=(ids.drop (i+1)).isEmpty:=by
   rw[ww9,vv4,List.isEmpty_iff,List.drop_eq_nil_iff];omega
  rw[mn];obtain⟨k1,k2⟩:=Vb (L:=L) (f:=ids[i]) (last:=(ids.drop (i+1)).isEmpty) (M:=N+100000) (hw.at_ tT) (by omega) (by omega) (by omega) S';have pT:(iu L d.R ids[i] (ids.drop (i+1)).isEmpty).1.1=true->(iu L d.R ids[i] (ids.drop (i+1)).isEmpty).1.2=true->(iu L d.R ids[i] (ids.drop (i+1)).isEmpty).2≠[]:=by
   unfold iu;simp only;split
   ·intro h;cases h
   split
   ·intro _ h;cases h
   intro _ _;simp
  refine Cg (QE lp dp ⟨L,base,size,none⟩ d ids[i] (ids.drop (i+1)).isEmpty S9 (by omega) bC hB (hw.at_ tT) (by omega)) λw hS=>?_;generalize hLG:iu L d.R ids[i] (ids.drop (i+1)).isEmpty=y at *
  obtain⟨⟨is,ok⟩,L2⟩:=y;simp only at hS mo k1 k2 pT ⊢;cases ok with
  | false=>
   refine zu ?_;rw[zzc rfl]at mo
   rw[mo];exact⟨_,⟨by decide,rfl,rfl⟩,aR hS⟩
  | true=>
   refine zq ?_;rw[zzb (by decide)]at mo
   have ue:∀{w:Ζ},(¬wC (if i=0 then none else ids[i-1]?) ids[i]=true)->SL W (.ob (b7 lp dp ⟨L2,base,size,none⟩)::.ob (bm dp d)::.ob (bd iv 3 1 ids.length (ids.map (Value.int .i64)))::F) w ->
     ∃(wh:Bool) (i':Nat) (L:List b6),i'<=ids.length/\[Value.bool is,Γ ((i+1:Nat):Int)]=[.bool wh,Γ i']/\kM d.R ids none [] true=kM d.R (ids.drop i') (if i'=0 then none else ids[i'-1]?) L wh/\(∀s∈L,j7 s (N+100000))/\L.length<=i'/\(wh=true->0<i'->L≠[])/\SL W (.ob (b7 lp dp ⟨L,base,size,none⟩)::.ob (bm dp d)::.ob (bd iv 3 1 ids.length (ids.map (Value.int .i64)))::F) w:=by
    intro w hp hS;refine⟨is,i+1,L2,by omega,rfl,?_,k1,by omega,λh _=>pT h rfl,hS⟩;rw[zzb hp]at mo
    rw[mo,zzb (by omega),Nat.add_sub_cancel,zzd hj]
   refine bj (λh2=>?_) (λh2=>?_)
   ·have sY:i-1<ids.length:=by omega
    have tS:=hi _ (zzk sY);refine Gp ?_;have e:((i:Nat):Int)-1=((i-1:Nat):Int):=by omega
    rw[e];have I9:(ids.map (Value.int .i64))[i-1]?=some (Γ (ids[i-1]'sY)):=by simp[sY]
    refine yv hS (v:=iv) (t:=3) Xh sY I9 ?_;have Ud:wC (if i=0 then none else ids[i-1]?) ids[i]=decide (ids[i]≠(ids[i-1]'sY)+1):=by
     rw[zzb (by omega),zzd sY];rfl
    refine bj (λh3=>?_) (λh3=>?_)
    ·rw[zzc (by rw[Ud];simpa using h3)]at mo
     rw[mo];exact⟨_,⟨by decide,rfl,rfl⟩,aR hS⟩
    refine Gp ?_;exact⟨ue (by rw[Ud];simpa using h3) (aR hS),by dsimp only;omega⟩
   refine Gp ?_;have rS:i=0:=by omega
   exact⟨ue (by rw[zzc rS];simp[wC]) (aR hS),by dsimp only;omega⟩
 have gh:i=ids.length:=by omega
 rw[gh,vvw]at mo
 rw[mo];simp only[kM];have Tj:=P_ (L:=L) (ids:=ids) (wh:=wh) bC;refine Cg (qe lp dp ⟨L,base,size,none⟩ d iv ids wh S9 (by omega) bC (by omega) cZ (λh cY=>hwh h (by rw[gh];exact wwz.2 cY)) (by omega)) λw hS=>?_;simp only at hS ⊢;refine za (λh2=>?_) (λh2=>?_)
 ·rw[zzc h2];exact⟨_,⟨h2,rfl,rfl⟩,aR hS⟩
 rw[zzb h2];exact⟨_,⟨lp,rfl,rfl⟩,aR hS⟩
def QH(dp:Nat)(d:DS)(base size:Int){N:Nat}(bC:d.Ok N)(hN:N<=1000000000)(hR:d.R.length<=100000)(cZ:d.ops<=100000):
  SP 104 [Δ dp,Γ base,Γ size] [.ob (bm dp d)] (BA dp (dN d base size)):=
 V9 dp d base size bC (by omega) (pA.all bC.len base) hN hR cZ
section
variable (lp dp:Nat) (g:bV) {M:Nat} (hg:g.Ok M) (hM:M<=1000000000000)
include hg hM
def Z3:SP 93 [Δ lp] [.ob (b7 lp dp g)] (bA (Γ (bH g.bf)) [.ob (b7 lp dp g)]):=by
 intro W F w hS;obtain⟨sv,tv,xs,hx,hS⟩:=b7.iff.1 hS;obtain⟨h1,h2,_,_⟩:=hg.xs hx;refine yF (yi lp (dC sv tv dp g.base g.size) 173 sv xs rfl h1 (by omega) (by omega)) hS Xp ?_;rintro v post ⟨rfl,rfl⟩ w hS;try simp only[app]at hS
 rw[hx];exact⟨_,⟨rfl,rfl⟩,b7.iff.2 ⟨sv,tv,xs,hx,aR hS⟩⟩
def Zv:SP 94 [Δ lp] [.ob (b7 lp dp g)] (bA (Γ (dH g.bf)) [.ob (b7 lp dp g)]):=by
 intro W F w hS;obtain⟨sv,tv,xs,hx,hS⟩:=b7.iff.1 hS;obtain⟨h1,h2,_,_⟩:=hg.xs hx;refine yF (bn7 lp (dC sv tv dp g.base g.size) 173 sv xs rfl (by omega)) hS Xp ?_;rintro v post ⟨rfl,rfl⟩ w hS;try simp only[app]at hS
 rw[hx];exact⟨_,⟨rfl,rfl⟩,b7.iff.2 ⟨sv,tv,xs,hx,aR hS⟩⟩
def Yb(n:Int)(hn : -9000000000000000000<=n/\n<=9000000000000000000):SP 162 [Δ lp,Γ n] [.ob (b7 lp dp g)] (DK [.ob (b7 lp dp g)] (lY g.bf n)):=by
 intro W F w hS;obtain⟨sv,tv,xs,hx,hS⟩:=b7.iff.1 hS;obtain⟨h1,h2,_,_⟩:=hg.xs hx;refine yF (QR lp (dC sv tv dp g.base g.size) 173 sv xs n rfl h1 (by omega) (by omega) hn) hS Xp ?_;intro r post hQ w hS;rw[hx]at hQ
 cases hr:lY g.bf n with
 | none=>
  rw[hr]at hQ
  obtain⟨rfl,rfl⟩:=hQ;try simp only[app]at hS
  exact⟨_,⟨rfl,rfl⟩,b7.iff.2 ⟨sv,tv,xs,hx,aR hS⟩⟩
 | some b=>
  rw[hr]at hQ
  obtain⟨u,rfl,rfl⟩:=hQ;try simp only[app]at hS
  have hS:=(b7.iff (g:=g)).2 ⟨sv,tv,xs,hx,SL.bo hS (t:=.pt lp (dC sv tv dp g.base g.size) 173::dA sv xs::.ob (zg cV xs)::.ob (dS tv g.cC)::.ob (bd u 5 1 b.length (b.map bU))::F) Xi⟩;exact⟨_,⟨u,rfl,rfl⟩,aR hS⟩
end
def V8{d d':DS}{base size:Int}{N:Nat}(hw:pA d.R base N)(hR:d.R.length<=100000){g:bV}(h:dN d base size=(d',.ok g)):gX g (N+100000):=by
 have hk:=(bro hw hR h).1;unfold dN at h;split at h
 ·cases h
 split at h
 ·cases h
 split at h
 ·cases h
 rename_i L wh hl;obtain⟨k1,k2⟩:=Ve _ _ [] _ trivial (by decide) hl;split at h
 ·cases h
 cases h;exact⟨hk,k1,k2,λx hx=>by cases hx⟩
def JU{d d':DS}{base size:Int}{N:Nat}(bC:d.Ok N)(hR:d.R.length<=100000){g:bV}(h:dN d base size=(d',.ok g)):gX g (N+100000):=V8 (pA.all bC.len base) hR h
def UN:∀(l:Α) (a N:Nat),a<=N->l.Pairwise (· < ·)->(∀x∈l,a<=x/\x<N)->l.length+a<=N
 | [],a,N,h,_,_=>by simpa using h
 | x::l,a,N,_,hp,hx=>by
  have h1:=hx x (.head _);obtain⟨mV,pc⟩:=yyi.1 hp;have:=UN l (x+1) N (by omega) pc λy hy=>⟨mV y hy,(hx y (.tail _ hy)).2⟩;rw[zzi];omega
def DS.Ok.Dn{s:DS}{N:Nat}(h:s.Ok N):s.R.length<=16384:=by
 have hs:(s.R.map λx=>x.id.toNat).Pairwise (· < ·):=by
  rw[vvq];refine List.Pairwise.imp_of_mem (λ{a b} ha hb b9=>?_) h.sorted;have h1:=h.ids a ha;have h2:=h.ids b hb;have b9:a.id<b.id:=b9;omega
 have:=UN _ 0 16384 (by decide) hs λn hn=>by
  obtain⟨x,hx,rfl⟩:=zz5.1 hn;have:=h.ids x hx;omega
 simpa using this
abbrev gW(b:Nat):Ε:=Δ b
abbrev pf(gp dp lp pp:Nat)(aw:Int)(rv:Ε):Ξ:=[gW gp,gW dp,gW lp,gW pp,Γ aw,rv]
def b5(kp gp dp lp pp:Nat)(H:a_)(k:bO):zC:=iX λrv:Ε=>zF (iz H rv k.reqs) [.pt kp (pf gp dp lp pp k.aw rv) 167,.ob (ig gp k.ts),.ob (b7 lp dp k.g),.ob (gG pp k.plan),.ob (bm dp k.d)]
section
variable {W w:Ζ} {l F:Β} {kp gp dp lp pp:Nat} {H:a_} {k:bO}
def b5.iff:SL W (.ob (b5 kp gp dp lp pp H k)::l) w↔∃rv,iz H rv k.reqs/\SL W (.pt kp (pf gp dp lp pp k.aw rv) 167::.ob (ig gp k.ts)::.ob (b7 lp dp k.g)::.ob (gG pp k.plan)::.ob (bm dp k.d)::l) w:=by
 unfold b5;simp only[SL.ex,SL.fact,zzn,zzo]
def b5.put(k:bO){rv:Ε}(hS:SL W l w)(hr:iz H rv k.reqs)(p:fK [.pt kp (pf gp dp lp pp k.aw rv) 167,.ob (ig gp k.ts),.ob (b7 lp dp k.g),.ob (gG pp k.plan),.ob (bm dp k.d)] l F):SL W (.ob (b5 kp gp dp lp pp H k)::F) w:=b5.iff.2 ⟨rv,hr,hS.pick p⟩
def b5.dI{g:bV}{d:DS}{ts:List (List Cell)}{plan:List eK}{aw:Int}{reqs:List Rq}{rv:Ε}(hS:SL W l w)(hr:iz H rv reqs)(p:fK [.pt kp (pf gp dp lp pp aw rv) 167,.ob (ig gp ts),.ob (b7 lp dp g),.ob (gG pp plan),.ob (bm dp d)] l F):SL W (.ob (b5 kp gp dp lp pp H ⟨g,d,ts,plan,aw,reqs⟩)::F) w:=b5.iff.2 ⟨rv,hr,hS.pick p⟩
def b5.mono{H':a_}(hh:H.le H')(h:SL W (.ob (b5 kp gp dp lp pp H k)::l) w):SL W (.ob (b5 kp gp dp lp pp H' k)::l) w:=by
 obtain⟨rv,hr,hS⟩:=b5.iff.1 h;exact b5.iff.2 ⟨rv,hr.mono hh,hS⟩
def b5.jU{W w:Ζ}{l F:Β}{H H':a_}{kp gp dp lp pp:Nat}{k:bO}(hh:H.le H')(hS:SL W l w)(r:eW (.ob (b5 kp gp dp lp pp H k)) l F):SL W (.ob (b5 kp gp dp lp pp H' k)::F) w:=b5.mono hh (hS.perm r.perm)
def b5.open(hS:SL W l w)(r:eW (.ob (b5 kp gp dp lp pp H k)) l F):∃rv,iz H rv k.reqs/\SL W (.pt kp (pf gp dp lp pp k.aw rv) 167::.ob (ig gp k.ts)::.ob (b7 lp dp k.g)::.ob (gG pp k.plan)::.ob (bm dp k.d)::F) w:=b5.iff.1 (hS.perm r.perm)
end
structure Bw(k:bO)(N m:Nat):Prop where
 g:gX k.g N
 d:k.d.Ok N
 le:N<=1000000000
 ops:k.d.ops<=80000
 pl:k.plan.length<=1024
 lW:∀f∈k.plan,fI f=true
 ts:k.ts.length<=8
 ok:sh k.ts
 room:small k.ts (4096*m)
 rq:k.reqs.length<=64
def xM(o:Option (List Rq))(H:a_)(u:Ε):Prop:=match o with
 | none=>∃x,u= .tuple #[x,.bool false]
 | some L=>∃x,u= .tuple #[x,.bool true]/\iz H x L
def VS{L L':List Rq}{n:gF}(h:nO L n=some L'):L'.length<=64:=by
 unfold nO at h;split at h
 ·exact (D6 h).1
 split at h
 ·rename_i L2 h2;split at h
  ·cases h;exact (BL h2).1
  cases h
 cases h
def QA(H:a_)(v:Ε)(L:List Rq)(n:gF)(hv:iz H v L)(hL:L.length<=64)(hn:kJ n.id):
  SP 233 [v,agg (jP n)] [.mem H] (λu post=>∃H',H.le H'/\xM (nO L n) H' u/\post=[.mem H']):=by
 refine Enzz λW F w hS=>?_;apply bFt;delta aI aW bg ai;refine zx hS λb w hS=>?_;obtain⟨kind,id,table,weight,at_,cG,done⟩:=n;have hn:kJ id:=hn;unfold jP at hS;unfold nO;refine bj (λhk=>?_) (λhk=>?_)
 ·rw[zzc hk];refine Gp ?_;refine Cc (ZJ H v L id cG done hv (by omega) hn) ?_;clear hS;rintro u post ⟨H',hh,rfl,hq⟩ w hS;simp only;cases hc:lG L id cG done with
  | none=>
   rw[hc]at hq
   obtain rfl:=hq;(try simp only[app]at hS);refine Gp ?_
   exact⟨_,⟨H',hh,⟨_,rfl⟩,rfl⟩,aR hS⟩
  | some L'=>
   rw[hc]at hq
   obtain⟨x,rfl,hx⟩:=hq;(try simp only[app]at hS);refine Gp ?_
   exact⟨_,⟨H',hh,⟨_,rfl,hx⟩,rfl⟩,aR hS⟩
 rw[zzb hk];refine Gp ?_;refine Cc (Zk H v L table weight at_ hv (by omega)) ?_;clear hS;rintro u post ⟨H',hh,rfl,hq⟩ w hS;simp only;cases hc:oO L table weight at_ with
 | none=>
  rw[hc]at hq
  obtain rfl:=hq;refine Gn λw hS=>?_;exact⟨_,⟨H',hh,⟨_,rfl⟩,rfl⟩,aR hS⟩
 | some L'=>
  rw[hc]at hq
  obtain⟨x,rfl,hx⟩:=hq;refine Gn λw hS=>?_;refine zn hx ?_;refine Gp ?_;by_cases he:id=(L'.length:Int)
  ·rw[zzm he];exact⟨_,⟨H',hh,(by simp only;rw[zzc he];exact⟨_,rfl,hx⟩),rfl⟩,aR hS⟩
  rw[zzx he];exact⟨_,⟨H',hh,(by simp only;rw[zzb he];exact⟨_,rfl⟩),rfl⟩,aR hS⟩
def bfo{n:Nat}{L:List Rq}{t:bB}{i:Nat}(hi:i<t.ops.length)(h:(n:Int)<=t.ops[i].table):fj n L t=none:=by
 unfold fj;rw[zzb];rintro ⟨_,h2⟩;unfold sr at h2;rw[zz7]at h2
 have:=zzt (h2 _ (zzk hi));omega
def bAm{n:Nat}{t:bB}(h:∀j (hj:j<t.ops.length),t.ops[j].table<(n:Int)):sr n t=true:=by
 unfold sr;rw[zz7];intro o ho;obtain⟨j,hj,rfl⟩:=yyh ho;exact zzm (h j hj)
def bqx{L:List Rq}{l:List gF}{i:Nat}(h:i<l.length):fE L (l.drop i)=match nO L l[i] with|some L'=>fE L' (l.drop (i+1))|none=>none:=by
 rw[yyn h];rfl
structure Bu(t:bB):Prop where
 ids:∀n∈t.notes,kJ n.id
 ops:t.ops.length<=140737488351232
 g_:t.notes.length<=140737488351232
def Zt(kp gp dp lp pp:Nat)(H:a_)(k:bO)(x:gO)(t:bB)(hx:gn H x t)(hi:Bu t)(mq:k.reqs.length<=64):
  SP 164 [gW kp,agg (dD x)] [.ob (b5 kp gp dp lp pp H k),.mem H] (λu post=>∃H',H.le H'/\xM (fj k.ts.length k.reqs t) H' u/\post=[.ob (b5 kp gp dp lp pp H' k),.mem H']):=by
 refine Enzz λW F w hS=>?_;apply bD0;delta aI bh aW bg bJ ai bK bc;refine zx hS λxb w hS=>?_;obtain⟨rv,hr,hS⟩:=b5.open (k:=k) hS Xr;unfold dD at hS;rw[hx.aw]at hS
 have CJ:=hi.ops;have kG:=hi.g_;refine Gp ?_;refine zn hx.ops ?_;obtain⟨F2,oh⟩:∃F2,F2= .ob (b7 lp dp k.g)::.ob (gG pp k.plan)::.ob (bm dp k.d)::F:=⟨_,rfl⟩;have hS:=SL.bo hS (t:=.pt kp (pf gp dp lp pp k.aw rv) 167::.ob (ig gp k.ts)::.pt xb [Γ t.aw,x.ov,x.nv] 236::.mem H::.ob (b7 lp dp k.g)::.ob (gG pp k.plan)::.ob (bm dp k.d)::F) Xi;rw[<- oh]at hS
 have gg:∀{w:Ζ} {H':a_} {u:Ε},H.le H'->xM (fj k.ts.length k.reqs t) H' u->SL W (.pt kp (pf gp dp lp pp k.aw rv) 167::.ob (ig gp k.ts)::.mem H'::F2) w->∃post,(∃H',H.le H'/\xM (fj k.ts.length k.reqs t) H' u/\post=[.ob (b5 kp gp dp lp pp H' k),.mem H'])/\SL W (app post F) w:=λhh hq hS=>by
  rw[oh]at hS
  have hS:=b5.put k hS (hr.mono hh) Xp;exact⟨_,⟨_,hh,hq,rfl⟩,aR hS⟩
 refine⟨λvs w=>∃i:Nat,vs=[Γ i]/\i<=t.ops.length/\(∀j (hj:j<t.ops.length),j<i->t.ops[j].table<(k.ts.length:Int))/\SL W (.pt kp (pf gp dp lp pp k.aw rv) 167::.ob (ig gp k.ts)::.pt xb [Γ t.aw,x.ov,x.nv] 236::.mem H::F2) w,
  λvs _=>match vs with|[.int _ i]=>(t.ops.length-i).toNat|_=>0,⟨0,rfl,by omega,λj hj h=>by omega,hS⟩,?_⟩
 clear hS;rintro XN w ⟨i,dq,bn,dh,hS⟩;cases dq;refine bj (λh=>?_) (λh=>?_)
 ·have bn:i<t.ops.length:=by omega
  refine zB hS Xh wx hx.ops (x:=t.ops[i]) (by simp[bn]) bn ?_;refine Gm λb w hS=>?_;refine Cg (qK gp k.ts) λw hS=>?_;refine za (λh2=>?_) (λh2=>?_)
  ·refine gg (a_.le_refl H) ?_ (aR hS);rw[bfo bn h2];exact⟨_,rfl⟩
  refine Gp ?_;refine⟨⟨i+1,rfl,by omega,λj hj gZ=>?_,aR hS⟩,by dsimp only;omega⟩;by_cases e:j=i
  ·subst e;omega
  exact dh j hj (by omega)
 have s4:=bAm (n:=k.ts.length) (t:=t) λj hj=>dh j hj (by omega);clear dh;refine Gp ?_;refine zn hx.g_ ?_;have tV:∀{o},fE k.reqs t.notes=o->du t=true->fj k.ts.length k.reqs t=o:=λh hm=>by unfold fj;rw[zzc ⟨hm,s4⟩,h]
 have ET:fE k.reqs t.notes=none->fj k.ts.length k.reqs t=none:=λh=>by unfold fj;split;exact h;rfl
 refine⟨λvs w=>∃(i:Nat) (L:List Rq) (u:Ε) (H2:a_),vs=[u,Γ i]/\i<=t.notes.length/\L.length<=64/\fE k.reqs t.notes=fE L (t.notes.drop i)/\H.le H2/\iz H2 u L/\SL W (.pt kp (pf gp dp lp pp k.aw rv) 167::.ob (ig gp k.ts)::.pt xb [Γ t.aw,x.ov,x.nv] 236::.mem H2::F2) w,
  λvs _=>match vs with|[_,.int _ i]=>(t.notes.length-i).toNat|_=>0,⟨0,k.reqs,rv,H,rfl,by omega,mq,rfl,a_.le_refl H,hr,aR hS⟩,?_⟩
 clear hS;rintro u v35 w ⟨i,L,_,H2,dq,bn,hL,dX,dW,hu,hS⟩;cases dq;have nK:=hx.mono dW;refine bj (λh=>?_) (λh=>?_)
 ·have bn:i<t.notes.length:=by omega
  rw[bqx bn]at dX
  refine zB hS Xh wu nK.g_ (x:=t.notes[i]) (by simp[bn]) bn ?_;have hid:=hi.ids _ (zzk bn);generalize t.notes[i]=n at *
  refine Gm λb w hS=>?_;refine Cc (QA H2 u L n hu hL hid) ?_;clear hS;rintro u post ⟨H3,dG,hq,rfl⟩ w hS;cases hc:nO L n with
  | none=>
   rw[hc]at hq dX
   obtain⟨x,rfl⟩:=hq;(try simp only[app]at hS);refine Gp ?_
   refine zu ?_;refine gg (a_.le_trans dW dG) ?_ (aR hS);rw[ET dX];exact⟨_,rfl⟩
  | some L'=>
   have tY:=VS hc;rw[hc]at hq dX
   obtain⟨x,rfl,kH⟩:=hq;(try simp only[app]at hS);refine Gp ?_
   refine zq ?_;refine Gp ?_;exact⟨⟨i+1,L',x,H3,rfl,by omega,tY,dX,a_.le_trans dW dG,kH,aR hS⟩,by dsimp only;omega⟩
 have gh:i=t.notes.length:=by omega
 subst gh;rw[vvw]at dX
 refine zz hS Xh rfl ?_;have e:([Γ t.aw,x.ov,x.nv]:Ξ)=dD x:=by unfold dD;rw[hx.aw]
 rw[e];refine Cg (zW H2 x t nK) λw hS=>?_;refine gg dW ?_ (aR hS);cases hm:du t with
 | true=>rw[tV dX hm];exact⟨_,rfl,hu⟩
 | false=>rw[show fj k.ts.length k.reqs t=none by unfold fj;rw[hm];rfl];exact⟨_,rfl⟩
def qy(kp gp dp lp pp:Nat)(H:a_)(k:bO)(x:gO)(t:bB)(L:List Rq)(lv:Ε)(hx:gn H x t)(hl:iz H lv L)(hn:t.ops.length<=1000000)(hk:∀o∈t.ops,kJ o.key):
  SP 165 [gW kp,agg (dD x),lv] [.ob (b5 kp gp dp lp pp H k),.mem H] (bA (.tuple #[]) [.ob (b5 kp gp dp lp pp H (k.x' t L)),.mem H]):=by
 refine Enzz λW F w hS=>?_;apply bD1;delta bh aW bS bg;refine zx hS λxb w hS=>?_;obtain⟨rv,hr,hS⟩:=b5.open (k:=k) hS Xr;unfold dD at hS;rw[hx.aw]at hS
 have h1:=cn.one hl;refine Gn λw hS=>?_;refine Cg (bgj H gp k.ts x.ov t.ops hx.ops hn hk) λw hS=>?_;have hS:SL W (.ob (b5 kp gp dp lp pp H (k.x' t L))::_) _:=b5.dI hS hl Xp;exact bw hS
structure BF(g:bV)(d:DS)(f n:Int)(es:List Φ)(p:Φ):Prop where
 off:d.off=false
 cC:nU d f n es p false
 m2:∀a,a≠1->0<=a->∃g2 d2,cw g {d with arm:=a}=((g2,d2),0)/\fJ g2 d2 f n es/\0<=d2.arm/\(a=0->d2.arm=0)/\d2.ops=d.ops+1/\g2.bf=g.bf/\g2.base=g.base/\g2.size=g.size
 m1:∃d2,cw g {d with arm:=1}=((g,d2),8)/\d2.R=d.R/\d2.off=true/\d2.ops=d.ops+1
def bBa{g:bV}{d:DS}{f n:Int}{es:List Φ}(h:fJ g d f n es){p:Φ}(hp:p.length<=1048576)(hn:n+es.length<=100000)(ha:0<=d.arm){k:Int}(hk:0<=k):
  (∃d',fA g d p k=((g,d'),8)/\nU d' f n es p false/\d'.off=true/\d'.ops=d.ops+1/\d.arm=1) \/
  (∃g' d',fA g d p k=((g',d'),0)/\BF g' d' f n es p/\0<=d'.arm/\(d.arm=0->d'.arm=0)/\d'.ops=d.ops+1/\g'.bf=g.bf/\g'.base=g.base/\g'.size=g.size):=by
 obtain⟨x,A,l0,pre,dm,hr⟩:=FU h hp hn;have jF:=h.off;have hm:cw g d=((g,d),0):=by unfold cw;rw[h.cC]
 obtain⟨lP,f0,f1⟩:=hr.may h jF
 let t:=x.b.take (k.toNat % x.b.length)
 let d1:DS:={d.bG with R:=jM d.R x.file t}
 have b9:k.toNat % x.b.length<x.b.length:=vvc _ hr.pos;have hT:nU d1 f n es p false:=hr.cC hp (m:=k.toNat % x.b.length) (by omega) (λ_=>b9) (by rw[<- h.files]);by_cases h1:d.arm=1
 ·grind [DS.bG,DS.err,fA,append_eq]
 right;have e:d.bG.off=false:=by simp[DS.bG,h1]
 have e2:d.bG.err=0:=by unfold DS.err;rw[e];rfl
 have vf:=hr.app t;rw[<- h.files]at vf
 have oq:oJ f (A.map dy++[⟨x.file,pre.length,pre++t⟩]):=hr.chain.sG.snoc (by rw[zzv];exact hr.file);have jt:d1.R=A.map dy++[⟨x.file,pre.length,pre++t⟩]:=vf;have tU:∀a,DS.find {d1 with arm:=a} x.file=0:=λa=>by
  unfold DS.find;rw[zzb (by rw[(hr.may h (d':={d1 with arm:=a}) e).1];simp)];have hs:=oq.sorted
  grind [Fv]
 have rO:0<=d1.arm:=by show 0<=if 0<d.arm then d.arm-1 else d.arm;split<;>omega
 have Cq:∀a,(DS.bG {d1 with arm:=a}).off=decide (a=1):=λa=>rfl;refine⟨{g with cC:=some ⟨x.file,if x.fresh=true then 0 else lT g.bf,x.fresh⟩},d1,?_,⟨e,hT,λa lM sS=>?_,?_⟩,rO,λh0=>by simp[DS.bG,d1,h0],by simp[DS.bG,d1],rfl,rfl,rfl⟩
 ·grind [bA1,append_eq]
 ·have Cp:(DS.bG {d1 with arm:=a}).off=false:=by rw[Cq];exact zzx lM
  have Ck:0<=(DS.bG {d1 with arm:=a}).arm/\(a=0->(DS.bG {d1 with arm:=a}).arm=0):=by
   show (0<=if 0<a then a-1 else a)/\(a=0->(if 0<a then a-1 else a)=0);split<;>omega
  unfold cw;simp only;cases tV:x.fresh with
  | true=>
   obtain⟨hA,pU⟩:=hr.fresh tV;have CR:DS.remove {d1 with arm:=a} x.file=({DS.bG {d1 with arm:=a} with R:=A.map dy},0):=by
    unfold DS.remove;rw[zzb (by simp[tU]),zzb (by simp[Cp])];have:jb PF.id d1.R x.file=A.map dy:=by rw[jt,R0 (x:=⟨x.file,pre.length,pre++t⟩) oq.sorted]
    grind
   simp only[ww0,CR];refine⟨_,_,rfl,⟨h.chain,h.fG,by show A.map dy=_;rw[hA],h.nil,h.base,h.b0,h.b1,h.s0,h.s1,h.n1,h.fi,Cp,rfl⟩,Ck.1,Ck.2,by simp[DS.bG],rfl,rfl,rfl⟩
  | false=>
   obtain⟨hA,fw⟩:=hr.mZ tV;have hlen:gi d1.R x.file=(pre++t).length:=by
    unfold gi;rw[jt,Cd (x:=⟨x.file,pre.length,pre++t⟩) oq.sorted]
   have Ir:DS.cut {d1 with arm:=a} x.file (pre.length:Nat)=({DS.bG {d1 with arm:=a} with R:=g.bf.map dy},0):=by
    unfold DS.cut;rw[zzb (by simp[tU]),zzb (by show ¬((pre.length:Int)<0\/gi d1.R x.file<pre.length);rw[hlen,zza];omega),zzb (by simp[Cp])];have:jz d1.R x.file (iB pre.length)=g.bf.map dy:=by
     rw[jt,Kz (x:=⟨x.file,pre.length,pre++t⟩) oq.sorted,hA]
     grind [iB]
    grind
   simp only[xxx,wwt,fw,Ir,ww0];refine⟨_,_,rfl,⟨h.chain,h.fG,rfl,h.nil,h.base,h.b0,h.b1,h.s0,h.s1,h.n1,h.fi,Cp,rfl⟩,Ck.1,Ck.2,by simp[DS.bG],rfl,rfl,rfl⟩
 have Cp:(DS.bG {d1 with arm:=1}).off=true:=rfl;unfold cw;simp only;cases tV:x.fresh with
 | true=>
  grind [DS.remove,DS.bG]
 | false=>
  obtain⟨hA,fw⟩:=hr.mZ tV;have hlen:gi d1.R x.file=(pre++t).length:=by
   unfold gi;rw[jt,Cd (x:=⟨x.file,pre.length,pre++t⟩) oq.sorted]
  grind [DS.cut,DS.bG]
def bBc{g g1:bV}{d d1:DS}{p:Φ}{k:Int}(hk:0<=k)(hm:cw g d=((g1,d1),0))(hs:g1.bf=g.bf)(hb:g1.base=g.base)(hz:g1.size=g.size)(ho:d.off=false)(CJ:d1.off=false)(ht:g1.cC=none):fA g d p k=fA g1 d1 p k\/∃e,dE g1 false p= .error e:=by
 cases hx:dE g1 false p with
 | error e=>exact .inr ⟨e,rfl⟩
 | ok x=>
  left;have hp:dE g false p=dE g1 false p:=by
   grind [dE,mi]
  grind [cw,fA]
def bBb{g:bV}{d d2:DS}{p:Φ}{k:Int}(hk:0<=k){x:gq}(hx:dE g d.off p= .ok x)(hm:cw g d=((g,d2),8)):fA g d p k=((g,d2),8):=by
 grind [fA]
def aIs{g:bV}{d d2:DS}{p:Φ}{x:gq}(hx:dE g d.off p= .ok x)(hm:cw g d=((g,d2),8)):d_ g d p=((g,d2),(0,8)):=by
 grind [d_]
def FR{g g1:bV}(hs:g1.bf=g.bf)(hb:g1.base=g.base)(hz:g1.size=g.size)(off:Bool)(p:Φ):dE g off p=dE g1 off p:=by
 grind [dE,mi]
def St(g:bV)(d:DS)(es:List Φ)(m:Option Φ):Prop:=
 (fJ g d 8192 1 es/\g.base=8192)\/((∃p,BF g d 8192 1 es p)/\g.base=8192)\/(d.off=true/\∃q w,nU d 8192 1 es q w/\(w=true->m=some q))
def St.append{g:bV}{d:DS}{es:List Φ}{m:Option Φ}(h:St g d es m)(ha:0<=d.arm)(ho:d.off=false){p:Φ}(hp:p.length<=1048576)(hl:es.length<=1000):
  (∃g' d',d_ g d p=((g',d'),((1+es.length:Int),0))/\fJ g' d' 8192 1 (es++[p])/\g'.base=8192/\d'.ops<=d.ops+3/\(d.arm=0->d'.arm=0)) \/
  (∃g' d',d_ g d p=((g',d'),(0,8))/\St g' d' es (some p)/\d'.off=true/\d'.ops<=d.ops+3/\d.arm≠0):=by
 have bjn:∀{g:bV} {d:DS},fJ g d 8192 1 es->g.base=8192->0<=d.arm->(∃g' d',d_ g d p=((g',d'),((1+es.length:Int),0))/\fJ g' d' 8192 1 (es++[p])/\g'.base=8192/\d'.ops<=d.ops+2/\(d.arm=0->d'.arm=0)) \/
   (∃g' d',d_ g d p=((g',d'),(0,8))/\St g' d' es (some p)/\d'.off=true/\d'.ops<=d.ops+2/\d.arm≠0):=by
  intro g d h1 h2 ha;rcases aIr h1 hp (by omega) (by rw[h2];omega) ha with ⟨g',d',e,k1,k2,k3,k4,k5,_⟩|⟨d',e,k1,k2,k3,k4⟩
  ·grind
  exact .inr ⟨g,d',e,.inr (.inr ⟨k2,p,true,k1,λ_=>rfl⟩),k2,k3,k4⟩
 rcases h with ⟨h1,h2⟩|⟨⟨q,h1⟩,h2⟩|⟨h1,_⟩
 ·grind
 ·obtain⟨g0,d0,m0,l0,_,_,_,s0,b0,z0⟩:=h1.m2 0 (by decide) (by decide);obtain⟨x,_,_,_,dm,_⟩:=FU l0 hp (by omega);rw[<- FR s0 b0 z0]at dm
  by_cases lM:d.arm=1
  ·obtain⟨d2,e,r1,r2,r3⟩:=h1.m1;have e:cw g d=((g,d2),8):=by rw[<- e,<- lM]
   exact .inr ⟨g,d2,aIs (by rw[ho];exact dm) e,.inr (.inr ⟨r2,q,false,h1.cC.sw r1,λh=>by cases h⟩),r2,by omega,by omega⟩
  obtain⟨g2,d2,e,l2,a2,a3,o2,s2,b2,z2⟩:=h1.m2 d.arm lM ha;have e:cw g d=((g2,d2),0):=e;have Ub:dE g2 false p= .ok x:=by rw[<- FR s2 b2 z2];exact dm
  rw[aIt e s2 b2 z2 ho l2.off l2.cC Ub]
  grind
 grind
def St.bAy{g:bV}{d:DS}{es:List Φ}{m:Option Φ}(h:St g d es m)(ha:0<=d.arm)(ho:d.off=false){p:Φ}(hp:p.length<=1048576)(hl:es.length<=1000){k:Int}(hk:0<=k):
  ∃g' d' e,fA g d p k=((g',d'),e)/\St g' d' es none/\d'.ops<=d.ops+2/\((e=0/\d'.off=false/\(d.arm=0->d'.arm=0))\/(e=8/\d'.off=true/\d.arm≠0)):=by
 have bjn:∀{g:bV} {d:DS},fJ g d 8192 1 es->g.base=8192->0<=d.arm->∃g' d' e,fA g d p k=((g',d'),e)/\St g' d' es none/\d'.ops<=d.ops+1/\((e=0/\d'.off=false/\(d.arm=0->d'.arm=0))\/(e=8/\d'.off=true/\d.arm≠0)):=by
  intro g d h1 h2 ha;rcases bBa h1 hp (by omega) ha hk with ⟨d',e,k1,k2,k3,k4⟩|⟨g',d',e,k1,k2,k3,k4,k5,k6,k7⟩
  ·exact⟨g,d',8,e,.inr (.inr ⟨k2,p,false,k1,λh=>by cases h⟩),by omega,.inr ⟨rfl,k2,by omega⟩⟩
  exact⟨g',d',0,e,.inr (.inl ⟨⟨p,k1⟩,by rw[k6,h2]⟩),by omega,.inl ⟨rfl,k1.off,k3⟩⟩
 rcases h with ⟨h1,h2⟩|⟨⟨q,h1⟩,h2⟩|⟨h1,_⟩
 ·grind
 ·obtain⟨g0,d0,m0,l0,_,_,_,s0,b0,z0⟩:=h1.m2 0 (by decide) (by decide);obtain⟨x,_,_,_,dm,_⟩:=FU l0 hp (by omega);rw[<- FR s0 b0 z0]at dm
  by_cases lM:d.arm=1
  ·obtain⟨d2,e,r1,r2,r3⟩:=h1.m1;have e:cw g d=((g,d2),8):=by rw[<- e,<- lM]
   exact⟨g,d2,8,bBb hk (by rw[ho];exact dm) e,.inr (.inr ⟨r2,q,false,h1.cC.sw r1,λh=>by cases h⟩),by omega,.inr ⟨rfl,r2,by omega⟩⟩
  obtain⟨g2,d2,e,l2,a2,a3,o2,s2,b2,z2⟩:=h1.m2 d.arm lM ha;have e:cw g d=((g2,d2),0):=e;have Ub:dE g2 false p= .ok x:=by rw[<- FR s2 b2 z2];exact dm
  rcases bBc (p:=p) (k:=k) hk e s2 b2 z2 ho l2.off l2.cC with h3|⟨e',h3⟩
  ·grind
  grind
 grind
def St.open{g:bV}{d:DS}{es:List Φ}{m:Option Φ}(h:St g d es m)(keep:Ω)(hl:es.length<=1000){size:Int}(s0:64<=size)(s1:size<=65536):
  ∃g2 d2 iS,dN (d.dB keep) 8192 size=(d2,.ok g2)/\fJ g2 d2 8192 1 iS/\g2.base=8192/\d2.arm=0/\d2.ops<=d.ops+1/\(iS=es\/∃p,m=some p/\iS=es++[p]):=by
 have bkm:∀{q w},nU d 8192 1 es q w->∃g2 d2 iS,dN (d.dB keep) 8192 size=(d2,.ok g2)/\fJ g2 d2 8192 1 iS/\g2.base=8192/\d2.arm=0/\d2.ops<=d.ops+1/\(iS=es\/(w=true/\iS=es++[q])):=by
  intro q w hT;obtain⟨g2,d2,iS,h1,h2,h3,h4,h5,h6,h7⟩:=bBi hT keep (base:=8192) (size:=size) (by decide) (by decide) s0 s1 (by decide) (by omega) (by decide) (by omega) ⟨rfl,rfl⟩
  grind
 rcases h with ⟨h1,h2⟩|⟨⟨q,h1⟩,h2⟩|⟨h1,q,w,h2,h3⟩
 ·have hR:(d.dB keep).R=g.bf.map dy:=by show dU d.R keep=_;rw[h1.files,RI]
  have hle:=h1.chain.sa;rw[h1.fG]at hle
  have:=JW (d:=d.dB keep) (base:=8192) (size:=size) h1.chain hR rfl (by decide) (by decide) s0 s1 (by decide) (by omega) (by decide) (by rw[h1.fG];omega);exact⟨_,_,es,this,⟨h1.chain,h1.fG,hR,λ_=>⟨rfl,rfl⟩,yyj _,(by decide:(0:Int)<=8192),(by decide:(8192:Int)<=12288),s0,s1,by decide,by show (8192:Int)+es.length+2<=8192+4096;omega,rfl,rfl⟩,rfl,rfl,Nat.le_succ _,.inl rfl⟩
 ·obtain⟨g2,d2,iS,k1,k2,k3,k4,k5,k6⟩:=bkm h1.cC
  grind
 grind
def fJ.st{g:bV}{d:DS}{es:List Φ}(h:fJ g d 8192 1 es)(hb:g.base=8192)(m:Option Φ):St g d es m:=.inl ⟨h,hb⟩
def hY.head{L:List b6}(h:hY L)(hL:L≠[]):bH L=dH L+(bR L).length-1:=by
 induction L with
 | nil=>exact absurd rfl hL
 | cons s r ih=>
  cases r with
  | nil=>simp[bH,dH,bR,b6.next]
  | cons t r=>
   have h1:=ih h.2 (by simp);have h2:bH (s::t::r)=bH (t::r):=by simp only[bH,List.getLast?_cons_cons]
   have h3:=h.1
   grind [pH,b6.next,dH]
def hY.read:∀{L:List b6},hY L->∀i:Nat,lY L (dH L+i)=(bR L)[i]?
 | [],_,i=>by simp[lY,bR]
 | [s],_,i=>by
  have e:dH [s]=s.first:=rfl;rw[e,lY,pH];have he:bR []=([]:List Φ):=rfl;rw[he,zz3];by_cases h:i<s.l.length
  ·rw[zzc ⟨by omega,by show s.first+i<s.first+s.l.length;omega⟩];congr 1;omega
  rw[zzb (by rintro ⟨_,h2⟩;have h2:s.first+i<s.first+s.l.length:=h2;omega),yyt (by omega)];rfl
 | s::t::r,h,i=>by
  have e:dH (s::t::r)=s.first:=rfl;have e2:dH (t::r)=t.first:=rfl;have h1:=h.1;simp only[b6.next]at h1;rw[e,lY,pH];by_cases hi:i<s.l.length
  ·rw[zzc ⟨by omega,by show s.first+i<s.first+s.l.length;omega⟩,zzy hi];congr 1;omega
  rw[zzb (by rintro ⟨_,h2⟩;have h2:s.first+i<s.first+s.l.length:=h2;omega),yyk (by omega)];have:=hY.read h.2 (i-s.l.length)
  grind
def runT(bL:Nat):List bB->Tr->Option Tr
 | [],t=>some t
 | x::r,t=>match stepT bL t x with
  | some t'=>runT bL r t'
  | none=>none
def Dr(bL:Nat):∀(xs:List bB) (x:bB) (t t1:Tr),runT bL xs t=some t1->runT bL (xs++[x]) t=stepT bL t1 x
 | [],x,t,t1,h=>by
  cases h;show (match stepT bL t x with|some t'=>runT bL [] t'|none=>none)=_;cases stepT bL t x<;>rfl
 | y::xs,x,t,t1,h=>by
  have h:(match stepT bL t y with|some t'=>runT bL xs t'|none=>none)=some t1:=h;show (match stepT bL t y with|some t'=>runT bL (xs++[x]) t'|none=>none)=_;cases hs:stepT bL t y with
  | none=>rw[hs]at h;cases h
  | some t'=>rw[hs]at h;exact Dr bL xs x t' t1 h
def Ri{x:bB}(h:du x=true):mO (fr x)= .ok x:=by
 grind [RV,fr]
def BP{x:bB}(h:du x=true):(fr x).length<=29+x.ops.length*71+x.notes.length*63/\(fr x).length<=306973:=by
 obtain⟨b,e1,_⟩:=RV h;have:=bdf h e1;obtain⟨h0,_⟩:=nN.1 h
 grind [fr]
def WA(bL:Nat):∀(xs:List bB) (t:Tr),(∀x∈xs,du x=true)->tf bL (xs.map fr) t=runT bL xs t
 | [],_,_=>rfl
 | x::xs,t,h=>by
  rw[zzp,tf,Ri (h x (.head _))];show _=(match stepT bL t x with|some t'=>runT bL xs t'|none=>none);simp only;cases stepT bL t x with
  | none=>rfl
  | some t'=>exact WA bL xs t' λy hy=>h y (.tail _ hy)
structure ij(bL:Nat)(k:bO)(xs:List bB)(m:Option bB):Prop where
 st:St k.g k.d (xs.map fr) (m.map fr)
 may:∀x∈xs,du x=true
 run:runT bL xs (re bL)=some k.tr
 len:k.ts.length=bL
 KM:∀x,m=some x->du x=true/\∃t,stepT bL k.tr x=some t
def ij.plan{bL:Nat}{k:bO}{xs:List bB}{m:Option bB}(h:ij bL k xs m)(p:List eK):ij bL {k with plan:=p} xs m:=⟨h.st,h.may,h.run,h.len,h.KM⟩
def Kq{bL:Nat}{t:Tr}{x:bB}{L:List Rq}(hf:fj bL t.2.1 x=some L)(hl:t.2.2<x.aw):stepT bL t x=some ((ep t.1 x.ops).1,L,x.aw):=by
 grind [stepT]
def B_{n:Nat}{L L':List Rq}{x:bB}(h:fj n L x=some L'):du x=true/\sr n x=true/\fE L x.notes=some L':=by
 grind [fj]
def bKn{bL:Nat}{k:bO}{xs:List bB}{m:Option bB}(h:ij bL k xs m)(ha:0<=k.d.arm)(ho:k.d.off=false)(hl:xs.length<=900){x:bB}{L:List Rq}(hf:fj bL k.reqs x=some L)(b9:k.aw<x.aw):
  ((k.ga x L).2=0/\ij bL (k.ga x L).1 (xs++[x]) none/\(k.ga x L).1.tr=((ep k.ts x.ops).1,L,x.aw)/\(k.ga x L).1.plan=k.plan/\(k.ga x L).1.d.off=false/\(k.d.arm=0->(k.ga x L).1.d.arm=0)/\(k.ga x L).1.d.ops<=k.d.ops+3) \/
  ((k.ga x L).2=8/\ij bL (k.ga x L).1 xs (some x)/\(k.ga x L).1.tr=k.tr/\(k.ga x L).1.plan=k.plan/\(k.ga x L).1.d.off=true/\k.d.arm≠0/\(k.ga x L).1.d.ops<=k.d.ops+3):=by
 obtain⟨hm,ht,hn⟩:=B_ hf;have hb:=(BP hm).2;have hs:stepT bL k.tr x=some ((ep k.ts x.ops).1,L,x.aw):=Kq (t:=k.tr) hf b9;rcases h.st.append ha ho (p:=fr x) (by omega) (by rw[zzv];omega) with ⟨g',d',e,k1,k2,k3,k4⟩|⟨g',d',e,k1,k2,k3,k4⟩
 ·left;have hw:k.ga x L=(bO.x' {k with g:=g',d:=d'} x L,0):=by
   grind [bO.ga]
  rw[hw];refine⟨rfl,⟨?_,?_,?_,?_,λy hy=>by cases hy⟩,rfl,rfl,k1.off,k4,k3⟩
  ·rw[zzr];exact k1.st k2 _
  ·intro y hy;rcases zz4.1 hy with hy|hy
   ·exact h.may y hy
   grind
  ·rw[Dr bL xs x _ _ h.run,hs];rfl
  show (ep k.ts x.ops).1.length=bL;rw[J8,h.len]
 right;have hw:k.ga x L=({k with g:=g',d:=d'},8):=by
  grind [bO.ga]
 rw[hw];exact⟨rfl,⟨k1,h.may,h.run,h.len,λy hy=>by cases hy;exact⟨hm,_,hs⟩⟩,rfl,rfl,k2,k4,k3⟩
def bA7{bL:Nat}{k:bO}{xs:List bB}{m:Option bB}(h:ij bL k xs m)(ha:0<=k.d.arm)(ho:k.d.off=false)(hl:xs.length<=900){x:bB}(hm:du x=true){n:Int}(hn:0<=n):
  ij bL (k.jI x n).1 xs none/\(k.jI x n).1.tr=k.tr/\(k.jI x n).1.plan=k.plan/\(k.jI x n).1.d.ops<=k.d.ops+2 /\
   (((k.jI x n).2=0/\(k.jI x n).1.d.off=false/\(k.d.arm=0->(k.jI x n).1.d.arm=0))\/((k.jI x n).2=8/\(k.jI x n).1.d.off=true/\k.d.arm≠0)):=by
 have hb:=(BP hm).2;obtain⟨g',d',e,h1,h2,h3,h4⟩:=h.st.bAy ha ho (p:=fr x) (by omega) (by rw[zzv];omega) hn;have hw:k.jI x n=({k with g:=g',d:=d'},e):=by unfold bO.jI;simp only[h1]
 rw[hw];exact⟨⟨h2,h.may,h.run,h.len,λy hy=>by cases hy⟩,rfl,rfl,h3,h4⟩
def ij.open{bL:Nat}(t1:1<=bL)(t8:bL<=8){k:bO}{xs:List bB}{m:Option bB}(h:ij bL k xs m)(keep:Ω)(hl:xs.length<=900){size:Int}(s0:64<=size)(s1:size<=65536):
  ∃k' bZ,jH (k.d.dB keep) bL size=(k'.d,.ok k')/\ij bL k' bZ none/\k'.plan=[]/\k'.d.off=false/\k'.d.arm=0/\k'.d.ops<=k.d.ops+1/\fJ k'.g k'.d 8192 1 (bZ.map fr)/\(bZ=xs\/∃x,m=some x/\bZ=xs++[x]):=by
 obtain⟨g2,d2,iS,e,l2,b2,a2,o2,Iu⟩:=h.st.open keep (by rw[zzv];omega) s0 s1;have hx:∃bZ,iS=bZ.map fr/\(∀x∈bZ,du x=true)/\(∃t,runT bL bZ (re bL)=some t/\t.1.length=bL)/\(bZ=xs\/∃x,m=some x/\bZ=xs++[x]):=by
  rcases Iu with rfl|⟨p,hp,rfl⟩
  ·exact⟨xs,rfl,h.may,⟨_,h.run,h.len⟩,.inl rfl⟩
  cases m with
  | none=>cases hp
  | some x=>
   have hp:some (fr x)=some p:=hp;cases hp;obtain⟨w1,t,w2⟩:=h.KM x rfl;refine⟨xs++[x],by simp,λy hy=>?_,⟨t,by rw[Dr bL xs x _ _ h.run,w2],?_⟩,.inr ⟨x,rfl,rfl⟩⟩
   ·rcases zz4.1 hy with hy|hy
    ·exact h.may y hy
    grind
   unfold stepT at w2;split at w2
   ·split at w2
    ·cases w2;show (ep k.ts x.ops).1.length=bL;rw[J8,h.len]
    cases w2
   cases w2
 obtain⟨bZ,rfl,lP,⟨t,w8,lu⟩,hor⟩:=hx;refine⟨⟨g2,d2,t.1,[],t.2.2,t.2.1⟩,bZ,?_,⟨l2.st b2 _,lP,w8,lu,λy hy=>by cases hy⟩,rfl,l2.off,a2,o2,l2,hor⟩;unfold jH;rw[zzb (by omega)];simp only[e];have pS:dH g2.bf=1:=by
  by_cases hL:g2.bf=[]
  ·rw[hL];rfl
  rw[l2.chain.low hL]
 rw[zzb (λhh=>hh.1 pS),l2.fG,zzw,WA bL bZ _ lP,w8]
def ku:List eK->eK × List eK
 | []=>(⟨0,0⟩,[])
 | f::r=>(f,r)
def Qw(p:Nat)(L:List eK)(hL:L.length<=1024):SP 294 [gW p] [.ob (gG p L)] (λv post=>∃q,v= .tuple #[agg (eY (ku L).1),.bool q]/\post=[.ob (gG p (ku L).2)]):=by
 cases L with
 | nil=>exact (bfv p).mono λv post h=>⟨false,h.1,h.2⟩
 | cons f r=>exact (bfu p f r (by rw[zzi]at hL;omega)).mono λv post h=>⟨true,h.1,h.2⟩
def bO.tu(k:bO)(x:bB):bO × Int:=
 let r:=d_ k.g k.d (fr x)
 ({k with g:=r.1.1,d:=r.1.2},r.2.2)
def Gk(k:bO)(x:bB)(L:List Rq):k.ga x L=if (k.tu x).2=0 then ((k.tu x).1.x' x L,0) else k.tu x:=by
 unfold bO.ga bO.tu;simp only
def bO.kC(k:bO)(x:bB)(f:eK):bO × Int:=if f.kind=2 then k.jI x f.keep else if k.aw<x.aw then k.tu x else (k,0)
def bO.rH(k:bO)(x:bB)(f:eK)(L:List Rq):bO × Int:=
 if (k.kC x f).2≠0 then k.kC x f else ((if k.aw<x.aw/\f.kind≠2 then (k.kC x f).1.x' x L else (k.kC x f).1),if f.kind≠0 then 9 else 0)
def bq4{L:List eK}(h:∀f∈L,fI f=true):((ku L).1.kind=0/\L=[])\/(L≠[]/\((ku L).1.kind=1\/(ku L).1.kind=2\/(ku L).1.kind=3)):=by
 cases L with
 | nil=>exact .inl ⟨rfl,rfl⟩
 | cons f r=>
  have h1:=h f (.head _);unfold fI at h1;rw[zz1]at h1
  right;refine⟨by simp,?_⟩;show f.kind=1\/f.kind=2\/f.kind=3;omega
def bq3{L:List eK}(h:∀f∈L,fI f=true):0<=(ku L).1.keep:=by
 cases L with
 | nil=>exact yyj _
 | cons f r=>
  have h1:=h f (.head _);unfold fI at h1;rw[zz1]at h1
  show 0<=f.keep;omega
def aW7{k:bO}{x:bB}(h:du x=false\/(k.aw<x.aw/\fj k.ts.length k.reqs x=none)):k.eX x=(k,1):=zzc h
def a_b{k:bO}{x:bB}(h:¬(du x=false\/(k.aw<x.aw/\fj k.ts.length k.reqs x=none)))(ho:k.d.off=true):k.eX x=(k,8):=by
 unfold bO.eX;rw[zzb h,zzc ho]
def aW6{k:bO}{x:bB}(h:¬(du x=false\/(k.aw<x.aw/\fj k.ts.length k.reqs x=none)))(ho:k.d.off=false)(hf:(ku k.plan).1.kind=1\/((ku k.plan).1.kind=2/\¬k.aw<x.aw)):k.eX x=({k with plan:=(ku k.plan).2},9):=by
 unfold bO.eX;rw[zzb h,zzb (by rw[ho];decide)];cases hp:k.plan with
 | nil=>rw[hp]at hf;rcases hf with hf|⟨hf,_⟩<;>cases hf
 | cons f r=>
  rw[hp]at hf
  have hf:f.kind=1\/(f.kind=2/\¬k.aw<x.aw):=hf;simp only;rw[zzb (by omega),zzb (by omega)];rfl
def aW8{k:bO}{x:bB}(h:¬(du x=false\/(k.aw<x.aw/\fj k.ts.length k.reqs x=none)))(ho:k.d.off=false)(hm:∀f∈k.plan,fI f=true)(hf:¬((ku k.plan).1.kind=1\/((ku k.plan).1.kind=2/\¬k.aw<x.aw))):
  k.eX x=bO.rH {k with plan:=(ku k.plan).2} x (ku k.plan).1 ((fj k.ts.length k.reqs x).getD []):=by
 have hn:=bq4 hm;unfold bO.eX;rw[zzb h,zzb (by rw[ho];decide)];generalize (fj k.ts.length k.reqs x).getD []=L;cases hp:k.plan with
 | nil=>
  rw[hp]at hn hf
  have e:({k with plan:=(ku []).2}:bO)=k:=by rw[<- hp];cases k;simp only at hp;subst hp;rfl
  rw[e];show (if k.aw<x.aw then k.ga x L else (k,0))=_;by_cases hl:k.aw<x.aw
  ·by_cases h0:(k.tu x).2=0
   ·simp[bO.rH,bO.kC,Gk,ku,hl,h0]
   simp[bO.rH,bO.kC,Gk,ku,hl,h0]
  simp[bO.rH,bO.kC,ku,hl]
 | cons f r=>
  rw[hp]at hn hf
  have hf:¬(f.kind=1\/(f.kind=2/\¬k.aw<x.aw)):=hf;have hn:f.kind=2\/f.kind=3:=by
   rcases hn with ⟨_,h⟩|⟨_,h⟩
   ·cases h
   have h:f.kind=1\/f.kind=2\/f.kind=3:=h;omega
  show _=bO.rH {k with plan:=r} x f L;generalize o9:({k with plan:=r}:bO)=k';have tY:k'.aw=k.aw:=by rw[<- o9]
  simp only;rw[o9];rcases hn with hn|hn
  ·have hl:k.aw<x.aw:=by
    rcases Int.lt_or_le k.aw x.aw with h|h
    ·exact h
    exact absurd (.inr ⟨hn,by omega⟩) hf
   by_cases h0:(k'.jI x f.keep).2=0
   ·simp[bO.rH,bO.kC,hn,hl,tY,h0]
   simp[bO.rH,bO.kC,hn,hl,h0]
  by_cases hl:k.aw<x.aw
  ·by_cases h0:(k'.tu x).2=0
   ·simp[bO.rH,bO.kC,Gk,hn,hl,tY,h0]
   simp[bO.rH,bO.kC,Gk,hn,hl,tY,h0]
  simp[bO.rH,bO.kC,hn,hl,tY]
abbrev xI(kp gp dp lp pp:Nat)(H:a_)(y:bO × Int)(v:Ε)(post:Β):Prop:=v= Γ y.2/\∃H',H.le H'/\post=[.ob (b5 kp gp dp lp pp H' y.1),.mem H']
def Rj{t:bB}(h:du t=true):tG t= .ok (fr t):=by
 have h1:=(HE h).1;unfold fr;rw[h1]
def YW(kp gp dp lp pp:Nat)(H:a_)(k:bO)(x:gO)(t:bB)(hx:gn H x t)(hi:Bu t)(wP:∀o∈t.ops,kJ o.key){N m:Nat}(hk:Bw k N m):
  SP 254 [gW kp,agg (dD x)] [.ob (b5 kp gp dp lp pp H k),.mem H] (xI kp gp dp lp pp H (k.eX t)):=by
 refine Enzz λW F w hS=>?_;apply bGf;delta aI bh aW bJ ai;refine zx hS λxb w hS=>?_;obtain⟨rv,hr,hS⟩:=b5.open (k:=k) hS Xr;have ex:dD x=[Γ t.aw,x.ov,x.nv]:=by unfold dD;rw[hx.aw]
 rw[ex]at hS
 refine Gn λw hS=>?_;have hS:=b5.put k hS hr Xp;rw[<- ex];rw[<- ex]at hS
 refine Cc (Zt kp gp dp lp pp H k x t hx hi hk.rq) ?_;clear hS;rintro u post ⟨H1,bX,hq,rfl⟩ w hS;have hu:∃y,u= .tuple #[y,.bool (fj k.ts.length k.reqs t).isSome]/\∀L,fj k.ts.length k.reqs t=some L->iz H1 y L:=by
  unfold xM at hq;cases hc:fj k.ts.length k.reqs t with
  | none=>rw[hc]at hq;obtain⟨y,rfl⟩:=hq;exact⟨y,rfl,λL h=>by cases h⟩
  | some L=>rw[hc]at hq;obtain⟨y,rfl,hy⟩:=hq;exact⟨y,rfl,λL' h=>by cases h;exact hy⟩
 obtain⟨y,rfl,hy⟩:=hu;clear hq;have lQ:=hx.mono bX;(try simp only[app]at hS);refine Gp ?_
 have gg:∀{w:Ζ} {H':a_} {z:bO} {e:Int},H.le H'->k.eX t=(z,e)->SL W (.ob (b5 kp gp dp lp pp H' z)::.mem H'::F) w->∃post,xI kp gp dp lp pp H (k.eX t) (Γ e) post/\SL W (app post F) w:=λhh he hS=>by rw[he];exact⟨_,⟨rfl,_,hh,rfl⟩,hS⟩
 refine⟨λus w=>∃q:Bool,us=[.bool q]/\(q=true↔(du t=false\/(k.aw<t.aw/\fj k.ts.length k.reqs t=none)))/\SL W (.ob (b5 kp gp dp lp pp H1 k)::.mem H1::.pt xb (dD x) 236::F) w,?_,?_⟩
 ·refine Gp ?_;refine Cg (zW H1 x t lQ) λw hS=>?_;refine zw (λhm=>?_) (λhm=>?_)
  ·exact⟨true,rfl,⟨λ_=>.inl hm,λ_=>rfl⟩,aR hS⟩
  refine za (λhl=>?_) (λhl=>?_)
  ·refine Gp ?_;refine⟨_,rfl,?_,aR hS⟩;rw[hm];cases fj k.ts.length k.reqs t with
   | none=>exact⟨λ_=>.inr ⟨hl,rfl⟩,λ_=>rfl⟩
   | some L=>exact⟨λh=>by (cases h),λh=>by rcases h with h|⟨_,h⟩<;>cases h⟩
  refine⟨false,rfl,⟨λh=>by (cases h),λh=>?_⟩,aR hS⟩;rcases h with h|h
  ·rw[hm]at h;cases h
  exact absurd h.1 hl
 clear hS;rintro v25 w ⟨q,bM,hq,hS⟩;cases bM;refine yJ (λhqt=>gg bX (aW7 (hq.1 hqt)) (aR hS)) (λUe=>?_);have CI:¬(du t=false\/(k.aw<t.aw/\fj k.ts.length k.reqs t=none)):=λh=>by rw[hq.2 h]at Ue;cases Ue
 have lP:du t=true:=by
  cases hb:du t with
  | true=>rfl
  | false=>exact absurd (.inl hb) CI
 obtain⟨rv,hr,hS⟩:=b5.open (k:=k) hS Xr;refine Gp ?_;refine Cg (zH dp k.d) λw hS=>?_;refine yJ (λho=>?_) (λho=>?_)
 ·have hS:=b5.put k hS hr Xp;exact gg bX (a_b CI ho) (aR hS)
 refine Gp ?_;refine Cc (Qw pp k.plan hk.pl) ?_;clear hS;rintro _ post ⟨nq,rfl,rfl⟩ w hS;try simp only[app]at hS
 have AE:=hk.lW;have hke:=bq3 AE;have Tp:=aW6 CI ho;have Tq:=aW8 CI ho AE;have Fa:(ku k.plan).2.length<=1024:=by
  have:=hk.pl;cases hp:k.plan with
  | nil=>exact zz6 _
  | cons f r=>rw[hp,zzi]at this;show r.length<=1024;omega
 generalize hf:(ku k.plan).1=f at *
 generalize (ku k.plan).2=pr at *
 refine Gp ?_;refine Gb λfb w hS=>?_;refine⟨λus w=>us=[]/\¬(f.kind=1\/(f.kind=2/\¬k.aw<t.aw))/\SL W (.pt kp (pf gp dp lp pp k.aw rv) 167::.ob (ig gp k.ts)::.ob (b7 lp dp k.g)::.ob (gG pp pr)::.ob (bm dp k.d)::.pt fb (eY f) 41::.mem H1::.pt xb (dD x) 236::F) w,?_,?_⟩
 ·have h9:∀{w:Ζ},f.kind=1\/(f.kind=2/\¬k.aw<t.aw)->SL W (.ob (bm dp k.d)::.ob (gG pp pr)::.pt kp (pf gp dp lp pp k.aw rv) 167::.ob (ig gp k.ts)::.ob (b7 lp dp k.g)::.mem H1::F) w->∃post,xI kp gp dp lp pp H (k.eX t) (Γ 9) post/\SL W (app post F) w:=λh hS=>by
   have hS:=b5.dI (H:=H1) (reqs:=k.reqs) hS hr Xp;exact gg bX (Tp h) hS
  refine Gp ?_;refine za (λh1=>h9 (.inl h1) (aR hS)) (λh1=>?_);refine Gp ?_;refine za (λh2=>?_) (λh2=>⟨rfl,by omega,aR hS⟩);refine Gp ?_;refine zw (λhl=>h9 (.inr ⟨h2,yyu hl⟩) (aR hS)) (λhl=>⟨rfl,λh=>?_,aR hS⟩);rcases h with h|⟨_,h⟩
  ·exact h1 h
  exact h (zzt hl)
 clear hS;rintro w ⟨-,hnf,hS⟩;have ka:=Tq hnf;clear Tp Tq;refine Gp ?_;refine Cc (YL H1 x t lQ) ?_;clear hS;rintro r post IU w hS;unfold Bo at IU;rw[Rj lP]at IU
 obtain⟨bv,rfl,rfl⟩:=IU;have o7:=(BP lP).2;(try simp only[app]at hS);refine Gp ?_
 generalize o9:({k with plan:=pr}:bO)=k' at ka;have wJ:k'.g=k.g/\k'.d=k.d/\k'.ts=k.ts/\k'.aw=k.aw/\k'.reqs=k.reqs/\k'.plan=pr:=by rw[<- o9];exact⟨rfl,rfl,rfl,rfl,rfl,rfl⟩
 obtain⟨g1,g2,g3,g4,g5,g6⟩:=wJ;have hW:(k'.kC t f).1.ts=k.ts/\(k'.kC t f).1.aw=k.aw/\(k'.kC t f).1.reqs=k.reqs/\(k'.kC t f).1.plan=pr:=by
  unfold bO.kC;split
  ·unfold bO.jI;exact⟨g3,g4,g5,g6⟩
  split
  ·unfold bO.tu;exact⟨g3,g4,g5,g6⟩
  exact⟨g3,g4,g5,g6⟩
 refine⟨λus w=>us=[Γ (k'.kC t f).2]/\SL W (.ob (b5 kp gp dp lp pp H1 (k'.kC t f).1)::.pt fb (eY f) 41::.mem H1::.pt xb (dD x) 236::F) w,?_,?_⟩
 ·have rR:=hk.g.ok;have Cs:=hk.d;have hle:=hk.le;have dY:=hk.ops;refine Gp ?_;refine Χ ?_;unfold bO.kC;refine bj (λh2=>?_) (λh2=>?_)
  ·rw[zzc h2];refine Gn λw hS=>?_;refine Cg (bA9 (.ob (bd bv 5 1 (fr t).length ((fr t).map bU))) lp dp k.g k.d bv (fr t) f.keep cK.own (by omega) rR (by omega) Cs (by omega) (by omega)) λw hS=>?_;unfold bO.jI;rw[g1,g2];have hS:=b5.dI (H:=H1) (reqs:=k.reqs) hS hr Xp;refine⟨rfl,?_⟩;rw[<- o9];exact aR hS
  rw[zzb h2,g4];refine za (λhl=>?_) (λhl=>?_)
  ·rw[zzc hl];refine Gp ?_;refine Cg (Zg (.ob (bd bv 5 1 (fr t).length ((fr t).map bU))) lp dp k.g k.d bv (fr t) cK.own (by omega) rR (by omega) Cs (by omega) (by omega)) λw hS=>?_;unfold bO.tu;simp only;rw[g1,g2];have hS:=b5.dI (H:=H1) (reqs:=k.reqs) hS hr Xp;refine⟨rfl,?_⟩;rw[<- o9];exact aR hS
  rw[zzb hl];have hS:=b5.dI (H:=H1) (reqs:=k.reqs) hS hr Xp;refine⟨rfl,?_⟩;rw[<- o9];exact aR hS
 clear hS;rintro v11 w ⟨bM,hS⟩;cases bM;unfold bO.rH at ka;obtain⟨w1,w2,w3,w4⟩:=hW;generalize k'.kC t f=z at *
 obtain⟨z,e⟩:=z;simp only at *
 refine bj (λhe=>?_) (λhe=>?_)
 ·rw[zzc he]at ka
  exact gg bX ka (aR hS)
 rw[zzb he,g4]at ka
 have e_:∀{w:Ζ} {z':bO},k.eX t=(z',if f.kind≠0 then 9 else 0)->SL W (.ob (b5 kp gp dp lp pp H1 z')::.pt fb (eY f) 41::.mem H1::F) w->cB (.bool (decide (f.kind≠0))) (∃post,xI kp gp dp lp pp H (k.eX t) (Γ 9) post/\SL W (app post F) w) (∃post,xI kp gp dp lp pp H (k.eX t) (Γ 0) post/\SL W (app post F) w):=λhc hS=>by
  refine za (λh0=>?_) (λh0=>?_)
  ·rw[zzc h0]at hc;exact gg bX hc (aR hS)
  rw[zzb h0]at hc;exact gg bX hc (aR hS)
 refine za (λhl=>?_) (λhl=>?_)
 ·refine bj (λh2=>?_) (λh2=>?_)
  ·rw[zzc ⟨hl,h2⟩]at ka
   obtain⟨L,hL⟩:∃L,fj k.ts.length k.reqs t=some L:=by
    cases hc:fj k.ts.length k.reqs t with
    | none=>exact absurd (.inr ⟨hl,hc⟩) CI
    | some L=>exact⟨L,rfl⟩
   rw[hL,xxq]at ka
   have pT:=hi.ops;have ub:=(nN.1 lP).1.2.2.1;refine Gp ?_;refine Cg (qy kp gp dp lp pp H1 z x t L y lQ (hy L hL) (by omega) wP) λw hS=>?_;exact e_ ka (aR hS)
  rw[zzb (λh=>h2 h.2)]at ka
  refine Gp ?_;exact e_ ka (aR hS)
 rw[zzb (λh=>hl h.1)]at ka
 refine Gp ?_;exact e_ ka (aR hS)
def P9{L:List b6}(h:hY L):bH L-dH L+1=((bR L).length:Int):=by
 by_cases hL:L=[]
 ·subst hL;rfl
 rw[h.head hL];omega
def Vi{L:List b6}{N:Nat}(h:∀s∈L,j7 s N):1<=dH L/\dH L<=1099511627776:=by
 cases L with
 | nil=>exact⟨yyj _,by show (1:Int)<=_;decide⟩
 | cons s r=>exact⟨(h s (.head _)).n0,(h s (.head _)).n1⟩
def Z5(kp gp dp lp pp:Nat)(H:a_)(k:bO):SP 142 [gW kp] [.ob (b5 kp gp dp lp pp H k)] (bA (gW pp) [.ob (b5 kp gp dp lp pp H k)]):=by
 refine Enzz λW F w hS=>?_;apply bDg;delta bh;obtain⟨rv,hr,hS⟩:=b5.iff.1 hS;refine Gp ?_;exact⟨_,⟨rfl,rfl⟩,b5.iff.2 ⟨rv,hr,hS⟩⟩
def yH(kp gp dp lp pp:Nat)(H:a_)(k:bO):SP 45 [gW kp] [.ob (b5 kp gp dp lp pp H k)] (bA (Γ k.aw) [.ob (b5 kp gp dp lp pp H k)]):=by
 refine Enzz λW F w hS=>?_;apply bIm;delta bh;obtain⟨rv,hr,hS⟩:=b5.iff.1 hS;refine Gp ?_;exact⟨_,⟨rfl,rfl⟩,b5.iff.2 ⟨rv,hr,hS⟩⟩
def y5(kp gp dp lp pp:Nat)(H:a_)(k:bO){N:Nat}(hg:gX k.g N)(hN:N<=1000000000000):SP 161 [gW kp] [.ob (b5 kp gp dp lp pp H k)] (bA (Γ ((bR k.g.bf).length:Int)) [.ob (b5 kp gp dp lp pp H k)]):=by
 refine Enzz λW F w hS=>?_;apply bDx;delta bh bg bk ai;obtain⟨rv,hr,hS⟩:=b5.iff.1 hS;have h1:=sW hg.ok.bf;have h2:=Vi hg.ok.bf;have h3:=P9 hg.seq;refine Gn λw hS=>?_;refine Cg (Z3 lp dp k.g hg.ok hN) λw hS=>?_;refine Cg (Zv lp dp k.g hg.ok hN) λw hS=>?_;rw[h3];have hS:=b5.put k hS hr Xp;exact bw hS
def qz(kp gp dp lp pp:Nat)(H:a_)(k:bO)(hq:k.reqs.length<=64):SP 115 [gW kp] [.ob (b5 kp gp dp lp pp H k),.mem H] (λv post=>post=[.ob (bd v 295 7 k.reqs.length (k.reqs.map gS).flatten),.ob (b5 kp gp dp lp pp H k),.mem H]):=by
 refine Enzz λW F w hS=>?_;apply bCo;delta bh;obtain⟨rv,hr,hS⟩:=b5.iff.1 hS;refine Gp ?_;refine Cc (ya H rv k.reqs hr (by omega)) ?_;clear hS;rintro u post rfl w hS;try simp only[app]at hS
 have hS:=b5.put (H:=H) k hS hr Xp;exact⟨_,rfl,aR hS⟩
def QD(kp gp dp lp pp:Nat)(H:a_)(k:bO)(hq:k.reqs.length<=64):SP 115 [gW kp] [.ob (b5 kp gp dp lp pp H k),.mem H] (λv post=>∃H',H.le H'/\iz H' v k.reqs/\post=[.ob (b5 kp gp dp lp pp H' k),.mem H']):=by
 intro W F w hS;refine zJ.mono (qz kp gp dp lp pp H k hq W F w hS) ?_;rintro u w ⟨post,rfl,hS⟩;try simp only[app]at hS
 obtain⟨H',hh,hR,hS⟩:=zA (H:=H) (v:=u) (n:=k.reqs.length) (sz:=7) (t:=295) (cells:=(k.reqs.map gS).flatten) hS Xp;have hS:=b5.jU hh hS Xr;exact⟨_,⟨H',hh,hR,rfl⟩,aR hS⟩
def bO.at(k:bO)(t:Tr):bO:={k with ts:=t.1,reqs:=t.2.1,aw:=t.2.2}
def Jz{t:bB}(h:du t=true):Bu t/\∀o∈t.ops,kJ o.key:=by
 obtain⟨⟨_,_,h1,h2⟩,h3,h4⟩:=nN.1 h;refine⟨⟨λn hn=>?_,by omega,by omega⟩,λo ho=>?_⟩
 ·have:=h4 n hn;unfold iD at this;rw[zz1]at this
  unfold kJ;omega
 have:=h3 o ho;unfold jT at this;rw[zz1]at this
 unfold kJ;omega
def RU{b:Φ}{t:bB}(h:mO b= .ok t):du t=true:=by
 unfold mO at h;split at h
 ·cases h
 split at h
 ·rename_i x hx;cases h;unfold x8 at hx;simp only at hx;split at hx
  ·rename_i hc;cases hx;exact hc.2.2
  cases hx
 cases h
def brg{ts:List (List Cell)}(h:sh ts){t:bB}(hm:du t=true):sh (ep ts t.ops).1:=brf h (Jz hm).2
def bzi{ts:List (List Cell)}{m:Nat}(h:small ts (4096*(m+1))){t:bB}(hm:du t=true):small (ep ts t.ops).1 (4096*m):=
 bzh (W7 h (by have:=(nN.1 hm).1.2.2.1;omega))
def bO.kQ(k:bO):Option Tr:=if dH k.g.bf≠1/\0<(bR k.g.bf).length then none else tf k.ts.length (bR k.g.bf) k.tr
structure vX(t:Tr)(n m:Nat):Prop where
 len:t.1.length=n
 ok:sh t.1
 room:small t.1 (4096*m)
 rq:t.2.1.length<=64
def VT{L L':List Rq}:∀{l:List gF},fE L l=some L'->L.length<=64->L'.length<=64
 | [],h,hl=>by cases h;exact hl
 | n::l,h,hl=>by
  unfold fE at h;cases hn:nO L n with
  | none=>rw[hn]at h;cases h
  | some L2=>rw[hn]at h;exact VT h (VS hn)
def vX.step{t t':Tr}{n m:Nat}(h:vX t n (m+1)){x:bB}(hs:stepT n t x=some t'):vX t' n m:=by
 unfold stepT at hs;cases hf:fj n t.2.1 x with
 | none=>rw[hf]at hs;cases hs
 | some L=>
  rw[hf]at hs
  simp only at hs;split at hs
  ·cases hs;obtain⟨hm,_,hn⟩:=B_ hf;exact⟨by show (ep _ _).1.length=n;rw[J8,h.len],brg h.ok hm,bzi h.room hm,VT hn h.rq⟩
  cases hs
def QC(kp gp dp lp pp:Nat)(H:a_)(k:bO){N m:Nat}(hg:gX k.g N)(hN:N<=1000000000000)(ht:vX k.tr k.ts.length m)(hm:(bR k.g.bf).length<=m)(ub:m<=100000):
  SP 109 [gW kp] [.ob (b5 kp gp dp lp pp H k),.mem H] (λv post=>∃H',H.le H'/\match k.kQ with
   | none=>v= .bool false/\post=[.ob (bm dp k.d),.mem H']
   | some t=>v= .bool true/\post=[.ob (b5 kp gp dp lp pp H' (k.at t)),.mem H']):=by
 refine Enzz λW F w hS=>?_;apply bCh;delta aI bh aW bk bJ br ai bc;have h2:=Vi hg.ok.bf;have hF:∀{w:Ζ} {H':a_} {t:Tr},k.kQ=none->H.le H'->SL W (.ob (b5 kp gp dp lp pp H' (k.at t))::.mem H'::F) w->∃post,(∃H',H.le H'/\match k.kQ with
   | none=>(.bool false:Ε)= .bool false/\post=[.ob (bm dp k.d),.mem H']
   | some t=>(.bool false:Ε)= .bool true/\post=[.ob (b5 kp gp dp lp pp H' (k.at t)),.mem H'])/\SL W (app post F) w:=λhr hh hS=>by
  rw[hr];obtain⟨rv,Ui,hS⟩:=b5.iff.1 hS;exact⟨[.ob (bm dp k.d),.mem _],⟨_,hh,rfl,rfl⟩,SL.bo (show SL W (_::_::_::_::.ob (bm dp k.d)::_) _ from hS) Xi⟩
 refine⟨λus w=>us=[]/\¬(dH k.g.bf≠1/\0<(bR k.g.bf).length)/\SL W (.ob (b5 kp gp dp lp pp H k)::.mem H::F) w,?_,?_⟩
 ·obtain⟨rv,hr,hS⟩:=b5.iff.1 hS;refine Gp ?_;refine Cg (Zv lp dp k.g hg.ok hN) λw hS=>?_;have hS:=b5.put k hS hr Xp;refine za (λh1=>?_) (λh1=>?_)
  ·refine Cg (y5 kp gp dp lp pp H k hg hN) λw hS=>?_;refine za (λh3=>?_) (λh3=>?_)
   ·exact hF (t:=k.tr) (by unfold bO.kQ;rw[zzc ⟨h1,by omega⟩]) (a_.le_refl H) hS
   exact⟨rfl,λh=>by omega,aR hS⟩
  exact⟨rfl,λh=>h1 h.1,aR hS⟩
 clear hS;rintro w ⟨-,pS,hS⟩;have hK:k.kQ=tf k.ts.length (bR k.g.bf) k.tr:=by unfold bO.kQ;rw[zzb pS]
 refine⟨λus w=>∃(i:Nat) (t:Tr) (H2:a_),us=[Γ ((i+1:Nat):Int)]/\i<=(bR k.g.bf).length/\k.kQ=tf k.ts.length ((bR k.g.bf).drop i) t/\vX t k.ts.length (m-i)/\H.le H2/\SL W (.ob (b5 kp gp dp lp pp H2 (k.at t))::.mem H2::F) w,
  λus _=>match us with|[.int _ i]=>((bR k.g.bf).length+1-i).toNat|_=>0,⟨0,k.tr,H,rfl,zz6 _,hK,ht,a_.le_refl H,hS⟩,?_⟩
 clear hS;rintro v3 w ⟨i,t,H2,bM,hi,cJ,hT,dW,hS⟩;cases bM;refine Cc (y5 kp gp dp lp pp H2 (k.at t) hg hN) ?_;clear hS;rintro _ post ⟨rfl,rfl⟩ w hS;try simp only[app]at hS
 rw[show (bR (k.at t).g.bf).length=(bR k.g.bf).length from rfl];refine bj (λh=>?_) (λh=>?_)
 ·have bn:i<(bR k.g.bf).length:=by omega
  have tZ:dH k.g.bf=1:=by
   rcases Int.lt_trichotomy (dH k.g.bf) 1 with h|h|h
   ·omega
   ·exact h
   exact absurd ⟨by omega,by omega⟩ pS
  have CQ:=hg.seq.read i;rw[tZ,zzd bn]at CQ
  rw[yyn bn]at cJ
  generalize Cn:(bR k.g.bf)[i]=bs at *
  have cJ:k.kQ=match mO bs with
   | .ok x=>match stepT k.ts.length t x with
    | some t'=>tf k.ts.length ((bR k.g.bf).drop (i+1)) t'
    | none=>none
   | .error _=>none:=cJ
  obtain⟨rv,hr,hS⟩:=b5.iff.1 hS;refine Gp ?_;refine Cc (Yb lp dp (k.at t).g hg.ok hN ((i+1:Nat):Int) (by omega)) ?_;clear hS;rintro r post hq w hS;have hq:DK [.ob (b7 lp dp (k.at t).g)] (lY k.g.bf ((i+1:Nat):Int)) r post:=hq;rw[show ((i+1:Nat):Int)=1+(i:Int) by omega,CQ]at hq
  obtain⟨u,rfl,rfl⟩:=hq;try simp only[app]at hS
  have hS:=b5.put (k.at t) hS hr Xp;refine Gp ?_;refine Cc (YK (.ob (bd u 5 1 bs.length (bs.map bU))) H2 u bs cK.own) ?_;clear hS;rintro r post hq w hS;unfold vS at hq;cases hd:mO bs with
  | error e=>
   rw[hd]at hq cJ
   obtain⟨cY,H3,dG,rfl,rfl⟩:=hq;try simp only[app]at hS
   have hS:=b5.mono dG (Has.front (c:=.ob (b5 kp gp dp lp pp H2 (k.at t))) hS Xr);refine Gm λb w hS=>?_;refine Cc (Zt kp gp dp lp pp H3 (k.at t) ⟨0,Θ,Θ⟩ ⟨0,[],[]⟩ ⟨rfl,cn.nil _ _,cn.nil _ _⟩ ⟨by simp,by simp,by simp⟩ hT.rq) ?_;clear hS;rintro u2 post ⟨H4,lL,ki,rfl⟩ w hS;have hu:∃y b,u2= .tuple #[y,.bool b]:=by
    unfold xM at ki;split at ki
    ·obtain⟨y,e⟩:=ki;exact⟨y,_,e⟩
    obtain⟨y,e,_⟩:=ki;exact⟨y,_,e⟩
   obtain⟨y,qb,rfl⟩:=hu;refine Gn λw hS=>?_;refine za (λ_=>?_) (λh=>absurd cY h);exact hF cJ (a_.le_trans dW (a_.le_trans dG lL)) (aR hS)
  | ok x=>
   rw[hd]at hq cJ
   obtain⟨xv,H3,dG,rfl,hx,rfl⟩:=hq;obtain⟨Iz,wP⟩:=Jz (RU hd);have AN:=(nN.1 (RU hd)).1.2.2.1;have Fj:dD xv=[Γ x.aw,xv.ov,xv.nv]:=by unfold dD;rw[hx.aw]
   try simp only[app]at hS
   have hS:=b5.mono dG (Has.front (c:=.ob (b5 kp gp dp lp pp H2 (k.at t))) hS Xr);have h1:=lK hx;refine Gp ?_;refine zD hS λxb w hS=>?_;refine zr hS Xu rfl rfl h1 λw hS=>?_;refine zz hS Xh rfl ?_;refine Cc (Zt kp gp dp lp pp H3 (k.at t) xv x hx Iz hT.rq) ?_;clear hS;rintro u2 post ⟨H4,lL,ki,rfl⟩ w hS;have H7:=a_.le_trans dW (a_.le_trans dG lL);have pO:fj (k.at t).ts.length (k.at t).reqs x=fj k.ts.length t.2.1 x:=by rw[show (k.at t).ts.length=k.ts.length from hT.len];rfl
   rw[pO]at ki
   simp only at cJ;unfold stepT at cJ;cases hc:fj k.ts.length t.2.1 x with
   | none=>
    rw[hc]at ki cJ
    obtain⟨y,rfl⟩:=ki;refine Gn λw hS=>?_;refine Χ ?_;refine Gp ?_;refine zu ?_;exact hF cJ H7 (aR hS)
   | some L=>
    rw[hc]at ki cJ
    obtain⟨y,rfl,hy⟩:=ki;refine Gn λw hS=>?_;refine Χ ?_;refine Gp ?_;refine zq ?_;obtain⟨WI,wY,hS⟩:=b5.open (k:=k.at t) hS Xr;rw[Fj]at hS
    refine Gp ?_;have hS:=b5.put (k.at t) hS wY Xp;rw[show (k.at t).aw=t.2.2 from rfl];refine za (λh5=>?_) (λh5=>?_)
    ·simp only at cJ;rw[zzb (by omega)]at cJ
     exact hF cJ H7 (aR hS)
    simp only at cJ;rw[zzc (by omega)]at cJ
    rw[<- Fj]at hS
    refine zz hS Xh rfl ?_;refine Cg (qy kp gp dp lp pp H4 (k.at t) xv x L y (hx.mono lL) hy (by omega) wP) λw hS=>?_;have eN:stepT k.ts.length t x=some ((ep t.1 x.ops).1,L,x.aw):=Kq hc (by omega);have hT':vX ((ep t.1 x.ops).1,L,x.aw) k.ts.length (m-(i+1)):=by
     have:m-i=(m-(i+1))+1:=by omega
     rw[this]at hT
     exact hT.step eN
    have hS:SL W (.ob (b5 kp gp dp lp pp H4 (k.at ((ep t.1 x.ops).1,L,x.aw)))::_) _:=hS;exact⟨⟨i+1,((ep t.1 x.ops).1,L,x.aw),H4,rfl,by omega,cJ,hT',H7,aR hS⟩,by dsimp only;omega⟩
 have gh:i=(bR k.g.bf).length:=by omega
 subst gh;rw[vvw]at cJ
 have cJ:k.kQ=some t:=cJ;rw[cJ];exact⟨_,⟨H2,dW,rfl,rfl⟩,aR hS⟩
def K3(dp:Nat)(H:a_)(y:DS × Except Int bO)(r:Ε)(post:Β):Prop:=match y.2 with
 | .error e=>e≠0/\∃H',H.le H'/\r= .tuple #[.pointer none,Γ e]/\post=[.ob (bm dp y.1),.mem H']
 | .ok k=>∃(kp gp lp pp:Nat) (H':a_),H.le H'/\r= .tuple #[gW kp,Γ 0]/\post=[.ob (b5 kp gp dp lp pp H' k),.mem H']
def W8(n m:Nat)(hm:4096*m<=1000000):small (List.replicate n []) (4096*m):=λC hC=>by
 rw[vvf hC];simpa using hm
def V2(n:Nat):sh (List.replicate n []):=λC hC=>by
 rw[vvf hC];exact⟨.nil,by simp⟩
def QB(H:a_)(dp:Nat)(d:DS)(bL size:Int){N:Nat}(bC:d.Ok N)(hN:N<=100000000)(cZ:d.ops<=90000)(hn:∀d' g,dN d 8192 size=(d',.ok g)->(bR g.bf).length<=200):
  SP 74 [gW dp,Γ bL,Γ size] [.ob (bm dp d),.mem H] (K3 dp H (jH d bL size)):=by
 refine Enzz λW F w hS=>?_;apply bJi;delta aI bJ ai bT bc;have hR:=bC.Dn;by_cases ht:bL<1\/8<bL
 ·have e:jH d bL size=(d,.error 1):=by unfold jH;rw[zzc ht]
  rw[e];refine Cg (bgb bL ht) λw hS=>?_;refine Υ ?_;exact⟨_,⟨by decide,H,a_.le_refl H,rfl,rfl⟩,aR hS⟩
 obtain⟨n,rfl⟩:∃n:Nat,bL=n:=⟨bL.toNat,by omega⟩;refine Cc (bgc n (by omega) (by omega)) ?_;clear hS;rintro _ post ⟨gp,rfl,rfl⟩ w hS;(try simp only[app]at hS);refine Gp ?_
 refine Χ ?_;refine Cc (QH dp d 8192 size bC (by omega) (by omega) (by omega)) ?_;clear hS;rintro r post hq w hS;unfold jH;rw[zzb ht];unfold BA at hq;cases uf:dN d 8192 size with
 | mk d' o=>
  rw[uf]at hq
  cases o with
  | error e=>
   obtain⟨he,rfl,rfl⟩:=hq;(try simp only[app]at hS);refine Gp ?_
   refine za (λ_=>?_) (λh=>absurd he h);exact⟨_,⟨he,H,a_.le_refl H,rfl,rfl⟩,aR hS⟩
  | ok g=>
   obtain⟨lp,rfl,rfl⟩:=hq;(try simp only[app]at hS);refine Gp ?_
   refine Χ ?_;refine Cc (bft) ?_;clear hS;rintro _ post ⟨pp,rfl,rfl⟩ w hS;(try simp only[app]at hS);refine Gp ?_
   refine zx hS λkp w hS=>?_;have rR:=JU bC (by omega) uf;have hS:SL W (.ob (b5 kp gp dp lp pp H ⟨g,d',List.replicate n [],[],0,[]⟩)::_) _:=b5.dI (rv:=Θ) hS (cn.nil H 7) Xp;have Ax:(List.replicate n ([]:List Cell)).length=n:=xxm;refine Cc (QC kp gp dp lp pp H ⟨g,d',List.replicate n [],[],0,[]⟩ rR (by omega) ⟨rfl,V2 n,W8 n 200 (by decide),by simp[bO.tr]⟩ (hn d' g uf) (by omega)) ?_;clear hS;rintro v post ⟨H1,bX,hm⟩ w hS;have o7:=P9 rR.seq;have e:(bO.mk g d' (List.replicate n []) [] 0 []).kQ=if dH g.bf≠1/\dH g.bf<=bH g.bf then none else tf (Int.toNat (n:Int)) (bR g.bf) (re (Int.toNat (n:Int))):=by
    unfold bO.kQ;simp only[Ax];rw[zzw];by_cases hc:dH g.bf≠1/\dH g.bf<=bH g.bf
    ·rw[zzc hc,zzc ⟨hc.1,by omega⟩]
    rw[zzb hc,zzb (λh=>hc ⟨h.1,by omega⟩)];rfl
   rw[e]at hm
   simp only;by_cases hc:dH g.bf≠1/\dH g.bf<=bH g.bf
   ·rw[zzc hc]at hm ⊢
    obtain⟨rfl,rfl⟩:=hm;(try simp only[app]at hS);refine Gp ?_
    refine zu ?_;exact⟨_,⟨by decide,H1,bX,rfl,rfl⟩,aR hS⟩
   rw[zzb hc]at hm ⊢
   cases Fe:tf (Int.toNat (n:Int)) (bR g.bf) (re (Int.toNat (n:Int))) with
   | none=>
    rw[Fe]at hm
    obtain⟨rfl,rfl⟩:=hm;(try simp only[app]at hS);refine Gp ?_
    refine zu ?_;exact⟨_,⟨by decide,H1,bX,rfl,rfl⟩,aR hS⟩
   | some t=>
    rw[Fe]at hm
    obtain⟨rfl,rfl⟩:=hm;(try simp only[app]at hS);refine Gp ?_
    refine zq ?_;have hS:SL W (.ob (b5 kp gp dp lp pp H1 ⟨g,d',t.1,[],t.2.2,t.2.1⟩)::_) _:=hS;exact⟨_,⟨kp,gp,lp,pp,H1,bX,rfl,rfl⟩,aR hS⟩
structure TX(t:Tr)(n m:Nat):Prop where
 k:vX t n m
 l0:0<=t.2.2
 l1:t.2.2<=1099511627776
 rq:fq t.2.1
def VU{L L':List Rq}:∀{l:List gF},fE L l=some L'->fq L->fq L'
 | [],h,hl=>by cases h;exact hl
 | n::l,h,hl=>by
  unfold fE at h;cases hn:nO L n with
  | none=>rw[hn]at h;cases h
  | some L2=>
   rw[hn]at h
   refine VU h ?_
   grind [nO,D6,BL]
def TX.step{t t':Tr}{n m:Nat}(h:TX t n (m+1)){x:bB}(hs:stepT n t x=some t'):TX t' n m:=by
 have hk:=h.k.step hs;unfold stepT at hs;cases hf:fj n t.2.1 x with
 | none=>rw[hf]at hs;cases hs
 | some L=>
  rw[hf]at hs
  simp only at hs;split at hs
  ·cases hs;obtain⟨hm,_,hn⟩:=B_ hf;have h1:=(nN.1 hm).1;exact⟨hk,by show 0<=x.aw;omega,by show x.aw<=_;omega,VU hn h.rq⟩
  cases hs
def TX.run{n:Nat}:∀(xs:List bB) (t t':Tr) (m:Nat),TX t n (m+xs.length)->runT n xs t=some t'->TX t' n m
 | [],t,t',m,h,hr=>by cases hr;exact h
 | x::xs,t,t',m,h,hr=>by
  have hr:(match stepT n t x with|some t'=>runT n xs t'|none=>none)=some t':=hr;cases hs:stepT n t x with
  | none=>rw[hs]at hr;cases hr
  | some t1=>
   rw[hs]at hr
   rw[zzi,show m+(xs.length+1)=(m+xs.length)+1 by omega]at h
   exact TX.run xs t1 t' m (h.step hs) hr
def bok:fq []:=⟨by simp,λi h=>by simp at h⟩
def TX.zero(n m:Nat)(hm:4096*m<=1000000):TX (re n) n m:=⟨⟨xxm,V2 n,W8 n m hm,by simp[re]⟩,by show (0:Int)<=0;decide,by show (0:Int)<=_;decide,bok⟩
structure GC(n:Nat)(k:bO)(j:Nat)(xs:List bB)(m:Option bB):Prop where
 s:ij n k xs m
 len:xs.length<=j
 g:gX k.g (1000000*(j+1))
 d:k.d.Ok (1000000*(j+1))
 ops:k.d.ops<=10*(j+1)
 pl:k.plan.length<=j
 lW:∀f∈k.plan,fI f=true
 keep:∀f∈k.plan,f.keep<=9223372036854775807
def aW9(k:bO)(x:bB):((k.eX x).1.g=k.g/\(k.eX x).1.d=k.d)\/(du x=true/\(((k.eX x).1.g=(d_ k.g k.d (fr x)).1.1/\(k.eX x).1.d=(d_ k.g k.d (fr x)).1.2)\/∃n,(k.eX x).1.g=(fA k.g k.d (fr x) n).1.1/\(k.eX x).1.d=(fA k.g k.d (fr x) n).1.2)):=by
 unfold bO.eX;split
 ·grind
 rename_i hn;have hm:du x=true:=by
  grind
 have hw:∀(k':bO) (L:List Rq),k'.g=k.g->k'.d=k.d->(k'.ga x L).1.g=(d_ k.g k.d (fr x)).1.1/\(k'.ga x L).1.d=(d_ k.g k.d (fr x)).1.2:=λk' L h1 h2=>by
  unfold bO.ga;simp only;rw[h1,h2];split<;>exact⟨rfl,rfl⟩
 split
 ·grind
 simp only;split
 ·grind
 split
 ·grind
 split
 ·exact .inr ⟨hm,.inr ⟨_,rfl,rfl⟩⟩
 grind
def GC.first{n:Nat}(n1:1<=n)(n8:n<=8){size:Int}(s0:64<=size)(s1:size<=65536):∃k,jH fU ((n:Nat):Int) size=(k.d,.ok k)/\GC n k 0 [] none/\k.plan=[]/\k.d=fU/\k.aw=0/\(∀d' g,dN fU 8192 size=(d',.ok g)->(bR g.bf).length<=200):=by
 have uf:dN fU 8192 size=(fU,.ok ⟨[],8192,size,none⟩):=by
  unfold dN;rw[zzb (by omega)];rfl
 have hl:fJ ⟨[],8192,size,none⟩ fU 8192 1 []:=⟨trivial,rfl,rfl,λ_=>⟨rfl,rfl⟩,yyj _,by show (0:Int)<=8192;decide,by show (8192:Int)<=12288;decide,s0,s1,by decide,by show (8192:Int)+(0:Nat)+2<=8192+4096;decide,rfl,rfl⟩;refine⟨⟨⟨[],8192,size,none⟩,fU,(re n).1,[],0,[]⟩,?_,⟨⟨hl.st rfl _,by simp,rfl,xxm,λx hx=>by cases hx⟩,zzj _,⟨⟨by simp,by show (0:Int)<=8192;decide,by show (8192:Int)<=12288;decide,s0,s1,by simp⟩,trivial,by show (0:Int)<=_;decide,λx hx=>by cases hx⟩,Ds _,by show fU.ops<=_;decide,by simp,by simp,by simp⟩,rfl,rfl,rfl,λd' g hg=>?_⟩
 ·unfold jH;rw[zzb (by omega),zzw];simp only[uf];rfl
 grind [bR]
def so(r:Row):Prop:=1<=r.key/\r.key<=1099511627776/\r.val.size<=32
instance (r:Row):Decidable (so r):=by unfold so;infer_instance
structure BG(C:List Row):Prop where
 sorted:ff C
 rows:∀r∈C,so r
 len:C.length<=1000
def vI:Int->List Row->Bool
 | _,[]=>true
 | k,r::C=>decide (k<r.key/\r.key<=1099511627776/\r.val.size<=32) && vI r.key C
def WC:∀{C:List Row} {k:Int},vI k C=true↔(∀r∈C,k<r.key)/\ff C/\∀r∈C,r.key<=1099511627776/\r.val.size<=32
 | [],k=>by simp[vI,ff]
 | r::C,k=>by
  unfold vI;rw[zzs,zz1,WC (C:=C) (k:=r.key)];unfold ff;rw[yyi]
  grind
def p3(C:List Row):Bool:=vI 0 C && decide (C.length<=1000)
def Vp{C:List Row}:p3 C=true↔BG C:=by
 unfold p3;rw[zzs,zz1,WC];constructor
 ·rintro ⟨⟨h1,h2,h3⟩,h4⟩;exact⟨h2,λr hr=>⟨by have:=h1 r hr;omega,(h3 r hr).1,(h3 r hr).2⟩,h4⟩
 rintro ⟨h1,h2,h3⟩;exact⟨⟨λr hr=>by have:=(h2 r hr).1;omega,h1,λr hr=>⟨(h2 r hr).2.1,(h2 r hr).2.2⟩⟩,h3⟩
def iw(aw:Int)(ts:List (List Row)):Bool:=decide (0<=aw/\aw<=1099511627776/\1<=ts.length/\ts.length<=8) && ts.all p3
def sf{aw:Int}{ts:List (List Row)}:iw aw ts=true↔(0<=aw/\aw<=1099511627776/\1<=ts.length/\ts.length<=8)/\∀C∈ts,BG C:=by
 unfold iw;rw[zzs,zz1,zz7];exact and_congr_right λ_=>⟨λh C hC=>Vp.1 (h C hC),λh C hC=>Vp.2 (h C hC)⟩
def tI(r:Row):List cA:=[iF r.key,tF r.val]
def nD(C:List Row):List cA:=iF C.length::(C.map tI).flatten
def mg(aw:Int)(ts:List (List Row)):List cA:=[iF aw,iF ts.length]++(ts.map nD).flatten
def Sz(C:List Row):(nD C).length=1+C.length*2:=by
 unfold nD;rw[zzi,Ah (f:=tI) (k:=2) (λ_=>rfl)];omega
def bfa{aw:Int}{ts:List (List Row)}(h:iw aw ts=true):(mg aw ts).length<=16010:=by
 obtain⟨h1,h2⟩:=sf.1 h;have k:=tK (f:=nD) (k:=2001) ts λC hC=>by rw[Sz];have:=(h2 C hC).len;omega
 grind [mg]
def bd9{aw:Int}{ts:List (List Row)}(h:iw aw ts=true):∀f∈mg aw ts,nL f:=by
 obtain⟨h1,h2⟩:=sf.1 h;intro f hf;unfold mg at hf;simp only[zz4,yya,wwi,zz5,yy5,vvb]at hf;rcases hf with (rfl|rfl)|⟨l,⟨C,hC,rfl⟩,hf⟩
 ·grind [kI]
 ·grind [kI]
 have hT:=h2 C hC;have hl:=hT.len;unfold nD at hf;simp only[yya,wwi,zz5]at hf;rcases hf with rfl|⟨l,⟨r,hr,rfl⟩,hf⟩
 ·grind [kI]
 obtain⟨k1,k2,k3⟩:=hT.rows r hr;unfold tI at hf;simp only[yya,yy5,vvb]at hf;rcases hf with rfl|rfl
 ·grind [kI]
 exact .inr ⟨rfl,rfl,by show r.val.size<=4096;omega⟩
def iC(aw:Int)(ts:List (List Row)):Φ:=cR (mg aw ts).length 2++((mg aw ts).map cQ).flatten
theorem bdh(s:Η):(cQ (tF s)).length=3+s.size:=by
 show (fx 2::(cR (s.size:Nat) 2++s.data.toList)).length=_;rw[zzi,zza,ie];have:s.data.toList.length=s.size:=rfl;omega
def AQ{aw:Int}{ts:List (List Row)}(h:iw aw ts=true):(iC aw ts).length<=360000:=by
 obtain⟨h1,h2⟩:=sf.1 h;unfold iC mg;rw[zza,ie];simp only[zzr,zzp,yy6,yyq,zz2,wwj,zza,zz3,uU];rw[B3,xxh];have k:=tK (f:=(λx=>(x.map cQ).flatten)∘nD) (k:=44009) ts λC hC=>by
  have hT:=h2 C hC;have hl:=hT.len;show (((nD C).map cQ).flatten).length<=44009;unfold nD;rw[zzp,zz2,zza,uU,B3,xxh];have k2:=tK (f:=(λx=>(x.map cQ).flatten)∘tI) (k:=44) C λr hr=>by
   have:=(hT.rows r hr).2.2
   grind [tI,uU,bdh]
  grind
 grind
def UJ{aw:Int}{ts:List (List Row)}(h:iw aw ts=true):lJ (mg aw ts)= .ok (iC aw ts)/\gJ (iC aw ts)= .ok (mg aw ts):=
 BZ (l:=mg aw ts) (by have:=bfa h;omega) (bd9 h)
def Ee(aw:Int)(ts:List (List Row)):Except Int Φ:=if iw aw ts=true then .ok (bY (iC aw ts)) else .error 1
def bo8(x:Int × Η):Row:=⟨x.1,x.2⟩
def vJ:bP->Row × bP:=lx bo8 (jY dM λ_=>j6)
def rh:bP->List Row × bP:=lx Prod.snd (k9 (bN 1000) (gj vJ))
def VI(x:Int × (Int × List (List Row))):Int × List (List Row):=(x.1,x.2.2)
def lR:bP->(Int × List (List Row)) × bP:=lx VI (jY dM λ_=>k9 (bN 8) (gM rh))
def uk(l:List cA):Option (Int × List (List Row)):=
 let x:=lR ⟨l,false⟩
 if x.2.bad=false/\x.2.l=[]/\iw x.1.1 x.1.2=true then some x.1 else none
def jN(b:Φ):Option (Int × List (List Row)):=match f_ b with
 | .error _=>none
 | .ok (p,n)=>if n=b.length then (match gJ p with
  | .error _=>none
  | .ok l=>uk l) else none
def a_0{b:Φ}{x:Int × List (List Row)}(h:jN b=some x):iw x.1 x.2=true:=by
 grind [jN,uk]
theorem bwq{r:Row}{l:List cA}:vJ ⟨tI r++l,false⟩=(r,⟨l,false⟩):=rfl
def bAl{C:List Row}{l:List cA}(h:C.length<=1000):rh ⟨nD C++l,false⟩=(C,⟨l,false⟩):=by
 unfold rh k9 lx jY nD;rw[zzn,nR (by omega)];simp only[zzw]
 grind [FD,bwq]
def bml{aw:Int}{ts:List (List Row)}(h:iw aw ts=true):lR ⟨mg aw ts,false⟩=((aw,ts),⟨[],false⟩):=by
 obtain⟨h1,h2⟩:=sf.1 h;have e0:mg aw ts=iF aw::(iF ts.length::((ts.map nD).flatten++[])):=by unfold mg;simp
 rw[e0];have e1:∀l,dM ⟨iF aw::l,false⟩=(aw,⟨l,false⟩):=λl=>rfl;have e2:∀l,bN 8 ⟨iF ts.length::l,false⟩=((ts.length:Int),⟨l,false⟩):=λl=>nR (by omega);have e3:∀l,gM rh ts.length ⟨(ts.map nD).flatten++l,false⟩=(ts,⟨l,false⟩):=λl=>xk ts l λC hC l=>bAl (h2 C hC).len;unfold lR k9 lx jY VI
 grind
def RR{b p:Φ}{n:Nat}(ht:f_ b= .ok (p,n))(hn:n=b.length){l:List cA}(hd:gJ p= .ok l):jN b=uk l:=by
 grind [jN]
def bmk{l:List cA}{x:Int × List (List Row)}(h:lR ⟨l,false⟩=(x,⟨[],false⟩))(hm:iw x.1 x.2=true):uk l=some x:=by
 grind [uk]
theorem RT{aw:Int}{ts:List (List Row)}(h:iw aw ts=true):jN (bY (iC aw ts))=some (aw,ts):=by
 have hl:=AQ h;have h1:=(UJ h).2;have h2:=bml h;generalize iC aw ts=p at *
 have ht:=Kx (p:=p) (r:=[]) (by omega);rw[zz3]at ht
 exact (RR ht (jX p).symm h1).trans (bmk h2 h)
abbrev gY:=List (List Row)
def iG(ts:gY)(t:Int):List Row:=if t<0 then [] else (ts[t.toNat]?).getD []
def jB(ts:gY)(c:da):gY:=ts.set c.table.toNat (kz (iG ts c.table) c)
def eZ(ts:gY)(l:List da):gY:=l.foldl jB ts
def gu(n:Nat)(c:da):Bool:=decide (0<=c.table/\c.table<(n:Int))
def mh(ts:gY)(l:List da):Bool:=l.all (gu ts.length) && (eZ ts l).all λC=>decide (C.length<=1000)
theorem v_(ts:gY)(c:da):(jB ts c).length=ts.length:=yyl
theorem tw(ts:gY):∀l:List da,(eZ ts l).length=ts.length:=λl=>by
 unfold eZ;induction l generalizing ts with
 | nil=>rfl
 | cons c l ih=>rw[xxo,ih,v_]
def aIu(ts:gY)(l m:List da):eZ ts (l++m)=eZ (eZ ts l) m:=wwe
def P6(ts:gY)(l:List da)(c:da):eZ ts (l++[c])=jB (eZ ts l) c:=by rw[aIu];rfl
theorem nS(ts:gY)(t:Nat)(h:t<ts.length):iG ts t=ts[t]:=by
 grind [iG]
def Gg{ts:gY}{t:Int}(h:0<=t/\t<ts.length):iG ts t∈ts:=by
 obtain⟨n,rfl⟩:∃n:Nat,t=n:=⟨t.toNat,by omega⟩
 grind [nS]
structure mJ(C:List Row):Prop where
 sorted:ff C
 rows:∀r∈C,so r
def mJ.app{C:List Row}(h:mJ C){c:da}{k:Int}(hc:kN c k=true):mJ (kz C c):=by
 have hm:=uq.1 hc;unfold kz;split
 ·exact⟨Xd h.sorted _,λr hr=>h.rows r (Vy hr)⟩
 refine⟨Kj h.sorted _,λr hr=>?_⟩;rcases VA hr with rfl|hr
 ·exact⟨by show 1<=c.key;omega,by show c.key<=_;omega,by show c.val.size<=_;omega⟩
 exact h.rows r hr
def WE:mJ []:=⟨List.Pairwise.nil,by simp⟩
theorem bwm(C:List Row)(c:da):(kz C c).length<=C.length+1:=by
 grind [kz,U_,Jt]
def JD{ts:gY}{c:da}{C:List Row}(h:C∈jB ts c):C∈ts\/C=kz (iG ts c.table) c:=by
 grind [jB]
def aIf{ts:gY}(h:∀C∈ts,mJ C){c:da}{k:Int}(hc:kN c k=true)(ht:gu ts.length c=true):∀C∈jB ts c,mJ C:=λC hC=>by
 rcases JD hC with hC|rfl
 ·exact h C hC
 exact (h _ (Gg (zzt ht))).app hc
def Hd{k:Int}:∀{l:List da} {ts:gY},(∀C∈ts,mJ C)->(∀c∈l,kN c k=true)->(∀c∈l,gu ts.length c=true)->∀C∈eZ ts l,mJ C
 | [],ts,h,_,_=>h
 | c::l,ts,h,h1,h2=>by
  show ∀C∈eZ (jB ts c) l,mJ C;refine Hd (aIf h (h1 c (.head _)) (h2 c (.head _))) (λx hx=>h1 x (.tail _ hx)) λx hx=>?_
  grind [v_]
def D0(N:Nat):∀{l:List da} {ts:gY},(∀C∈ts,C.length<=N)->(∀c∈l,gu ts.length c=true)->∀C∈eZ ts l,C.length<=N+l.length
 | [],ts,h,_=>h
 | c::l,ts,h,h2=>by
  intro C hC;have hA:∀C∈jB ts c,C.length<=N+1:=λC hC=>by
   rcases JD hC with hC|rfl
   ·grind
   grind [bwm,iG]
  have:=D0 (N+1) (l:=l) hA (λx hx=>by rw[v_];exact h2 x (.tail _ hx)) C hC
  grind
structure bQ where
 g:bV
 d:DS
 ts:gY
 db:Int
 image:Int
def ib(R:List PF)(n:Nat)(f:Int):Option (Int × gY):=match cP PF.id R f with
 | none=>none
 | some x=>match jN x.b with
  | none=>none
  | some y=>if y.2.length=n then some y else none
abbrev rl:=Int × Int × gY
def gL(R:List PF)(n:Nat)(f:Int)(x:rl):rl:=match ib R n f with
 | none=>x
 | some y=>if 0<=x.1/\y.1<=x.2.1 then x else (f,y.1,y.2)
def kq(R:List PF)(n:Nat):rl:=gL R n 1 (gL R n 0 (-1,0,List.replicate n []))
def nP(n:Nat)(image:Int):List (Φ)->Int->gY->Option gY
 | [],_,ts=>some ts
 | b::r,aw,ts=>match jO b with
  | .error _=>none
  | .ok t=>if t.aw=aw/\(∀c∈t.changes,c.table<(n:Int)) then nP n image r (aw+1) (if image<aw then eZ ts t.changes else ts) else none
def kx(d:DS)(bL size:Int):DS × Except Int bQ:=
 if bL<1\/8<bL then (d,.error 1)
 else match dN d 16 size with
  | (d',.error e)=>(d',.error e)
  | (d',.ok g)=>
   let x:=kq d'.R bL.toNat
   match nP bL.toNat x.2.1 (bR g.bf) (dH g.bf) x.2.2 with
   | none=>(d',.error 3)
   | some ts=>if x.2.1<=bH g.bf/\dH g.bf<=x.2.1+1 then (d',.ok ⟨g,d',ts,x.1,x.2.1⟩) else (d',.error 3)
abbrev fC:=mN
def bQ.fL(k:bQ)(t:bD):bQ × (Int × Int):=
 if k.d.off=true then (k,(0,8))
 else if mh k.ts t.changes=false\/1099511627776<=bH k.g.bf then (k,(0,7))
 else
  let r:=d_ k.g k.d (fC {t with aw:=bH k.g.bf+1})
  if r.2.2=0 then ({k with g:=r.1.1,d:=r.1.2,ts:=eZ k.ts t.changes},(bH k.g.bf+1,0)) else ({k with g:=r.1.1,d:=r.1.2},(0,r.2.2))
def bQ.nz(k:bQ)(sg:Ψ)(l:List da):bQ × (Int × Int):=
 if c_ ⟨1,1,l,sg,0⟩=true/\(∀c∈l,c.table<(k.ts.length:Int)) then k.fL ⟨1,1,l,sg,0⟩ else (k,(0,1))
def bQ.mv(k:bQ)(kind mark:Int):bQ × (Int × Int):=
 if (kind=2\/kind=3)/\c_ ⟨1,kind,[],[],mark⟩=true then k.fL ⟨1,kind,[],[],mark⟩ else (k,(0,1))
def bQ.gA(k:bQ)(aw:Int):Except Int bD:=match lY k.g.bf aw with
 | none=>.error 5
 | some b=>jO b
def iN(k:bQ):Int:=if k.db=0 then 1 else 0
def jq(d:DS)(f:Int)(b:Φ):DS × Int:=
 let c:=if 0<=gi d.R f then d.cut f 0 else (d,0)
 if c.2≠0 then c else
 let a:=c.1.append f b
 if a.2≠0 then a else a.1.sync f
def bQ.ia(k:bQ):bQ × Int:=
 let r:=jq k.d (iN k) (bY (iC (bH k.g.bf) k.ts))
 if r.2=0 then ({k with d:=r.1,db:=iN k,image:=bH k.g.bf},0) else ({k with d:=r.1},r.2)
def bQ.gB(k:bQ)(aw:Int):bQ × Int:=
 if aw<0\/bH k.g.bf<aw then (k,1)
 else if k.d.off=true then (k,8)
 else
  let r:=if k.image<aw then k.ia else (k,0)
  if r.2≠0 then r else
  let t:=gl r.1.g r.1.d aw
  ({r.1 with g:=t.1.1,d:=t.1.2},t.2)
def nj(C:List Row)(key:Int)(n:Int):List Row:=(C.filter λr=>decide (key<r.key)).take n.toNat
def bQ.wg(k:bQ)(t key n:Int):List Row:=nj (iG k.ts t) key n
structure cN(lo hi:Int)(A B M:List PF):Prop where
 a:∀x∈A,x.id<lo
 m:∀x∈M,lo<=x.id/\x.id<hi
 b:∀x∈B,hi<=x.id
def b_(A B:List PF)(d:DS):DS:={d with R:=A++d.R++B}
section
variable {lo hi:Int} {A B M:List PF}
def cN.bG(h:cN lo hi A B M){f:Int}(h1:lo<=f)(h2:f<hi):eE PF.id (A++M++B) f=A.length+eE PF.id M f:=by
 have eA:A.filter (λx=>decide (PF.id x<f))=A:=yyy.2 λx hx=>zzm (by have:=h.a x hx;omega);have eB:B.filter (λx=>decide (PF.id x<f))=[]:=uuc.2 λx hx=>by have:=h.b x hx;simp;omega
 grind [eE]
def cN.at_(h:cN lo hi A B M)(c:Nat)(hc:c<=M.length):(A++M++B)[A.length+c]?=if c<M.length then M[c]? else B[0]?:=by
 grind
def cN.is(h:cN lo hi A B M){f:Int}(h1:lo<=f)(h2:f<hi):ic PF.id (A++M++B) f=ic PF.id M f:=by
 unfold ic;rw[h.bG h1 h2,h.at_ _ (D8 M f)];by_cases hc:eE PF.id M f<M.length
 ·rw[zzc hc]
 rw[zzb hc,yyt (l:=M) (by omega)];cases hB:B[0]? with
 | none=>rfl
 | some y=>
  have:=h.b y (xxu hB);simp;omega
def cN.get(h:cN lo hi A B M){f:Int}(h1:lo<=f)(h2:f<hi):cP PF.id (A++M++B) f=cP PF.id M f:=by
 unfold cP;rw[h.is h1 h2];split
 ·rename_i hi;obtain⟨hl,_⟩:=s6 hi;rw[h.bG h1 h2,h.at_ _ (by omega),zzc hl]
 rfl
def cN.put(h:cN lo hi A B M){x:PF}(h1:lo<=x.id)(h2:x.id<hi):fm PF.id (A++M++B) x=A++fm PF.id M x++B:=by
 have hc:=D8 (key:=PF.id) M x.id;unfold fm;rw[h.is h1 h2,h.bG h1 h2];have e1:(A++M++B).take (A.length+eE PF.id M x.id)=A++M.take (eE PF.id M x.id):=by
  grind
 rw[e1];split
 ·rename_i hi;obtain⟨hl,_⟩:=s6 hi;rw[zzg A M B,vvy,xxa,wwf (by omega)]
  grind
 rw[zzg A M B,xxa,wwf hc]
 grind
def cN.del(h:cN lo hi A B M){f:Int}(h1:lo<=f)(h2:f<hi):jb PF.id (A++M++B) f=A++jb PF.id M f++B:=by
 unfold jb;rw[h.is h1 h2];split
 ·rename_i hi;obtain⟨hl,_⟩:=s6 hi;rw[h.bG h1 h2,zzg,List.eraseIdx_append_of_length_le (by omega),show A.length+eE PF.id M f-A.length=eE PF.id M f by omega,List.eraseIdx_append_of_lt_length hl,zzg]
 rfl
def cN.app(h:cN lo hi A B M){f:Int}(h1:lo<=f)(h2:f<hi)(b:Φ):jM (A++M++B) f b=A++jM M f b++B:=by
 unfold jM;rw[h.get h1 h2,h.put (x:=⟨f,_,_⟩) h1 h2]
def cN.ri(h:cN lo hi A B M){f:Int}(h1:lo<=f)(h2:f<hi)(g:PF->PF):jz (A++M++B) f g=A++jz M f g++B:=by
 unfold jz;rw[h.get h1 h2];split
 ·rw[h.put (x:={g _ with id:=f}) h1 h2]
 rfl
def cN.len(h:cN lo hi A B M){f:Int}(h1:lo<=f)(h2:f<hi):gi (A++M++B) f=gi M f:=by
 unfold gi;rw[h.get h1 h2]
def cN.KO{M':List PF}(h:cN lo hi A B M)(hm:∀x∈M',lo<=x.id/\x.id<hi):cN lo hi A B M':=⟨h.a,hm,h.b⟩
def cN.bKa(h:cN lo hi A B M){f:Int}(h1:lo<=f)(h2:f<hi)(b:Φ):cN lo hi A B (jM M f b):=h.KO λx hx=>by
 rcases AV hx with rfl|hx
 ·exact⟨h1,h2⟩
 exact h.m x hx
def cN.X8(h:cN lo hi A B M){f:Int}(h1:lo<=f)(h2:f<hi)(g:PF->PF):cN lo hi A B (jz M f g):=h.KO λx hx=>by
 rcases FI hx with hx|⟨y,_,_,rfl⟩
 ·exact h.m x hx
 exact⟨h1,h2⟩
def cN.bKe(h:cN lo hi A B M)(f:Int):cN lo hi A B (jb PF.id M f):=h.KO λx hx=>h.m x (FH hx)
end
section
variable {lo hi:Int} {A B:List PF} {d:DS}
def UM(f:Int):may (b_ A B d) f=may d f:=rfl
def Jh(h:cN lo hi A B d.R){f:Int}(h1:lo<=f)(h2:f<hi):(b_ A B d).find f=d.find f:=by
 unfold DS.find;rw[UM,show (b_ A B d).R=A++d.R++B from rfl,h.is h1 h2]
def Fs(h:cN lo hi A B d.R){f:Int}(h1:lo<=f)(h2:f<hi)(b:Φ):(b_ A B d).append f b=(b_ A B (d.append f b).1,(d.append f b).2)/\cN lo hi A B (d.append f b).1.R:=by
 unfold DS.append;rw[UM];split
 ·exact⟨rfl,h⟩
 rw[show (b_ A B d).R=A++d.R++B from rfl,h.app h1 h2];exact⟨rfl,h.bKa h1 h2 b⟩
def Jj(h:cN lo hi A B d.R){f:Int}(h1:lo<=f)(h2:f<hi):(b_ A B d).sync f=(b_ A B (d.sync f).1,(d.sync f).2)/\cN lo hi A B (d.sync f).1.R:=by
 unfold DS.sync;rw[Jh h h1 h2];split
 ·exact⟨rfl,h⟩
 rw[show (b_ A B d).bG.off=d.bG.off from rfl];split
 ·exact⟨rfl,h⟩
 rw[show (b_ A B d).R=A++d.R++B from rfl,h.ri h1 h2];exact⟨rfl,h.X8 h1 h2 _⟩
theorem Fu(h:cN lo hi A B d.R){f:Int}(h1:lo<=f)(h2:f<hi)(n:Int):(b_ A B d).cut f n=(b_ A B (d.cut f n).1,(d.cut f n).2)/\cN lo hi A B (d.cut f n).1.R:=by
 unfold DS.cut;rw[Jh h h1 h2,show (b_ A B d).R=A++d.R++B from rfl,h.len h1 h2];split
 ·exact⟨rfl,h⟩
 split
 ·exact⟨rfl,h⟩
 rw[show (b_ A B d).bG.off=d.bG.off from rfl];split
 ·exact⟨rfl,h⟩
 rw[h.ri h1 h2];exact⟨rfl,h.X8 h1 h2 _⟩
def Ji(h:cN lo hi A B d.R){f:Int}(h1:lo<=f)(h2:f<hi):(b_ A B d).remove f=(b_ A B (d.remove f).1,(d.remove f).2)/\cN lo hi A B (d.remove f).1.R:=by
 unfold DS.remove;rw[Jh h h1 h2];split
 ·exact⟨rfl,h⟩
 rw[show (b_ A B d).bG.off=d.bG.off from rfl];split
 ·exact⟨rfl,h⟩
 rw[show (b_ A B d).R=A++d.R++B from rfl,h.del h1 h2];exact⟨rfl,h.bKe f⟩
structure mE(lo hi:Int)(g:bV):Prop where
 b0:lo<=g.base
 b1:g.base+4096<=hi
 bf:∀s∈g.bf,g.base<=s.file/\s.file<g.base+4096
 cC:∀x,g.cC=some x->g.base<=x.file/\x.file<g.base+4096
def Wi{g:bV}(h:mE lo hi g){off:Bool}{p:Φ}{x:gq}(hx:dE g off p= .ok x):g.base<=x.file/\x.file<g.base+4096:=by
 have hf:∀f,g.base<=f->mi g f p= .ok x->g.base<=x.file/\x.file<g.base+4096:=λf hb hf=>by
  grind [mi]
 unfold dE at hx;split at hx
 ·cases hx
 split at hx
 ·cases hx
 split at hx
 ·cases hx
 split at hx
 ·grind
 rename_i s hs;have hs:=h.bf s (wwl hs)
 grind
def VE{g:bV}(hg:mE lo hi g)(h:cN lo hi A B d.R):cw g (b_ A B d)=(((cw g d).1.1,b_ A B (cw g d).1.2),(cw g d).2)/\cN lo hi A B (cw g d).1.2.R/\mE lo hi (cw g d).1.1:=by
 unfold cw;cases ht:g.cC with
 | none=>exact⟨rfl,h,hg⟩
 | some x=>
  have hx:=hg.cC x ht;have h1:=hg.b0;have h2:=hg.b1;simp only;split
  ·obtain⟨e,hw⟩:=Ji h (f:=x.file) (by omega) (by omega);rw[e];refine⟨rfl,hw,hg.b0,hg.b1,hg.bf,λy hy=>?_⟩
   grind
  obtain⟨e,hw⟩:=Fu h (f:=x.file) (by omega) (by omega) x.nG;rw[e];refine⟨rfl,hw,hg.b0,hg.b1,hg.bf,λy hy=>?_⟩
  grind
def btr{L:List b6}{x:gq}{p:Φ}{P:Int->Prop}(hL:∀s∈L,P s.file)(hx:P x.file):∀s∈iU L x p,P s.file:=by
 unfold iU;have h1:∀s∈(if x.fresh=true then L++[⟨x.file,bH L+1,0,[]⟩] else L),P s.file:=by
  grind
 intro s hs;simp only at hs;rcases zz4.1 hs with hs|hs
 ·exact h1 s (List.dropLast_subset _ hs)
 grind
def Hc{g:bV}(hg:mE lo hi g)(h:cN lo hi A B d.R)(p:Φ):d_ g (b_ A B d) p=(((d_ g d p).1.1,b_ A B (d_ g d p).1.2),(d_ g d p).2)/\cN lo hi A B (d_ g d p).1.2.R/\mE lo hi (d_ g d p).1.1:=by
 unfold d_;rw[show (b_ A B d).off=d.off from rfl];cases hp:dE g d.off p with
 | error e=>exact⟨rfl,h,hg⟩
 | ok x=>
  have hx:=Wi hg hp;have h1:=hg.b0;have h2:=hg.b1;obtain⟨em,hm,vk⟩:=VE hg h;simp only;rw[em];simp only;split
  ·grind
  obtain⟨ea,ha⟩:=Fs hm (f:=x.file) (by omega) (by omega) x.b;rw[ea];simp only;split
  ·grind
  obtain⟨es,hs⟩:=Jj ha (f:=x.file) (by omega) (by omega);rw[es];simp only;split
  ·grind
  refine⟨rfl,hs,vk.b0,vk.b1,?_,vk.cC⟩;have vg:(cw g d).1.1.base=g.base:=(s9 g d).2.1;show ∀s∈iU (cw g d).1.1.bf x p,(cw g d).1.1.base<=s.file/\s.file<(cw g d).1.1.base+4096;exact btr (P:=λf=>(cw g d).1.1.base<=f/\f<(cw g d).1.1.base+4096) vk.bf (by rw[vg];exact hx)
def XG(n:Int):∀(L:List b6) (d:DS),(∀s∈L,lo<=s.file/\s.file<hi)->cN lo hi A B d.R->gm L (b_ A B d) n=(((gm L d n).1.1,b_ A B (gm L d n).1.2),(gm L d n).2)/\cN lo hi A B (gm L d n).1.2.R
 | [],d,_,h=>⟨rfl,h⟩
 | [s],d,_,h=>⟨rfl,h⟩
 | s::t::r,d,hL,h=>by
  unfold gm;obtain⟨e,hw⟩:=Ji h (hL s (.head _)).1 (hL s (.head _)).2;split
  ·rw[e];simp only;split
   ·grind
   exact XG n (t::r) _ (λs hs=>hL s (.tail _ hs)) hw
  exact⟨rfl,h⟩
def XC{g:bV}(hg:mE lo hi g)(h:cN lo hi A B d.R)(n:Int):gl g (b_ A B d) n=(((gl g d n).1.1,b_ A B (gl g d n).1.2),(gl g d n).2)/\cN lo hi A B (gl g d n).1.2.R/\mE lo hi (gl g d n).1.1:=by
 unfold gl;rw[show (b_ A B d).off=d.off from rfl];split
 ·grind
 have h1:=hg.b0;have h2:=hg.b1;obtain⟨e,hw⟩:=XG n g.bf d (λs hs=>by have:=hg.bf s hs;omega) h;rw[e];exact⟨rfl,hw,hg.b0,hg.b1,λs hs=>hg.bf s ((Ky n g.bf d).1 s hs),hg.cC⟩
def bk9{M:List PF}{base:Int}(h:cN base (base+4096) A B M):eS base (A++M++B)=eS base M:=by
 have eA:(A.map PF.id).filter (λf=>decide (base<=f/\f<base+4096))=[]:=uuc.2 λf hf=>by
  obtain⟨x,hx,rfl⟩:=zz5.1 hf;have:=h.a x hx;simp;omega
 have eB:(B.map PF.id).filter (λf=>decide (base<=f/\f<base+4096))=[]:=uuc.2 λf hf=>by
  obtain⟨x,hx,rfl⟩:=zz5.1 hf;have:=h.b x hx;simp;omega
 grind [eS]
def bnz{M:List PF}{L:List b6}{f:Int}{last:Bool}(h:cN lo hi A B M)(h1:lo<=f)(h2:f<hi):iu L (A++M++B) f last=iu L M f last:=by
 unfold iu;rw[h.get h1 h2]
def Vf{M:List PF}(h:cN lo hi A B M):∀(ids:Ω) (prev:Option Int) (L:List b6) (wh:Bool),(∀f∈ids,lo<=f/\f<hi)->kM (A++M++B) ids prev L wh=kM M ids prev L wh
 | [],_,_,_,_=>rfl
 | f::r,prev,L,wh,hi=>by
  unfold kM;rw[bnz h (hi f (.head _)).1 (hi f (.head _)).2];simp only;rw[Vf h r _ _ _ λf hf=>hi f (.tail _ hf)]
def UG{M:List PF}{base f:Int}(h:f∈eS base M):base<=f/\f<base+4096:=by
 grind [eS]
def aRm{L:List b6}{base:Int}{ids:Ω}{wh:Bool}(h:cN base (base+4096) A B d.R)(hi:∀f∈ids,base<=f/\f<base+4096):iQ L (b_ A B d) ids wh=(b_ A B (iQ L d ids wh).1,(iQ L d ids wh).2)/\cN base (base+4096) A B (iQ L d ids wh).1.R:=by
 unfold iQ;cases hl:ids.getLast? with
 | none=>exact⟨rfl,h⟩
 | some f=>
  obtain⟨h1,h2⟩:=hi f (wwl hl);simp only;split
  ·exact Ji h h1 h2
  rw[show (b_ A B d).R=A++d.R++B from rfl,h.len h1 h2]
  grind [Fu]
def AZ{base size:Int}(h:cN base (base+4096) A B d.R):dN (b_ A B d) base size=(b_ A B (dN d base size).1,(dN d base size).2)/\cN base (base+4096) A B (dN d base size).1.R:=by
 unfold dN;split
 ·exact⟨rfl,h⟩
 rw[show (b_ A B d).off=d.off from rfl,show (b_ A B d).R=A++d.R++B from rfl,bk9 h,Vf h _ _ _ _ λf hf=>UG hf];split
 ·exact⟨rfl,h⟩
 split
 ·exact⟨rfl,h⟩
 rename_i L wh _;obtain⟨e,hw⟩:=aRm (L:=L) (wh:=wh) h λf hf=>UG hf;rw[e]
 grind
end
def RH(A M B:List PF)(keep:Ω):dU (A++M++B) keep=dU A keep++dU M (keep.drop A.length)++dU B (keep.drop (A.length+M.length)):=by
 have hm:∀(L:List PF) (k:Nat),(L.mapIdx λi=>iA keep (i+k))=dU L (keep.drop k):=λL k=>by
  unfold dU;congr 1
  grind [iA,jd]
 grind [dU]
theorem RJ(R:List PF)(keep:Ω):(dU R keep).map PF.id=R.map PF.id:=by
 unfold dU;refine xx2 (by simp) λi h1 h2=>?_;rw[xx9,List.getElem_mapIdx,xx9];rfl
def Dd{R:List PF}{keep:Ω}{y:PF}(h:y∈dU R keep):∃x∈R,x.id=y.id:=by
 have h1:y.id∈(dU R keep).map PF.id:=vvx h
 grind [RJ]
def cN.dB{lo hi:Int}{A B M:List PF}(h:cN lo hi A B M)(keep k2 k3:Ω):cN lo hi (dU A keep) (dU B k3) (dU M k2):=
 ⟨λx hx=>by obtain⟨y,hy,e⟩:=Dd hx;rw[<- e];exact h.a y hy,λx hx=>by obtain⟨y,hy,e⟩:=Dd hx;rw[<- e];exact h.m y hy,λx hx=>by obtain⟨y,hy,e⟩:=Dd hx;rw[<- e];exact h.b y hy⟩
def eO(n:Nat)(l:List bD):gY:=(List.range n).map λt:Nat=>wB (t:Int) l
def po(n:Nat)(l:List bD):(eO n l).length=n:=by unfold eO;simp
def Xv{n:Nat}(l:List bD)(t:Nat)(h:t<n):iG (eO n l) t=wB (t:Int) l:=by
 rw[nS _ t (by rw[po];exact h)];unfold eO;simp
def bAi{ts:gY}{c:da}(h:gu ts.length c=true)(t:Nat)(ht:t<ts.length):iG (jB ts c) t=uQ t (iG ts t) c:=by
 have hc:0<=c.table/\c.table<(ts.length:Int):=zzt h;rw[nS _ t (by rw[v_];exact ht)];unfold jB uQ;rw[xx8];by_cases e:c.table=t
 ·rw[zzc (by omega),zzc e,e];rfl
 rw[zzb (by omega),zzb e,nS ts t ht]
def Xt:∀{l:List da} {ts:gY},(∀c∈l,gu ts.length c=true)->∀t:Nat,t<ts.length->iG (eZ ts l) t=l.foldl (uQ t) (iG ts t)
 | [],ts,_,t,_=>rfl
 | c::l,ts,h,t,ht=>by
  show iG (eZ (jB ts c) l) t=_;rw[Xt (λx hx=>by rw[v_];exact h x (.tail _ hx)) t (by rw[v_];exact ht),bAi (h c (.head _)) t ht];rfl
def bAn{a b:gY}(hl:a.length=b.length)(h:∀t:Nat,t<a.length->iG a t=iG b t):a=b:=
 xx2 hl λt h1 h2=>by have:=h t h1;rw[nS a t h1,nS b t h2]at this;exact this
def Gi{n:Nat}{l:List bD}{t:bD}(h:∀c∈t.changes,gu n c=true):eZ (eO n l) t.changes=eO n (l++[t]):=by
 have hl:=po n l;have h':∀c∈t.changes,gu (eO n l).length c=true:=λc hc=>by rw[hl];exact h c hc
 refine bAn (by rw[tw,po,po]) λi hi=>?_;rw[tw,hl]at hi
 rw[Xt h' i (by rw[hl];exact hi),Xv l i hi,Xv _ i hi];unfold wB;simp
theorem Ku(n:Nat):eO n []=List.replicate n []:=by
 unfold eO wB;refine xx2 (by simp) λi h1 h2=>by simp
structure sD(n:Nat)(all:List bD):Prop where
 may:∀t∈all,c_ t=true
 aw:∀i (h:i<all.length),all[i].aw=(i:Int)+1
 ch:∀t∈all,∀c∈t.changes,gu n c=true
def Rk{t:bD}(h:c_ t=true):jO (fC t)= .ok t:=Rl h
def WB{n:Nat}{all:List bD}(h:sD n all)(m:Nat):∀(k j:Nat),j+k=all.length->nP n m ((all.drop j).map fC) ((j:Int)+1) (eO n (all.take (max j m)))=some (eO n (all.take (max all.length m)))
 | 0,j,hj=>by
  rw[xxb (by omega),show j=all.length by omega];rfl
 | k+1,j,hj=>by
  have hl:j<all.length:=by omega
  have ih:=WB h m k (j+1) (by omega);have hm:=h.may _ (zzk hl);have lq:=h.ch _ (zzk hl);rw[yyn hl,zzp,nP,Rk hm];simp only;rw[zzc ⟨h.aw j hl,λc hc=>(zzt (lq c hc)).2⟩];have e:(if (m:Int)<(j:Int)+1 then eZ (eO n (all.take (max j m))) all[j].changes else eO n (all.take (max j m)))=eO n (all.take (max (j+1) m)):=by
   split
   ·rw[show max j m=j by omega,show max (j+1) m=j+1 by omega,Gi lq,zze hl]
   rw[show max j m=m by omega,show max (j+1) m=m by omega]
  rw[e,show (j:Int)+1+1=((j+1:Nat):Int)+1 by omega];exact ih
def Xw{n:Nat}:∀(k:Nat) (l:List bD),l.length=k->(∀t∈l,c_ t=true)->(∀t∈l,∀c∈t.changes,gu n c=true)->(∀C∈eO n l,mJ C)
 | 0,l,hl,_,_=>by
  rw[zzl hl,Ku];intro C hC;rw[vvf hC];exact WE
 | k+1,l,hl,h1,h2=>by
  have cY:l≠[]:=λe=>by rw[e]at hl;cases hl
  obtain⟨l',t,rfl⟩:∃l' t,l=l'++[t]:=⟨l.dropLast,l.getLast cY,(List.dropLast_concat_getLast cY).symm⟩;have lq:=h2 t (by simp);rw[zza,yyb]at hl
  rw[<- Gi lq];exact Hd (k:=8) (Xw k l' (by omega) (λx hx=>h1 x (by simp[hx])) λx hx=>h2 x (by simp[hx])) (λc hc=>(kr (h1 t (by simp))).2.2.2.2.2.1 c hc) λc hc=>by rw[po];exact lq c hc
def Kv{n:Nat}{l:List bD}(h1:∀t∈l,c_ t=true)(h2:∀t∈l,∀c∈t.changes,gu n c=true):∀C∈eO n l,mJ C:=Xw l.length l rfl h1 h2
def XH(k:Int):∀(L:List b6) (f n:Int) (d:DS),fQ f n L->d.R=L.map dy->d.off=false->0<=d.arm->0<=f->f+L.length<=16384 ->
  ∃d' i e,gm L d k=((L.drop i,d'),e)/\(i<L.length\/i=0)/\d'.R=(L.drop i).map dy/\(i=0\/n+(bR (L.take i)).length<=k+1)/\d'.ops<=d.ops+L.length/\0<=d'.arm/\d'.arm<=d.arm /\
   ((e=0/\d'.off=false/\(d.arm=0->d'.arm=0))\/(e=8/\d'.off=true/\d.arm≠0))
 | [],f,n,d,_,hR,ho,ha,_,_=>⟨d,0,0,rfl,.inr rfl,hR,.inl rfl,by simp,ha,yyj _,.inl ⟨rfl,ho,λh=>h⟩⟩
 | [s],f,n,d,_,hR,ho,ha,_,_=>⟨d,0,0,rfl,.inr rfl,hR,.inl rfl,by simp,ha,yyj _,.inl ⟨rfl,ho,λh=>h⟩⟩
 | s::t::L,f,n,d,hc,hR,ho,ha,h0,h1=>by
  have xa:=hc.sG.sorted;obtain⟨c1,c2,c3,c4,c5,c6⟩:=hc;rw[gm];by_cases hk:s.next-1<=k
  ·rw[zzc hk];have tU:d.find s.file=0:=by
    unfold DS.find;have hm:may d s.file=0:=by
     grind [may]
    rw[zzb (by simp[hm]),hR,zzc];exact (xf xa).2 ⟨dy s,by simp,rfl⟩
   by_cases Et:d.arm=1
   ·have CR:d.remove s.file=(d.bG,8):=by
     grind [DS.remove,DS.bG]
    rw[CR];exact⟨d.bG,0,8,by rw[zzc (by simp)];rfl,.inr rfl,hR,.inl rfl,by simp only[DS.bG,zzi];omega,by simp[DS.bG,Et],by simp[DS.bG,Et],.inr ⟨rfl,by simp[DS.bG,Et],by omega⟩⟩
   have CR:d.remove s.file=({d.bG with R:=(t::L).map dy},0):=by
    grind [DS.remove,DS.bG,dy,bch]
   rw[CR];have Tk:0<=d.bG.arm/\d.bG.arm<=d.arm:=by
    grind [DS.bG]
   obtain⟨d',i,e,r1,r2,r3,r6,r7,r8,Ka,r9⟩:=XH k (t::L) (f+1) (n+s.l.length) {d.bG with R:=(t::L).map dy} c6 rfl (by simp[DS.bG,Et]) Tk.1 (by omega) (by simp at h1 ⊢;omega);refine⟨d',i+1,e,by rw[zzb (by simp)];exact r1,?_,r3,.inr ?_,?_,r8,Int.le_trans Ka Tk.2,?_⟩
   ·grind
   ·grind [b6.next,bR]
   ·grind [DS.bG]
   grind
  rw[zzb hk];exact⟨d,0,0,rfl,.inr rfl,hR,.inl rfl,by omega,ha,yyj _,.inl ⟨rfl,ho,λh=>h⟩⟩
structure Laid(g:bV)(d:DS)(f n:Int)(es:List Φ):Prop where
 chain:fQ f n g.bf
 fG:bR g.bf=es
 files:d.R=g.bf.map dy
 nil:g.bf=[]->f=g.base/\n=1
 base:g.base<=f
 b0:0<=g.base
 b1:g.base<=12288
 s0:64<=g.size
 s1:g.size<=65536
 n1:1<=n
 fi:f+es.length+2<=g.base+4096
 cC:g.cC=none
def fJ.laid{g:bV}{d:DS}{f n:Int}{es:List Φ}(h:fJ g d f n es):Laid g d f n es:=⟨h.chain,h.fG,h.files,h.nil,h.base,h.b0,h.b1,h.s0,h.s1,h.n1,h.fi,h.cC⟩
def Laid.inv{g:bV}{d:DS}{f n:Int}{es:List Φ}(h:Laid g d f n es)(ho:d.off=false):fJ g d f n es:=⟨h.chain,h.fG,h.files,h.nil,h.base,h.b0,h.b1,h.s0,h.s1,h.n1,h.fi,ho,h.cC⟩
def Laid.sw{g:bV}{d d':DS}{f n:Int}{es:List Φ}(h:Laid g d f n es)(hR:d'.R=d.R):Laid g d' f n es:=⟨h.chain,h.fG,hR.trans h.files,h.nil,h.base,h.b0,h.b1,h.s0,h.s1,h.n1,h.fi,h.cC⟩
def bBp{g:bV}{d:DS}{f n:Int}{es:List Φ}(h:fJ g d f n es)(ha:0<=d.arm)(k:Int)(Ar:f+es.length+1<=16384):
  ∃(g':bV) (d':DS) (f':Int) (i:Nat) (e:Int),gl g d k=((g',d'),e)/\Laid g' d' f' (n+i) (es.drop i)/\i<=es.length/\(g.bf≠[]->g'.bf≠[])/\(∀s∈g'.bf,s∈g.bf)/\(i=0\/n+i<=k+1)/\d'.ops<=d.ops+g.bf.length/\g'.base=g.base/\g'.size=g.size/\f<=f'/\f'<=f+i/\0<=d'.arm/\d'.arm<=d.arm /\
   ((e=0/\d'.off=false/\(d.arm=0->d'.arm=0))\/(e=8/\d'.off=true/\d.arm≠0)):=by
 have hle:=h.chain.sa;rw[h.fG]at hle
 have hb:=h.base;have sV:=h.b0;obtain⟨d',i,e,r1,r2,r3,r6,r7,r8,Ka,r9⟩:=XH k g.bf f n d h.chain h.files h.off ha (by omega) (by omega);have EJ:=h.chain;rw[<- yyf i g.bf]at EJ
 obtain⟨k1,k2,k3⟩:=fQ.app.1 EJ;have TB:bR (g.bf.take i)++bR (g.bf.drop i)=es:=by rw[<- Ae,yyf,h.fG]
 have vj:(bR (g.bf.take i)).length+(bR (g.bf.drop i)).length=es.length:=by rw[<- TB,zza]
 have bn:(g.bf.take i).length=i:=by
  grind
 have cY:g.bf≠[]->g.bf.drop i≠[]:=λhn e=>by
  grind
 have hi:i<=(bR (g.bf.take i)).length:=by
  by_cases hd:g.bf.drop i=[]
  ·grind
  have hA:=k2 hd;have gen:∀A:List b6,(∀s∈A,s.l≠[])->A.length<=(bR A).length:=by
   intro A;induction A with
   | nil=>intro _;simp
   | cons a A ih=>
    intro hA;have h0:a.l.length≠0:=λe=>hA a (.head _) (zzl e)
    grind [pH]
  grind
 have bhu:es.drop (bR (g.bf.take i)).length=bR (g.bf.drop i):=by rw[<- TB,wwv]
 refine⟨{g with bf:=g.bf.drop i},d',f+(g.bf.take i).length,(bR (g.bf.take i)).length,e,?_,⟨k3,bhu.symm,r3,λe=>?_,by show g.base<=_;omega,h.b0,h.b1,h.s0,h.s1,by have:=h.n1;omega,?_,h.cC⟩,by omega,cY,λs hs=>uui hs,?_,r7,rfl,rfl,by omega,by rw[bn];omega,r8,Ka,r9⟩
 ·unfold gl;rw[zzb (by simp[h.off]),r1]
 ·have:g.bf=[]:=Classical.byContradiction λhn=>cY hn e;have h2:=h.nil this
  grind [bR]
 ·have:=h.fi
  grind
 grind [bR]
def Laid.open{g:bV}{d:DS}{f n:Int}{es:List Φ}(h:Laid g d f n es)(keep:Ω)(n2:n+es.length<=1099511627776){size:Int}(s0:64<=size)(s1:size<=65536):
  dN (d.dB keep) g.base size=(d.dB keep,.ok ⟨g.bf,g.base,size,none⟩)/\fJ ⟨g.bf,g.base,size,none⟩ (d.dB keep) f n es:=by
 have hR:(d.dB keep).R=g.bf.map dy:=by
  show dU d.R keep=_;rw[h.files,RI]
 have hle:=h.chain.sa;rw[h.fG]at hle
 have tT:=h.fi;exact⟨JW h.chain hR rfl h.b0 h.b1 s0 s1 h.base (by omega) h.n1 (by rw[h.fG];exact n2),h.chain,h.fG,hR,h.nil,h.base,h.b0,h.b1,s0,s1,h.n1,h.fi,rfl,rfl⟩
structure kZ(R R':List PF)(x:PF):Prop where
 sorted:eJ PF.id R'
 xg:x∈R'
 other:∀y,y.id≠x.id->(y∈R'↔y∈R)
def bo2(R:List PF)(x:PF):x∈fm PF.id R x:=by unfold fm;simp
def Xf{R:List PF}(hs:eJ PF.id R){x y:PF}(hx:x∈R)(hy:y∈R)(e:x.id=y.id):x=y:=by
 have h1:=sO hs hx;have h2:=sO hs hy
 grind
def kZ.put{R:List PF}(hs:eJ PF.id R)(x:PF):kZ R (fm PF.id R x) x:=by
 refine⟨FX hs x,bo2 R x,λy hy=>⟨λh=>?_,λh=>?_⟩⟩
 ·grind [AV]
 cases hi:ic PF.id R x.id with
 | false=>exact (J9 hs hi).mem_iff.2 (.tail _ h)
 | true=>
  obtain⟨hl,hk⟩:=s6 hi;rw[FW hi];obtain⟨j,hj,rfl⟩:=yyh h;have cY:eE PF.id R x.id≠j:=λe=>by subst e;exact hy hk
  have:(R.set (eE PF.id R x.id) x)[j]'(by simpa using hj)=R[j]:=List.getElem_set_ne cY _
  grind
def kZ.trans{R R1 R2:List PF}{x y:PF}(h1:kZ R R1 x)(h2:kZ R1 R2 y)(e:x.id=y.id):kZ R R2 y:=
 ⟨h2.sorted,h2.xg,λz hz=>(h2.other z hz).trans (h1.other z (by rw[e];exact hz))⟩
def kZ.mem{R R':List PF}{x y:PF}(h:kZ R R' x)(hy:y∈R'):y=x\/(y∈R/\y.id≠x.id):=by
 by_cases e:y.id=x.id
 ·exact .inl (Xf h.sorted hy h.xg e)
 exact .inr ⟨(h.other y e).1 hy,e⟩
theorem XM{R:List PF}{f:Int}{x:PF}(h:cP PF.id R f=some x)(g:PF->PF):jz R f g=fm PF.id R {g x with id:=f}:=by
 grind [jz]
theorem Vv{d:DS}{f:Int}(f0:0<=f)(f1:f<16384)(h:d.off=false):may d f=0:=by
 grind [may]
def aW4(d:DS)(h:0<=d.arm):0<=d.bG.arm/\d.bG.arm<=d.arm/\d.bG.ops=d.ops+1:=by
 grind [DS.bG]
def SE{d:DS}{f:Int}(hs:eJ PF.id d.R)(f0:0<=f)(f1:f<16384)(h:d.off=false){x:PF}(hx:x∈d.R)(e:x.id=f):d.find f=0:=by
 grind [DS.find,Vv,xf]
theorem bcr{d:DS}{f:Int}{b:Φ}(h:gi d.R f<0):jq d f b=if (d.append f b).2≠0 then d.append f b else (d.append f b).1.sync f:=by
 grind [jq]
def bcq{d:DS}{f:Int}{b:Φ}(h:0<=gi d.R f):jq d f b=if (d.cut f 0).2≠0 then d.cut f 0 else if ((d.cut f 0).1.append f b).2≠0 then (d.cut f 0).1.append f b else ((d.cut f 0).1.append f b).1.sync f:=by
 grind [jq]
def bcp{d:DS}(hs:eJ PF.id d.R){f:Int}(f0:0<=f)(f1:f<16384)(ho:d.off=false)(ha:0<=d.arm)(b:Φ):
  (∃d',jq d f b=(d',0)/\kZ d.R d'.R ⟨f,b.length,b⟩/\d'.off=false/\0<=d'.arm/\d'.arm<=d.arm/\d'.ops<=d.ops+3) \/
  (∃d',jq d f b=(d',8)/\d'.off=true/\d.arm≠0/\0<=d'.arm/\d'.arm<=d.arm/\d'.ops<=d.ops+3/\(d'.R=d.R\/∃pre,(pre=[]\/pre=b)/\kZ d.R d'.R ⟨f,0,pre⟩)):=by
 have lP:∀{d:DS},d.off=false->may d f=0:=λ{d} h=>Vv f0 f1 h;have rP:∀d:DS,0<=d.arm->0<=d.bG.arm/\d.bG.arm<=d.arm/\d.bG.ops=d.ops+1:=aW4;have jF:∀d:DS,d.bG.off=true->d.arm=1:=λd h=>by simpa [DS.bG] using h
 have iT:∀(d1:DS),eJ PF.id d1.R->d1.off=false->0<=d1.arm->(cP PF.id d1.R f=none\/cP PF.id d1.R f=some ⟨f,0,[]⟩) ->
   (∃d',(if (d1.append f b).2≠0 then d1.append f b else (d1.append f b).1.sync f)=(d',0)/\kZ d1.R d'.R ⟨f,b.length,b⟩/\d'.off=false/\0<=d'.arm/\d'.arm<=d1.arm/\d'.ops<=d1.ops+2) \/
   (∃d',(if (d1.append f b).2≠0 then d1.append f b else (d1.append f b).1.sync f)=(d',8)/\d'.off=true/\d1.arm≠0/\0<=d'.arm/\d'.arm<=d1.arm/\d'.ops<=d1.ops+2/\kZ d1.R d'.R ⟨f,0,b⟩):=by
  intro d1 w_ CJ lM hg;obtain⟨c1,c2,c3⟩:=rP d1 lM;have vf:jM d1.R f b=fm PF.id d1.R ⟨f,0,b⟩:=by
   unfold jM;rcases hg with hg|hg<;>rw[hg]<;>rfl
  have e1:d1.append f b=({d1.bG with R:=fm PF.id d1.R ⟨f,0,b⟩},d1.bG.err):=by
   grind [DS.append]
  have hS:=kZ.put w_ ⟨f,0,b⟩;rw[e1];cases hc:d1.bG.off with
  | true=>
   grind [DS.err]
  | false=>
   have he:d1.bG.err=0:=by simp[DS.err,hc]
   rw[he,zzb (by simp)];obtain⟨k1,k2,k3⟩:=rP d1.bG c1;have rR:cP PF.id (fm PF.id d1.R ⟨f,0,b⟩) f=some ⟨f,0,b⟩:=sO hS.sorted hS.xg;have tU:({d1.bG with R:=fm PF.id d1.R ⟨f,0,b⟩}:DS).find f=0:=SE (d:={d1.bG with R:=fm PF.id d1.R ⟨f,0,b⟩}) hS.sorted f0 f1 hc hS.xg rfl;have Io:({d1.bG with R:=fm PF.id d1.R ⟨f,0,b⟩}:DS).bG={d1.bG.bG with R:=fm PF.id d1.R ⟨f,0,b⟩}:=rfl;unfold DS.sync;rw[zzb (by rw[tU];simp),Io];cases ll:d1.bG.bG.off with
   | true=>
    grind
   | false=>
    left;refine⟨{d1.bG.bG with R:=fm PF.id (fm PF.id d1.R ⟨f,0,b⟩) ⟨f,b.length,b⟩},by simp[ll,XM rR],?_,ll,k1,Int.le_trans k2 c2,by show d1.bG.bG.ops<=_;omega⟩;exact hS.trans (kZ.put hS.sorted ⟨f,b.length,b⟩) rfl
 cases hg:cP PF.id d.R f with
 | none=>
  grind [gi,bcr]
 | some x=>
  have hx:=tM hg;have hl:gi d.R f=(x.b.length:Int):=by unfold gi;rw[hg]
  obtain⟨c1,c2,c3⟩:=rP d ha;have tU:d.find f=0:=SE hs f0 f1 ho hx.1 hx.2;rw[bcq (by omega)];have Ir:d.cut f 0=if d.bG.off=true then (d.bG,8) else ({d.bG with R:=jz d.R f (iB (0:Int).toNat)},0):=by
   grind [DS.cut]
  rw[Ir];cases hc:d.bG.off with
  | true=>
   right;have:=jF d hc;exact⟨d.bG,by simp,hc,by omega,c1,c2,by omega,.inl rfl⟩
  | false=>
   have hu:jz d.R f (iB (0:Int).toNat)=fm PF.id d.R ⟨f,0,[]⟩:=by
    grind [XM,iB]
   have hS:=kZ.put hs ⟨f,0,[]⟩;have rR:cP PF.id (fm PF.id d.R ⟨f,0,[]⟩) f=some ⟨f,0,[]⟩:=sO hS.sorted hS.xg;rw[hu,zzb (show ¬(false=true) by decide)];generalize pN:({d.bG with R:=fm PF.id d.R ⟨f,0,[]⟩}:DS)=d1;rw[zzb (show ¬((0:Int)≠0) by decide)];have jt:d1.R=fm PF.id d.R ⟨f,0,[]⟩:=by rw[<- pN]
   have CJ:d1.off=false:=by rw[<- pN];exact hc
   have lM:d1.arm=d.bG.arm:=by rw[<- pN]
   have mV:d1.ops=d.bG.ops:=by rw[<- pN]
   rcases iT d1 (by rw[jt];exact hS.sorted) CJ (by omega) (.inr (by rw[jt];exact rR)) with ⟨d',e,h1,h2,h3,h4,h5⟩|⟨d',e,h1,h2,h3,h4,h5,h6⟩
   ·rw[jt]at h1
    exact .inl ⟨d',e,hS.trans h1 rfl,h2,h3,by omega,by omega⟩
   rw[jt]at h6
   refine .inr ⟨d',e,h1,λea=>h2 ?_,h3,by omega,by omega,.inr ⟨b,.inr rfl,hS.trans h6 rfl⟩⟩
   grind
def aRl(n:Nat)(x:PF):Prop:=∀y,jN x.b=some y->y.2.length≠n
structure lC(n:Nat)(all:List bD)(I:List PF)(db:Int)(m:Nat):Prop where
 sorted:eJ PF.id I
 ids:∀x∈I,x.id=0\/x.id=1
 safe:∀x∈I,x.safe=x.b.length
 none_:db = -1->m=0
 new:db = -1\/db=0\/db=1
 le:m<=all.length
 some_:db≠-1->∃x∈I,x.id=db/\x.b=bY (iC m (eO n (all.take m)))
 other:∀x∈I,x.id≠db->aRl n x\/∃y,jN x.b=some y/\y.1<m/\db≠-1
def bmg{R:List PF}(hs:eJ PF.id R){n:Nat}{f:Int}:ib R n f=none\/∃x∈R,x.id=f/\∃y,jN x.b=some y/\y.2.length=n/\ib R n f=some y:=by
 grind [ib,tM]
def bmh{R:List PF}(hs:eJ PF.id R){n:Nat}{x:PF}(hx:x∈R){y:Int × gY}(hd:jN x.b=some y)(hl:y.2.length=n):ib R n x.id=some y:=by
 unfold ib;rw[sO hs hx]
 grind
def lC.load{n:Nat}{all:List bD}{I:List PF}{db:Int}{m:Nat}(h:lC n all I db m)(hm:∀j,j<=all.length->iw j (eO n (all.take j))=true):kq I n=(db,(m:Int),eO n (all.take m)):=by
 have hn:db≠-1->ib I n db=some ((m:Int),eO n (all.take m)):=λcY=>by
  obtain⟨x,hx,hf,hb⟩:=h.some_ cY;rw[<- hf];exact bmh h.sorted hx (by rw[hb];exact RT (hm m h.le)) (po _ _)
 have ho:∀f,f≠db->ib I n f=none\/∃y,ib I n f=some y/\y.1<m/\db≠-1:=λf hf=>by
  rcases bmg h.sorted (n:=n) (f:=f) with e|⟨x,hx,AM,y,h1,h2,h3⟩
  ·exact .inl e
  rcases h.other x hx (by rw[AM];exact hf) with hb|⟨z,hz,h4,h5⟩
  ·exact absurd h2 (hb y h1)
  grind
 unfold kq;rcases h.new with e|e|e
 ·have hm0:=h.none_ e
  grind [gL,Ku]
 ·grind [gL]
 grind [gL]
def lC.drawn{n:Nat}{all:List bD}{I I':List PF}{db:Int}{m:Nat}(h:lC n all I db m)(hm:∀j,j<=all.length->iw j (eO n (all.take j))=true)(b9:m<all.length){f:Int}(hf:f=if db=0 then 1 else 0){x:PF}(hx:x.id=f)(hs:x.safe=x.b.length)
  (hb:x.b=bY (iC all.length (eO n all))) (hI:kZ I I' x):lC n all I' f all.length:=by
 have ER:f=0\/f=1:=by rw[hf];split<;>simp
 have ET:f≠db:=by
  grind
 have cY:f≠-1:=by omega
 refine⟨hI.sorted,λy hy=>?_,λy hy=>?_,λe=>absurd e cY,.inr ER,zzj _,λ_=>⟨x,hI.xg,hx,by rw[zz0];exact hb⟩,λy hy hyf=>?_⟩
 ·rcases hI.mem hy with rfl|⟨hy,_⟩
  ·omega
  exact h.ids y hy
 ·rcases hI.mem hy with rfl|⟨hy,_⟩
  ·exact hs
  exact h.safe y hy
 rcases hI.mem hy with rfl|⟨hy,_⟩
 ·grind
 by_cases e:y.id=db
 ·have pT:db≠-1:=λe1=>by rcases h.ids y hy with h2|h2<;>omega
  obtain⟨z,hz,Fl,UC⟩:=h.some_ pT;have:y=z:=Xf h.sorted hy hz (by rw[e,Fl])
  grind [RT]
 rcases h.other y hy e with o0|⟨z,h1,h2,h3⟩
 ·exact .inl o0
 grind
theorem a_z{p:Φ}(hp:p.length<=1048576){k:Nat}(hk:k<(bY p).length):jN ((bY p).take k)=none:=by
 rw[jX]at hk
 grind [Xx,jN]
def RM{I:List PF}(h:∀x∈I,x.safe=x.b.length)(keep:Ω):dU I keep=I:=by
 have:=Hr I [] keep h;simpa using this
def bo0{R:List PF}{keep:Ω}{y:PF}(h:y∈dU R keep):∃i,∃x∈R,y=iA keep i x:=by
 grind [dU]
def RL{R:List PF}{keep:Ω}{x:PF}(h:x∈R):∃i,iA keep i x∈dU R keep:=by
 obtain⟨i,hi,rfl⟩:=yyh h;refine⟨i,?_⟩
 grind [dU]
def RE{keep:Ω}{i:Nat}{x:PF}(h:x.safe=x.b.length):iA keep i x=x:=by
 have h1:=BX (keep:=keep) (i:=i) (x:=x) (by omega);have h2:=D' (keep:=keep) (i:=i) (x:=x) (by omega);have h3:=xq (keep:=keep) (i:=i) (x:=x) (by omega);have h4:jd keep i x=0:=by omega
 unfold iA;rw[h4,xxy,h,zz0,Nat.min_self,<- h]
def bzt{R:List PF}(h:eJ PF.id R)(keep:Ω):eJ PF.id (dU R keep):=by
 have h1:(R.map PF.id).Pairwise (· < ·):=vvq.2 h;rw[<- RJ R keep]at h1
 exact vvq.1 h1
def lC.dB{n:Nat}{all:List bD}{I I':List PF}{db:Int}{m:Nat}(h:lC n all I db m)(hm:∀j,j<=all.length->iw j (eO n (all.take j))=true)(b9:m<all.length)(keep:Ω)
  (hI:I'=I\/∃pre,(pre=[]\/pre=bY (iC all.length (eO n all)))/\kZ I I' ⟨if db=0 then 1 else 0,0,pre⟩):∃bqm m',lC n all (dU I' keep) bqm m'/\m<=m':=by
 rcases hI with rfl|⟨pre,pU,hI⟩
 ·exact⟨db,m,by rw[RM h.safe];exact h,zzj _⟩
 obtain⟨i,hi⟩:=RL (keep:=keep) hI.xg;generalize hx:iA keep i ⟨if db=0 then 1 else 0,0,pre⟩=x at hi;have Jc:x.id=if db=0 then 1 else 0:=by rw[<- hx];rfl
 have lQ:x.b.length=0+jd keep i ⟨if db=0 then 1 else 0,0,pre⟩:=by rw[<- hx];exact BX (x:=⟨_,0,pre⟩) (zz6 _)
 have nK:x.safe=0+jd keep i ⟨if db=0 then 1 else 0,0,pre⟩:=by rw[<- hx];exact D' (x:=⟨_,0,pre⟩) (zz6 _)
 have Fk:x.safe=x.b.length:=by omega
 have hxb:x.b=pre.take (0+jd keep i ⟨if db=0 then 1 else 0,0,pre⟩):=by rw[<- hx];rfl
 have AG:kZ I (dU I' keep) x:=by
  refine⟨bzt hI.sorted keep,hi,λy hy=>⟨λhc=>?_,λhc=>?_⟩⟩
  ·obtain⟨j,z,hz,e⟩:=bo0 hc;have bk3:z.id=y.id:=by rw[e];rfl
   have hzI:=(hI.other z (by rw[bk3,<- Jc];exact hy)).1 hz;rw[RE (h.safe z hzI)]at e
   grind
  have hyI:=(hI.other y (by rw[<- Jc];exact hy)).2 hc;obtain⟨j,hj⟩:=RL (keep:=keep) hyI;rw[RE (h.safe y hc)]at hj
  exact hj
 by_cases hw:x.b=bY (iC all.length (eO n all))
 ·exact⟨_,_,h.drawn hm b9 rfl Jc Fk hw AG,by omega⟩
 have bhs:jN x.b=none:=by
  have TZ:=hm all.length (zzj _);rw[zz0]at TZ
  have hlen:=AQ TZ;rcases pU with e|e
  ·rw[hxb,e,List.take_nil];rfl
  grind [a_z]
 refine⟨db,m,⟨AG.sorted,λy hy=>?_,λy hy=>?_,h.none_,h.new,h.le,λcY=>?_,λy hy AO=>?_⟩,zzj _⟩
 ·rcases AG.mem hy with rfl|⟨hy,_⟩
  ·grind
  exact h.ids y hy
 ·rcases AG.mem hy with rfl|⟨hy,_⟩
  ·exact Fk
  exact h.safe y hy
 ·obtain⟨z,hz,Fl,UC⟩:=h.some_ cY;refine⟨z,(AG.other z ?_).2 hz,Fl,UC⟩
  grind
 rcases AG.mem hy with rfl|⟨hy,_⟩
 ·exact .inl λy h1=>by rw[bhs]at h1;cases h1
 exact h.other y hy AO
def xH(n:Nat)(all:List bD):Prop:=∀j,j<=all.length->iw j (eO n (all.take j))=true
structure ik(n:Nat)(k:bQ)(all:List bD)(tr:Nat)(I:List PF)(d0:DS)(f:Int)(lo m:Nat):Prop where
 pE:k.d=b_ I [] d0
 bz:cN 16 4112 I [] d0.R
 log:Laid k.g d0 f ((lo:Int)+1) ((all.drop lo).map fC)
 base:k.g.base=16
 jS:lC n all I k.db m
 image:k.image=m
 uo:lo<=m
 se:lo<=tr
 ts:k.ts=eO n all
 file:f<=16+lo
def lC.mono{n:Nat}{all:List bD}{I:List PF}{db:Int}{m:Nat}(h:lC n all I db m)(l:List bD):lC n (all++l) I db m:=
 ⟨h.sorted,h.ids,h.safe,h.none_,h.new,by have:=h.le;rw[zza];omega,λhn=>by rw[yy4 h.le];exact h.some_ hn,h.other⟩
def bn1{I M:List PF}(hI:∀x∈I,x.id=0\/x.id=1)(hM:∀x∈M,16<=x.id)(n:Nat):kq (I++M++[]) n=kq I n:=by
 have hw:cN 0 16 [] M I:=⟨by simp,λx hx=>by rcases hI x hx with h|h<;>omega,hM⟩;have hg:∀f:Int,0<=f->f<16->ib (I++M++[]) n f=ib I n f:=λf h0 h1=>by
  unfold ib;have:=hw.get h0 h1
  grind
 grind [kq,gL]
theorem bwf{n:Nat}{all:List bD}(h:sD n all){lo m:Nat}(h1:lo<=m)(h2:m<=all.length):nP n m ((all.drop lo).map fC) ((lo:Int)+1) (eO n (all.take m))=some (eO n all):=by
 have:=WB h m (all.length-lo) lo (by omega)
 grind
def V_{n:Nat}(n1:1<=n)(n8:n<=8){all:List bD}(ht:sD n all)(hi:xH n all){I:List PF}{d1 d2:DS}{g:bV}{size:Int}(ho:dN d1 16 size=(d2,.ok g))(hw:cN 16 4112 I [] d1.R){f db:Int}{lo m tr:Nat}
  (hl:fJ g d2 f ((lo:Int)+1) ((all.drop lo).map fC)) (hb:g.base=16) (lr:lC n all I db m) (Aw:lo<=m) (b9:lo<=tr) (hf:f<=16+lo) :
  kx (b_ I [] d1) n size=(b_ I [] d2,.ok ⟨g,b_ I [] d2,eO n all,db,m⟩)/\ik n ⟨g,b_ I [] d2,eO n all,db,m⟩ all tr I d2 f lo m:=by
 obtain⟨e,C2⟩:=AZ (base:=16) (size:=size) (A:=I) (B:=[]) (d:=d1) hw;rw[ho]at e C2
 have vo:kq (b_ I [] d2).R n=(db,(m:Int),eO n (all.take m)):=by
  show kq (I++d2.R++[]) n=_;rw[bn1 lr.ids λx hx=>(C2.m x hx).1];exact lr.load hi
 have mU:=lr.le;have nH:=hl.head;rw[zzv,zzq]at nH
 have pS:dH g.bf=(lo:Int)+1:=by
  by_cases hs:g.bf=[]
  ·rw[hs];have:=(hl.nil hs).2;show (1:Int)=_;omega
  exact hl.chain.low hs
 refine⟨?_,⟨rfl,C2,hl.laid,hb,lr,rfl,Aw,b9,rfl,hf⟩⟩;unfold kx;rw[zzb (by omega),e];simp only[zzw];rw[vo,hl.fG,pS]
 grind [bwf]
def UL(I:List PF)(d0:DS)(keep:Ω):(b_ I [] d0).dB keep=b_ (dU I keep) [] (d0.dB (keep.drop I.length)):=by
 unfold DS.dB b_;simp only;rw[RH];rfl
structure sC(n:Nat)(d:DS)(all:List bD)(t:Option bD)(tr:Nat)(I I':List PF)(d0:DS)(g:bV)(f:Int)(lo m:Nat)(db:Int):Prop where
 pE:d=b_ I' [] d0
 bz:cN 16 4112 I' [] d0.R
 log:(Laid g d0 f ((lo:Int)+1) ((all.drop lo).map fC))\/∃q w,nU d0 f ((lo:Int)+1) ((all.drop lo).map fC) q w/\(w=true->∃x,t=some x/\q=fC x)
 base:g.base=16
 f16:16<=f
 file:f<=16+lo
 empty:(all.drop lo).map fC=[]->(f=16/\lo=0)\/∀y∈d0.R,(df [cW ((lo:Int)+1).toNat]).length<=y.safe
 jS:lC n all I db m
 xe:I'=I\/(m<all.length/\∃pre,(pre=[]\/pre=bY (iC all.length (eO n all)))/\kZ I I' ⟨if db=0 then 1 else 0,0,pre⟩)
 uo:lo<=m
 se:lo<=tr
def sC.open{n:Nat}(n1:1<=n)(n8:n<=8){d:DS}{all:List bD}{t:Option bD}{tr:Nat}{I I':List PF}{d0:DS}{g:bV}{f:Int}{lo m:Nat}{db:Int}(h:sC n d all t tr I I' d0 g f lo m db)(keep:Ω)
  (ht:∀l,l=[]\/(∃x,t=some x/\l=[x])->sD n (all++l)/\xH n (all++l)) (hlen:all.length<=1000) {size:Int} (s0:64<=size) (s1:size<=65536) :
  ∃k' nk I2 d2 f2 m2,kx (d.dB keep) n size=(k'.d,.ok k')/\ik n k' nk tr I2 d2 f2 lo m2/\k'.d.off=false/\k'.d.arm=0/\k'.d.ops<=d.ops+1/\(nk=all\/∃x,t=some x/\nk=all++[x]):=by
 obtain⟨t0,i0⟩:=ht [] (.inl rfl);rw[zz3]at t0 i0
 have lr:∃JI m2,lC n all (dU I' keep) JI m2/\m<=m2:=by
  rcases h.xe with e|⟨b9,e⟩
  ·rw[e,RM h.jS.safe];exact⟨db,m,h.jS,zzj _⟩
  exact h.jS.dB i0 b9 keep (.inr e)
 obtain⟨JI,m2,lr,t_⟩:=lr;have bLw:=h.uo;have bL4:=lr.le;have vg:=h.base;have bh0:=h.f16;have Ct:=h.file;have TW:=h.se;have bjo:∃g2 d2 nk,dN (d0.dB (keep.drop I'.length)) 16 size=(d2,.ok g2)/\fJ g2 d2 f ((lo:Int)+1) ((nk.drop lo).map fC)/\g2.base=16/\d2.arm=0/\d2.ops<=d0.ops+1/\(nk=all\/∃x,t=some x/\nk=all++[x]):=by
  rcases h.log with hl|⟨q,w,hT,hw⟩
  ·obtain⟨e,hv⟩:=hl.open (keep.drop I'.length) (by rw[zzv,zzq];omega) s0 s1;rw[vg]at e hv
   exact⟨_,_,all,e,hv,rfl,rfl,by show d0.ops<=_;omega,.inl rfl⟩
  obtain⟨g2,d2,iS,h1,h2,h3,h4,h5,h6,h7⟩:=XB hT (keep.drop I'.length) (base:=16) (size:=size) (by decide) (by decide) s0 s1 bh0 (by rw[zzv,zzq];omega) (by omega) (by rw[zzv,zzq];omega) (λe=>(h.empty e).imp (λe=>by omega) λe=>e);rcases h7 with e|⟨ew,e⟩
  ·grind
  obtain⟨x,hx,rfl⟩:=hw ew;refine⟨g2,d2,all++[x],h1,?_,h5,h3,h4,.inr ⟨x,hx,rfl⟩⟩
  grind
 obtain⟨g2,d2,nk,e1,e2,e3,e4,e5,e6⟩:=bjo;have I6:sD n nk/\xH n nk/\lC n nk (dU I' keep) JI m2:=by
  rcases e6 with rfl|⟨x,hx,rfl⟩
  ·grind
  obtain⟨a,b⟩:=ht [x] (.inr ⟨x,hx,rfl⟩);exact⟨a,b,lr.mono [x]⟩
 have pY:cN 16 4112 (dU I' keep) [] (d0.dB (keep.drop I'.length)).R:=h.bz.dB keep _ [];obtain⟨o1,o2⟩:=V_ n1 n8 I6.1 I6.2.1 e1 pY e2 e3 I6.2.2 (by omega) TW Ct;rw[<- UL]at o1
 rw[h.pE];exact⟨_,nk,_,_,_,_,o1,o2,e2.off,e4,e5,e6⟩
def Laid.H6{g:bV}{d:DS}{f n:Int}{es:List Φ}(h:Laid g d f n es)(hb:g.base=16):mE 16 4112 g:=by
 have hle:=h.chain.sa;rw[h.fG]at hle
 have tT:=h.fi;have hba:=h.base;refine⟨by omega,by omega,λs hs=>?_,λx hx=>by rw[h.cC]at hx;cases hx⟩;have:=h.chain.sG.mem (x:=dy s) (vvx hs)
 grind [dy]
def bdi{t:bD}(h:c_ t=true):(fC t).length<=2000:=yy1 (Hj h) (by decide)
def ik.head{n:Nat}{k:bQ}{all:List bD}{tr:Nat}{I:List PF}{d0:DS}{f:Int}{lo m:Nat}(h:ik n k all tr I d0 f lo m)(ho:k.d.off=false):bH k.g.bf=all.length:=by
 have hl:=h.log.inv (by have:=h.pE;rw[this]at ho;exact ho);have hm:=h.jS.le;have:=h.uo;rw[hl.head,zzv,zzq];omega
def fJ.x_{g:bV}{d:DS}{f n:Int}{es:List Φ}(h:Laid g d f n es)(e:es=[]):(f=g.base/\n=1)\/(g.bf≠[]/\∀y∈d.R,(df [cW n.toNat]).length<=y.safe):=by
 cases hg:g.bf with
 | nil=>exact .inl (h.nil hg)
 | cons s L=>
  refine .inr ⟨by simp,λy hy=>?_⟩;have hc:=h.chain;have h1:=h.fG;rw[e,hg,pH]at h1
  obtain⟨h2,h3⟩:=vvl.1 h1;rw[hg]at hc
  obtain⟨_,c2,c3,_,c5,_⟩:=hc;have hL:L=[]:=by
   grind
  rw[h.files,hg,hL]at hy
  have hy:y=dy s:=by simpa using hy
  rw[hy];show _<=(df (cW s.first.toNat::s.l)).length
  grind
def ik.x_{n:Nat}{k:bQ}{all:List bD}{tr:Nat}{I:List PF}{d0:DS}{f:Int}{lo m:Nat}(h:ik n k all tr I d0 f lo m):(all.drop lo).map fC=[]->(f=16/\lo=0)\/∀y∈d0.R,(df [cW ((lo:Int)+1).toNat]).length<=y.safe:=λe=>by
 have hb:=h.base;rcases fJ.x_ h.log e with h1|⟨_,h1⟩
 ·grind
 exact .inr h1
def ik.dead{n:Nat}{k:bQ}{all:List bD}{tr:Nat}{I:List PF}{d0:DS}{f:Int}{lo m:Nat}(h:ik n k all tr I d0 f lo m)(he:(all.drop lo).map fC=[]->(f=16/\lo=0)\/∀y∈d0.R,(df [cW ((lo:Int)+1).toNat]).length<=y.safe)(t:Option bD):sC n k.d all t tr I I d0 k.g f lo m k.db:=
 ⟨h.pE,h.bz,.inl h.log,h.base,by have:=h.log.base;have:=h.base;omega,h.file,he,h.jS,.inl rfl,h.uo,h.se⟩
def bmm(I:List PF)(d0:DS):b_ I [] d0=b_ [] d0.R {d0 with R:=I}:=by
 unfold b_;simp
def Se{lo hi:Int}{A B:List PF}{d:DS}(h:cN lo hi A B d.R){f:Int}(h1:lo<=f)(h2:f<hi)(b:Φ):jq (b_ A B d) f b=(b_ A B (jq d f b).1,(jq d f b).2):=by
 unfold jq;rw[show gi (b_ A B d).R f=gi d.R f from h.len h1 h2];have hc:(if 0<=gi d.R f then (b_ A B d).cut f 0 else (b_ A B d,0))=(b_ A B (if 0<=gi d.R f then d.cut f 0 else (d,0)).1,(if 0<=gi d.R f then d.cut f 0 else (d,0)).2)/\cN lo hi A B (if 0<=gi d.R f then d.cut f 0 else (d,0)).1.R:=by
  grind [Fu]
 generalize (if 0<=gi d.R f then d.cut f 0 else (d,0))=c at *
 rw[hc.1];simp only;split
 ·rfl
 obtain⟨ea,ha⟩:=Fs hc.2 h1 h2 b;rw[ea];simp only;split
 ·rfl
 exact (Jj ha h1 h2).1
def ik.trim{n:Nat}{k:bQ}{all:List bD}{tr:Nat}{I:List PF}{d0:DS}{f:Int}{lo m:Nat}(h:ik n k all tr I d0 f lo m)(ho:k.d.off=false)(ha:0<=k.d.arm)(hlen:all.length<=1000)(hi:xH n all){aw:Nat}(kF:aw<=all.length):
  (∃k' I' d1 f' ko m',k.gB aw=(k',0)/\aw<=m'/\ik n k' all (max tr aw) I' d1 f' ko m'/\k'.d.off=false/\0<=k'.d.arm/\k'.d.arm<=k.d.arm/\k'.d.ops<=k.d.ops+(all.length+5)/\k'.g.size=k.g.size) \/
  (∃k' e I1 I' d1 g1 f' ko m' nw,k.gB aw=(k',e)/\e≠0/\k'.d.off=true/\k.d.arm≠0/\k'.d.ops<=k.d.ops+(all.length+5)/\sC n k'.d all none (max tr aw) I1 I' d1 g1 f' ko m' nw):=by
 have nH:=h.head ho;have Aw:=h.uo;have mU:=h.jS.le;have hle:=h.log.chain.sa;rw[h.log.fG,zzv,zzq]at hle
 have mn:∀{k:bQ} {I:List PF} {d0:DS} {m:Nat},ik n k all tr I d0 f lo m->k.d.off=false->0<=k.d.arm->k.g.bf.length<=(all.length+1)->aw<=m ->
   (∃k' d1 f' ko,(({k with g:=(gl k.g k.d aw).1.1,d:=(gl k.g k.d aw).1.2}:bQ),(gl k.g k.d aw).2)=(k',0)/\ik n k' all (max tr aw) I d1 f' ko m/\k'.d.off=false/\0<=k'.d.arm/\k'.d.arm<=k.d.arm/\k'.d.ops<=k.d.ops+(all.length+1)/\k'.g.size=k.g.size) \/
   (∃k' e d1 g1 f' ko,(({k with g:=(gl k.g k.d aw).1.1,d:=(gl k.g k.d aw).1.2}:bQ),(gl k.g k.d aw).2)=(k',e)/\e≠0/\k'.d.off=true/\k.d.arm≠0/\k'.d.ops<=k.d.ops+(all.length+1)/\sC n k'.d all none (max tr aw) I I d1 g1 f' ko m k.db):=by
  intro k I d0 m h ho ha CV hm;have hd:=h.pE;have jF:d0.off=false:=by rw[hd]at ho;exact ho
  have rO:0<=d0.arm:=by rw[hd]at ha;exact ha
  have hl:=h.log.inv jF;have hb:=h.base;have tT:=h.log.fi;have TW:=h.se;have Ct:=h.file;have bL3:=h.jS.le;obtain⟨ew,hw,vl⟩:=XC (A:=I) (B:=[]) (d:=d0) (h.log.H6 hb) h.bz (aw:Int);obtain⟨g',d',f',i,e,et,TR,bn,cY,pW,Au,cZ,vg,Um,Aq,Ar,lM,tQ,CT⟩:=bBp hl rO (aw:Int) (by omega);rw[et]at ew hw vl
  rw[hd,ew];simp only at hw ⊢;have Iu:((all.drop lo).map fC).drop i=(all.drop (lo+i)).map fC:=by rw[uu0,uu0,ww5,<- uu0]
  rw[Iu,show (lo:Int)+1+(i:Int)=((lo+i:Nat):Int)+1 by omega]at TR
  rw[zzv,zzq]at bn
  have hL:ik n {k with g:=g',d:=b_ I [] d'} all (max tr aw) I d' f' (lo+i) m:=⟨rfl,hw,TR,vg.trans hb,h.jS,h.image,by have:=h.uo;omega,by omega,h.ts,by omega⟩;rcases CT with ⟨rfl,IS,_⟩|⟨rfl,IS,sS⟩
  ·left;exact⟨_,d',f',lo+i,rfl,hL,IS,lM,tQ,by show d'.ops<=d0.ops+(all.length+1);omega,Um⟩
  right;exact⟨_,8,d',g',f',lo+i,rfl,by decide,IS,sS,by show d'.ops<=d0.ops+(all.length+1);omega,hL.dead hL.x_ none⟩
 have ht:k.gB aw=(let r:=if k.image<aw then k.ia else (k,0);if r.2≠0 then r else let t:=gl r.1.g r.1.d aw;({r.1 with g:=t.1.1,d:=t.1.2},t.2)):=by
  grind [bQ.gB]
 rw[ht];by_cases lr:k.image<aw
 ·rw[zzc lr];have T1:m<all.length:=by have:=h.image;omega
  have hd:=h.pE;have jF:d0.off=false:=by rw[hd]at ho;exact ho
  have rO:0<=d0.arm:=by rw[hd]at ha;exact ha
  have ER:iN k=0\/iN k=1:=by unfold iN;split<;>simp
  have hwI:cN 0 16 [] d0.R I:=⟨by simp,λx hx=>by rcases h.jS.ids x hx with e|e<;>omega,λx hx=>(h.bz.m x hx).1⟩;have hdw:jq k.d (iN k) (bY (iC (bH k.g.bf) k.ts))=(b_ [] d0.R (jq {d0 with R:=I} (iN k) (bY (iC all.length (eO n all)))).1,(jq {d0 with R:=I} (iN k) (bY (iC all.length (eO n all)))).2):=by
   rw[hd,bmm,nH,h.ts];exact Se (d:={d0 with R:=I}) hwI (by omega) (by omega) _
  have lj:∀d':DS,b_ [] d0.R d'=b_ d'.R [] {d' with R:=d0.R}:=λd'=>by unfold b_;simp
  unfold bQ.ia;rw[hdw];rcases bcp (d:={d0 with R:=I}) h.jS.sorted (f:=iN k) (by omega) (by omega) jF rO (bY (iC all.length (eO n all))) with ⟨d',e,hS,o1,a1,a2,p1⟩|⟨d',e,o1,a0,a1,a2,p1,hR⟩
  ·rw[e];simp only;rw[zzc trivial];simp only;rw[zzb (by simp)];have hid:∀x∈d'.R,x.id=0\/x.id=1:=λx hx=>by
    rcases hS.mem hx with rfl|⟨hx,_⟩
    ·exact ER
    exact h.jS.ids x hx
   have EN:lC n all d'.R (iN k) all.length:=h.jS.drawn hi T1 (f:=iN k) rfl (x:=⟨iN k,_,_⟩) rfl rfl rfl hS;have hL:ik n {k with d:=b_ [] d0.R d',db:=iN k,image:=bH k.g.bf} all tr d'.R {d' with R:=d0.R} f lo all.length:=
    ⟨lj d',⟨λx hx=>by rcases hid x hx with e|e<;>omega,h.bz.m,by simp⟩,h.log.sw rfl,h.base,EN,nH,by omega,h.se,h.ts,h.file⟩
   rcases mn hL o1 a1 (by show k.g.bf.length<=(all.length+1);omega) kF with ⟨k',d1,f',ko,r1,r2,r3,r4,ra,r5,r6⟩|⟨k',e',d1,g1,f',ko,r1,r2,r3,ra,r5,r6⟩
   ·left;have r5:k'.d.ops<=d'.ops+(all.length+1):=r5;have ra:k'.d.arm<=d'.arm:=ra;exact⟨k',_,d1,f',ko,_,r1,kF,r2,r3,r4,by rw[hd];exact Int.le_trans ra a2,by rw[hd];show k'.d.ops<=d0.ops+(all.length+5);have p1:d'.ops<=d0.ops+3:=p1;omega,r6⟩
   right;have r5:k'.d.ops<=d'.ops+(all.length+1):=r5;have ra:d'.arm≠0:=ra;have a2:d'.arm<=d0.arm:=a2;exact⟨k',e',_,_,d1,g1,f',ko,_,_,r1,r2,r3,by rw[hd];show d0.arm≠0;omega,by rw[hd];show k'.d.ops<=d0.ops+(all.length+5);have p1:d'.ops<=d0.ops+3:=p1;omega,r6⟩
  rw[e];simp only;rw[zzb (show ¬((8:Int)=0) by decide)];simp only;rw[zzc (show (8:Int)≠0 by decide)];right;have hid:∀x∈d'.R,x.id=0\/x.id=1:=λx hx=>by
   rcases hR with hR|⟨pre,_,hS⟩
   ·rw[hR]at hx;exact h.jS.ids x hx
   rcases hS.mem hx with rfl|⟨hx,_⟩
   ·exact ER
   exact h.jS.ids x hx
  refine⟨_,8,I,d'.R,{d' with R:=d0.R},k.g,f,lo,m,k.db,rfl,by decide,o1,by rw[hd];exact a0,by rw[hd];show d'.ops<=d0.ops+(all.length+5);have p1:d'.ops<=d0.ops+3:=p1;omega,lj d',⟨λx hx=>by rcases hid x hx with e|e<;>omega,h.bz.m,by simp⟩,.inl (h.log.sw rfl),h.base,by have:=h.log.base;have:=h.base;omega,h.file,h.x_,h.jS,?_,Aw,by have:=h.se;omega⟩;rcases hR with hR|⟨pre,hp,hS⟩
  ·exact .inl hR
  exact .inr ⟨T1,pre,hp,hS⟩
 rw[zzb lr];simp only;rw[zzb (by simp)];rcases mn h ho ha (by omega) (by have:=h.image;omega) with ⟨k',d1,f',ko,r1,r2,r3,r4,ra,r5,r6⟩|⟨k',e',d1,g1,f',ko,r1,r2,r3,ra,r5,r6⟩
 ·exact .inl ⟨k',_,d1,f',ko,_,r1,by have:=h.image;omega,r2,r3,r4,ra,by omega,r6⟩
 grind
def UP:∀(C:List Row) (c:Row) (i:Nat),i<=C.length->(∀j (h:j<C.length),j<i->C[j].key<c.key)->(∀h:i<C.length,c.key<=C[i].key) ->
  fZ C c=C.take i++[c]++C.drop (if ∃h:i<C.length,C[i].key=c.key then i+1 else i)
 | [],c,i,hi,_,_=>by
  have:i=0:=by simpa using hi
  subst this;simp[fZ]
 | x::C,c,0,_,_,h2=>by
  have hx:=h2 (by simp);simp only[vvi]at hx;have:¬x.key<c.key:=by omega
  by_cases he:x.key=c.key
  ·simp[fZ,he]
  simp[fZ,this,he]
 | x::C,c,i+1,hi,h1,h2=>by
  have hx:x.key<c.key:=h1 0 (by simp) (by omega);have ih:=UP C c i (by simpa using hi) (λj h hj=>by have:=h1 (j+1) (by simpa using h) (by omega);simpa using this) (λh=>by have:=h2 (by simpa using h);simpa using this);simp only[fZ,hx,ww0,ih,zzi,List.getElem_cons_succ,Nat.add_lt_add_iff_right];split<;>simp
def RY:∀(C:List Row) (k:Int) (i:Nat) (h:i<C.length),(∀j (h:j<C.length),j<i->C[j].key≠k)->C[i].key=k->jo C k=C.take i++C.drop (i+1)
 | x::C,k,0,_,_,h2=>by simp at h2;simp[jo,h2]
 | x::C,k,i+1,h,h1,h2=>by
  have hx:x.key≠k:=h1 0 (by simp) (by omega);have ih:=RY C k i (by simpa using h) (λj h hj=>by have:=h1 (j+1) (by simpa using h) (by omega);simpa using this) (by simpa using h2);simp[jo,hx,ih]
def RZ:∀(C:List Row) (k:Int),(∀j (h:j<C.length),C[j].key≠k)->jo C k=C
 | [],k,_=>rfl
 | x::C,k,h=>by
  have hx:x.key≠k:=h 0 (by simp);simp[jo,hx,RZ C k (λj hj=>by have:=h (j+1) (by simpa using hj);simpa using this)]
def mI(H:a_)(vs:Ξ)(ts:List (List Row)):Prop:=vs.length=ts.length/\∀(i:Nat) (v:Ε) (C:List Row),vs[i]?=some v->ts[i]?=some C->cn H 2 v C.length (C.map dV).flatten
def mI.mono{H H':a_}{vs:Ξ}{ts:List (List Row)}(hh:H.le H')(h:mI H vs ts):mI H' vs ts:=⟨h.1,λi v C h1 h2=>(h.2 i v C h1 h2).mono hh⟩
