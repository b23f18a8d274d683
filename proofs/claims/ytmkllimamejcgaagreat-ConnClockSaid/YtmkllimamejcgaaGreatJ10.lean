/- Part of the proof. -/
import Derived.Test.YtmkllimamejcgaaGreatJ9
import Derived.Test.YtmkllimamejcgaaGreatQVcI
import Derived.Lib.Overlaps
import Derived.Lib.AppendZerosOnto
import Derived.Test.YtmkllimamejcgaaGreatQVcG
import Derived.Test.YtmkllimamejcgaaGreatQTab
import Derived.Test.YtmkllimamejcgaaGreatQVcX
import Derived.Test.YtmkllimamejcgaaGreatQVcA
import Derived.Test.YtmkllimamejcgaaGreatQVcC
import Derived.Test.YtmkllimamejcgaaGreatQVcF
import Derived.Test.YtmkllimamejcgaaGreatQVcT
import Derived.Test.YtmkllimamejcgaaGreatQVcN
namespace Go.Proofs.YtmkllimamejcgaaGreat
set_option linter.all false
set_option maxRecDepth 100000
open Go.RowKit
def xx3:=@Tryz.underlying67
def uuq:=@List.mem_append_right
def tta:=@List.all_eq_false
def uu7:=@Tryz.underlying336
def xxw:=@run_equalIn_int
def wwc:=@List.length_eq_zero_iff
def vv5:=@List.flatMap_append
def ttb:=@List.nodup_append
def uut:=@List.length_eraseIdx
def uuz:=@Nat.mul_le_mul_left
def vvn:=@Int.natCast_nonneg
def lS(b:Nat)(cs:Ξ)(t:Ι):zC:=λh=>h=bw.one b (.cells cs.toArray t (0,0))
section
variable {W w:Ζ} {l l':Β} {P:Program}
def lS.oK{b:Nat}{cs:Ξ}{t:Ι}(h:SL W l w)(m:Has (.ob (lS b cs t)) l):w.heap[b]?=some (.cells cs.toArray t (0,0)):=by
 obtain⟨k,s,x⟩:=h.out;obtain⟨h1,e,le⟩:=m.heap s;have e:h1=bw.one b (.cells cs.toArray t (0,0)):=e;subst e;exact x b _ (le b _ (by simp[bw.one]))
def lS.cell{b o:Nat}{cs:Ξ}{t:Ι}{v:Ε}(h:SL W l w)(m:Has (.ob (lS b cs t)) l)(hv:cs[o]?=some v):w.cell? ⟨b,o,none⟩=some v:=by
 simp[World.cell?,lS.oK h m,hv]
def cxj{z cells:Ξ}{ps:List (Nat × Nat × Ε)}{e:Ι}{n:Nat}{K:Ε->Ζ->Prop}(hS:SL W l w)(hc:ir z ps=some cells)
  (h:∀b w',SL W (.ob (lS b cells e)::l) w'->K (.slice (some ⟨b,0,none⟩) n n) w'):zn z ps e n w K:=⟨cells,hc,h _ _ (hS.alloc (c:=.ob (lS w.heap.size cells e)) rfl)⟩
def YY{dT sT ty elem tt:Ι}{b o Hx RG m Kg Wx sz:Nat}{a:Addr}{cs cd:Ξ}{K:Ε->Ζ->Prop}(hS:SL W l w)(hu:P.underlying dT=some (.slice elem))(hs:(P.info? elem).map (·.size)=some sz)
  (hm:Nat.min Kg Hx=m) (hl:cs.length=m*sz) (iw:∀j v,cs[j]?=some v->w.cell? (a.add j)=some v) (u:ga (.pt b cd tt) (.pt b (cd.take o++cs++cd.drop (o+cs.length)) tt) l l') (ho:o+cs.length<=cd.length) (h1:∀v∈cs,v.oneCell'=true)
  (h:∀v w',SL W l' w'->K v w'):zR P (Builtin.copy_ #[dT,sT] ty #[.slice (some ⟨b,o,none⟩) Hx RG,.slice (some a) Kg Wx]) w K:=by
 have re:=uuc (P:=P) w a cs iw;have ib:∀j,j<cs.length->∃v,cd[o+j]?=some v:=λj hj=>⟨_,zzd (by omega)⟩;have fX:=run_storeCells_cells (P:=P) b o cs 0 w (λj hj=>by obtain⟨v,hv⟩:=ib j hj;rw[xxg,hS.cell u.has hv];rfl) (λj hj=>by obtain⟨v,hv⟩:=ib j hj;rw[xxg];exact hS.frozen u.has hv) h1;simp only[xxg]at fX;have hr:(Builtin.copy_ #[dT,sT] ty #[.slice (some ⟨b,o,none⟩) Hx RG,.slice (some a) Kg Wx]).run P w= .ok (goInt m) (w.setCells b o cs):=by
  cases hq:P.info? elem with
  | none=>simp[hq]at hs
  | some i=>
   have hi:i.size=sz:=by simpa [hq] using hs
   simp[Builtin.copy_,yyn hu,Builtin.lenOf,Builtin.firstCells,sizeOf,typeInfo,hq,hi,hm,<- hl,re,fX]
 exact⟨_,_,hr,h _ _ (SL.Xd hS u ho)⟩
def cxk{ty t e:Ι}{a:Option Addr}{n c:Nat}{K:Ε->Prop}(ht:P.underlying t=some (.slice e))(h:K (Γ c)):eW P (Builtin.cap_ #[t] ty #[.slice a n c]) w K:=
 ⟨_,by simp[Builtin.cap_,yyn ht,goInt],h⟩
end
def Tryz.bWi:(Tryz.prog.info? 66).map (λi=>(i.zero.map (λz=>z.cells.toList),i.size,i.bytes))=some (some [Γ 0,.string ⟨#[]⟩],2,24):=by kernel_rfl
def Tryz.cLn:(Tryz.prog.info? 66).map (λi=>i.zero)=some (some (.agg #[Γ 0,.string ⟨#[]⟩])):=by kernel_rfl
def cz2(w:Ζ):(sizeOf 66).run Tryz.prog w= .ok 2 w:=by kernel_rfl
def b_p{W w:Ζ}{l:Β}{vb b o m vc lb cb:Nat}{cv cs:Ξ}{K:Ε->Ζ->Prop}(hS:SL W l w)(h1:Has (.ob (lS vb cv 66)) l)(h2:Has (.pt b cs 66) l)(dO:vb≠b)(iL:cs.length≠0)
  (h:K (.bool false) w):q5 Tryz.prog 366 [.slice (some ⟨vb,0,none⟩) m vc,.slice (some ⟨b,o,none⟩) lb cb] w K:=by
 have e1:=lS.oK hS h1;obtain⟨f,hf,e2⟩:=hS.oK h2;have hsa:w.shape? vb=some (66,cv.length):=by simp[World.shape?,e1]
 have hsb:w.shape? b=some (66,cs.length):=by simp[World.shape?,e2]
 have hz:∀x:Addr,x.block=vb->w.frozen? x=false:=λx hx=>by simp only[World.frozen?,hx,e1];simp
 have hr:=Go.Lib.run_overlaps_apart (P:=Tryz.prog) w 67 4 66 xx3 2 cz2 ⟨vb,0,none⟩ ⟨b,o,none⟩ m vc lb cb dO 66 66 cv.length cs.length hsa hsb iL (hz _ rfl) (hz _ rfl);refine⟨.bool false,w,?_,h⟩;have:=run_callFunc_extern Tryz.func366 (by kernel_rfl) (by kernel_rfl) (by kernel_rfl) (e:=Extern.SlicesOverlaps.overlaps #[67,67] #[4]) (by kernel_rfl) #[.slice (some ⟨vb,0,none⟩) m vc,.slice (some ⟨b,o,none⟩) lb cb] w;rw[this,hr];rfl
def lS.ne{W w:Ζ}{l:Β}{b vb:Nat}{cs cv:Ξ}{t t':Ι}(h:SL W (.pt b cs t::.ob (lS vb cv t')::l) w):vb≠b:=by
 rintro rfl;obtain⟨k,⟨h1,h2,s,⟨f,_,rfl⟩,h3,h4,s',e,r⟩,m⟩:=h.out;have e:h3=bw.one vb (.cells cv.toArray t' (0,0)):=e;subst e;rcases s vb with ⟨a,_⟩|⟨a,_⟩
 ·simp[bw.one]at a
 rcases s' vb with ⟨c,_⟩|⟨_,c⟩
 ·simp[bw.one]at c
 rw[a]at c;simp[bw.one]at c
def J_(A E x:Ξ):(A++E).take A.length++x++(A++E).drop (A.length+x.length)=A++x++E.drop x.length:=by
 rw[wwp,<- ww2,wwo]
def cnn(A E D:Ξ)(k:Nat)(hk:k<=E.length):(A++E).take (A.length+k)++D++(A++E).drop (A.length+k+D.length)=A++(E.take k++D++E.drop (k+D.length)):=by
 rw[wwd,ww9,<- ww2 (l:=A++E),wwo];simp
def qx(v:Ε)(n i vb:Nat)(cells x:Ξ)(hi:i<=n)(hx:x.length=2)(gB:∀v∈cells,v.oneCell'=true)(nI:∀v∈x,v.oneCell'=true)(hn:n<=1000000):
  SP 321 [v,Γ (i:Int),.slice (some ⟨vb,0,none⟩) 1 1] [.ob (bI v 66 2 n cells),.ob (lS vb x 66)] (λu post=>post=[.ob (bI u 66 2 (n+1) (cells.take (i*2)++x++cells.drop (i*2)))]):=by
 refine Enzz λW F w hS=>?_;apply cH7;delta Oh aI cL ai cP;have iw:∀{l:Β} {w:Ζ},SL W l w->Has (.ob (lS vb x 66)) l->∀j u,x[j]?=some u->w.cell? ((⟨vb,0,none⟩:Addr).add j)=some u:=λh m j u e=>by
  rw[yyb,yye];exact lS.cell h m e
 have gL:i=n->zx 2 24 [Γ 0,.string ⟨#[]⟩] 66 v (.slice (some ⟨vb,0,none⟩) 1 1) w λu w=>∃post,(post=[.ob (bI u 66 2 (n+1) (cells.take (i*2)++x++cells.drop (i*2)))])/\SL W (app post F) w:=λe=>by
  subst e;obtain⟨_,_,_,hlen,_⟩:=bI.at hS Xh;refine zJ (n:=i) (m:=1) hS Xr ⟨rfl,hx,iw hS Xh⟩ (by omega) rfl nI (by omega) (by omega) ?_;clear hS;intro u w hS;rw[zz2 (by omega),yy3 (by omega),zzx];exact⟨_,rfl,aW hS⟩
 rcases bI.open hS with ⟨⟨a,rfl⟩,rfl,rfl,_⟩|⟨b,cap,rest,rfl,oU,hlen,jN,S2⟩
 ·refine⟨a,0,0,i,0,0,rfl,rfl,rfl,⟨_,rfl⟩,hi,zzi _,zzi _,?_⟩;refine yc ?_;refine Gp ?_;refine za (λh=>by omega) (λ_=>?_);refine yc ?_;refine Gp ?_;exact za (λh=>gL (by omega)) (λh=>by omega)
 refine⟨_,n,cap,i,n,cap,rfl,rfl,rfl,⟨_,rfl⟩,hi,oU,zzi _,?_⟩;refine yc ?_;refine Gp ?_;refine za (λh=>by omega) (λ_=>?_);refine yc ?_;refine Gp ?_;refine za (λh=>gL (by omega)) (λdO=>?_);clear gL hS;have hS:=S2;clear S2;have jW:i<n:=by omega
 have hvb:=lS.ne hS;refine Gp ?_;refine cxk xx3 ?_;refine Gp ?_;obtain⟨A,hA⟩:∃A,A=cells.take (i*2):=⟨_,rfl⟩;obtain⟨D,hD⟩:∃D,D=cells.drop (i*2):=⟨_,rfl⟩;have EY:cells=A++D:=by rw[hA,hD,yyl]
 have se:A.length=i*2:=by rw[hA,zzf];omega
 have ER:D.length=(n-i)*2:=by rw[hD,zzr];omega
 have SV:∀v∈D,v.oneCell'=true:=λv hv=>gB v (by rw[EY];exact uuq _ hv);rw[<- hA,<- hD];have fS:(Tryz.prog.info? 66).map (·.size)=some 2:=by kernel_rfl
 refine za (λhg=>?_) (λhg=>?_)
 ·
  have Ti:cap=n:=by omega
  subst Ti;refine⟨_,cap,cap,0,i,cap,rfl,rfl,⟨_,rfl⟩,rfl,by omega,by omega,by omega,?_⟩;rw[zzb (show ¬cap=0 by omega)];simp only[yyf,yyb,uuh,xxg,www];refine Gp ?_;rw[show (((cap+1:Nat):Int)-(i:Int))=((cap+1-i:Nat):Int) by omega];cases hq:Tryz.prog.info? 66 with
  | none=>rw[hq]at fS;cases fS
  | some ti=>
   have hI:=Tryz.bWi;rw[hq]at hI
   have hZ:=Tryz.cLn;rw[hq]at hZ
   simp only[yyf,uu9,wwy]at hI hZ;obtain⟨_,h2,h3⟩:=hI;have hold:(Builtin.firstCells ti.size i (.slice (some ⟨b,0,none⟩) i cap)).run Tryz.prog w.drew= .ok A.toArray w.drew:=by
    have hl:=uuc (P:=Tryz.prog) w.drew ⟨b,0,none⟩ A λj u hj=>by
     rw[yyb,yye];refine hS.drew.cell .hd ?_;rw[EY,zzk,zzt (zzj.1 hj).1];exact hj
    rw[se]at hl
    rw[h2];simp[Builtin.firstCells,hl]
   have o8:Builtin.nextslicecap (i+(cap+1-i)) cap*ti.bytes<=281474976710656:=growslice_fits (by omega) (by rw[h3];omega);have xz:=Go.Lib.run_append_grow_zeros (P:=Tryz.prog) w 67 3 67 66 ti _ .i64 .i64 xx3 yyc hq hZ (some ⟨b,0,none⟩) i cap A hold (cap+1-i) (by omega) (by omega) (by omega) (by omega) (by rw[h3];omega) o8;refine⟨_,_,xz,?_⟩;generalize Tj:grownCap w (i+(cap+1-i)) cap 66=cp;have xd:cap+1<=cp:=by
    have:=grownCap_ge w (i+(cap+1-i)) cap 66;omega
   have hz:∀k,Builtin.zeroCells (Value.cells (.agg #[Γ 0,.string ⟨#[]⟩])) k=(cK [Γ 0,.string ⟨#[]⟩] k).toArray:=λk=>by
    rw[<- KS (Value.cells (.agg #[Γ 0,.string ⟨#[]⟩])) [Γ 0,.string ⟨#[]⟩] rfl k,Array.toArray_toList]
   rw[hz,hz];obtain⟨E,hE⟩:∃E:Ξ,E=cK [Γ 0,.string ⟨#[]⟩] (cap+1-i)++cK [Γ 0,.string ⟨#[]⟩] (cp-(i+(cap+1-i))):=⟨_,rfl⟩;have hEl:E.length=(cp-i)*2:=by rw[hE,zza,lQ,lQ];simp;omega
   have e2:A.toArray++(cK [Γ 0,.string ⟨#[]⟩] (cap+1-i)).toArray++(cK [Γ 0,.string ⟨#[]⟩] (cp-(i+(cap+1-i)))).toArray=(A++E).toArray:=by rw[hE];simp
   rw[e2];have hS:=SL.new (cs:=A++E) (t:=66) hS.drew;clear xz hold hz e2 hE;have Fq:w.heap.size=w.drew.heap.size:=rfl;rw[Fq];generalize w.drew.heap.size=nb at *
   generalize (w.drew.alloc (.cells (A++E).toArray 66))=w at *
   have ei:i+(cap+1-i)=cap+1:=by omega
   rw[ei];refine⟨_,cap+1,cp,i,cap+1,cp,rfl,rfl,rfl,⟨_,rfl⟩,by omega,xd,zzi _,?_⟩;rw[zzb (show ¬cp=i by omega)];simp only[yyf,yyb,yye];have e3:=J_ A E x;rw[se]at e3
   refine YY (tt:=66) (l':=.pt nb (A++x++E.drop x.length) 66::.pt b (cells++rest) 66::.ob (lS vb x 66)::F) hS xx3 fS (m:=1) (sz:=2) (xxn (by omega)) (by omega) (iw hS Xh) (by rw[e3];exact ga.hd) (by rw[zza];omega) nI ?_;clear hS e3;intro _ w hS;refine Gn λw hS=>?_;refine⟨_,cap+1,cp,i+1,cap+1,cp,rfl,rfl,rfl,⟨_,rfl⟩,by omega,xd,zzi _,?_⟩;rw[zzb (show ¬cp=i+1 by omega)];refine⟨_,cap,cap,i,cap,cap,rfl,rfl,rfl,⟨_,rfl⟩,by omega,zzi _,zzi _,?_⟩;rw[zzb (show ¬cap=i by omega)];simp only[yyf,yyb,yye];have e4:=J_ (A++x) (E.drop x.length) D;have e5:(A++x).length=(i+1)*2:=by rw[zza];omega
   rw[e5]at e4
   have SX:(E.drop x.length).length=E.length-2:=by rw[zzr,hx]
   refine YY (tt:=66) (l':=.pt nb (A++x++D++(E.drop x.length).drop D.length) 66::.pt b (cells++rest) 66::.ob (lS vb x 66)::F) hS xx3 fS (m:=cap-i) (sz:=2) (xxn (by omega)) ER (λj u hj=>?_) (by rw[e4];exact ga.hd) (by rw[zza,e5,SX];omega) SV ?_
   ·rw[yyb];refine hS.cell (.tl .hd) ?_;rw[EY,zzk,yya (by omega),se,xx9,zzt (zzj.1 hj).1];exact hj
   clear hS e4;intro _ w hS;refine⟨_,rfl,SL.bZ (bI.mk (sz:=2) (n:=cap+1) (cap:=cp) (cells:=A++x++D) (rest:=(E.drop x.length).drop D.length) xd ?_ ?_ hS) Xi⟩
   ·rw[zza,e5];omega
   rw[zzr,SX];omega

 have AZ:n+1<=cap:=by omega
 clear hg;have vB:2<=rest.length:=by rw[jN];omega
 refine Gp ?_;refine⟨_,n,cap,0,n+1,cap,rfl,rfl,⟨_,rfl⟩,rfl,by omega,by omega,by omega,?_⟩;rw[zzb (show ¬cap=0 by omega)];simp only[yyf,yyb,uuh,xxg,www];refine Gp ?_;refine⟨_,n+1,cap,i+1,n+1,cap,rfl,rfl,rfl,⟨_,rfl⟩,by omega,by omega,by omega,?_⟩;rw[zzb (show ¬cap=i+1 by omega)];simp only[yyf,yyb,yye];refine b_p hS Xh Xh hvb (by rw[zza];omega) ?_;refine⟨_,rfl,?_⟩;refine zq ?_;refine Gn λw hS=>?_;refine⟨_,n+1,cap,i+1,n+1,cap,rfl,rfl,rfl,⟨_,rfl⟩,by omega,by omega,by omega,?_⟩;rw[zzb (show ¬cap=i+1 by omega)];refine⟨_,n+1,cap,i,n+1,cap,rfl,rfl,rfl,⟨_,rfl⟩,by omega,by omega,by omega,?_⟩;rw[zzb (show ¬cap=i by omega)];simp only[yyf,yyb,yye];obtain⟨E,hE⟩:∃E,E=D++rest:=⟨_,rfl⟩;have hEl:E.length=(cap-i)*2:=by rw[hE,zza];omega
 have hAE:cells++rest=A++E:=by rw[EY,hE,zzk]
 rw[hAE]at hS
 have e3:=cnn A E D 2 (by omega);rw[se,show i*2+2=(i+1)*2 by omega]at e3
 refine YY (tt:=66) (l':=.pt b (A++(E.take 2++D++E.drop (2+D.length))) 66::.ob (lS vb x 66)::F) hS xx3 fS (m:=n-i) (sz:=2) (by simp only[Nat.min_def];split<;>omega) ER (λj u hj=>?_) (by rw[e3];exact ga.hd) (by rw[zza];omega) SV ?_
 ·rw[yyb];refine hS.cell .hd ?_;rw[yya (by omega),se,xx9,hE,zzt (zzj.1 hj).1];exact hj
 clear hS e3;intro _ w hS;refine⟨_,n+1,cap,i,n+1,cap,rfl,rfl,rfl,⟨_,rfl⟩,by omega,by omega,by omega,?_⟩;rw[zzb (show ¬cap=i by omega)];simp only[yyf,yyb,yye];have e4:=J_ A (E.take 2++D++E.drop (2+D.length)) x;rw[se,hx]at e4
 have Fx:(E.take 2).length=2:=by rw[zzf];omega
 have e5:(E.take 2++D++E.drop (2+D.length)).drop 2=D++E.drop (2+D.length):=by
  rw[zzk];have:=wwo (l₁:=E.take 2) (l₂:=D++E.drop (2+D.length))
  rwa [Fx]at this
 rw[e5]at e4
 refine YY (tt:=66) (l':=.pt b (A++x++(D++E.drop (2+D.length))) 66::.ob (lS vb x 66)::F) hS xx3 fS (m:=1) (sz:=2) (xxn (by omega)) (by omega) (iw hS Xh) (by rw[hx,e4];exact ga.hd) (by rw[zza,zza,zza,Fx,zzr];omega) nI ?_;clear hS e4 e5;intro _ w hS;rw[<- zzk (A++x)]at hS
 refine⟨_,rfl,SL.bZ (bI.mk (sz:=2) (n:=n+1) (cap:=cap) (cells:=A++x++D) (rest:=E.drop (2+D.length)) AZ ?_ ?_ hS) Xi⟩
 ·rw[zza,zza];omega
 rw[zzr];omega
abbrev cF(b:Nat):Ε:=Δ b
def czg{W w:Ζ}{l:Β}{α:Type}{enc:α->Ξ}{v u:Ε}{t:Ι}{sz j i:Nat}{k:IntKind}{xs:List α}{y:α}{K:Ζ->Prop}(hS:SL W (.ob (bI v t sz xs.length (xs.map enc).flatten)::l) w)(hn:∀x,(enc x).length=sz)
  (hj:j<xs.length) (hi:i<sz) (hy:(enc xs[j]).set i u=enc y) (h1:u.oneCell'=true) (hK:∀w',SL W (.ob (bI v t sz (xs.set j y).length ((xs.set j y).map enc).flatten)::l) w'->K w'):zk sz v (.int k (j:Int)) λp=>zl i p λq=>eF q u w K:=by
 rcases bI.open hS with ⟨_,h0,_⟩|⟨b,cap,rest,rfl,hc,hlen,jN,hS⟩
 ·omega
 have dd:j*sz+i<xs.length*sz:=by
  have:(j+1)*sz<=xs.length*sz:=yyt _ hj;rw[yyz]at this;omega
 refine zG hj (yL ?_);rw[yye];refine ZA hS .hd (zzd (by rw[zza];omega)) h1 λw' hS=>hK w' ?_;rw[wwn _ _ (by omega),HR hn xs j i hj y u hi hy]at hS
 have hl:(xs.set j y).length=xs.length:=yyh;rw[hl];refine bI.mk hc ?_ jN hS;rw[oP hn,hl]
def czl{W w:Ζ}{l:Β}{v:Ε}{t:Ι}{sz n k:Nat}{kk:IntKind}{cells:Ξ}{K:Ε->Prop}(h:SL W l w)(mm:Has (.ob (bI v t sz n cells)) l)(hk:k<=n)
  (hK:∀A c,n-k<=c->(∀m c' w' l',m<=n-k->SL W l' w'->Has (.ob (bI v t sz n cells)) l'->kE w' sz (.slice A m c') m ((cells.drop (k*sz)).take (m*sz)))->K (.slice A (n-k) c)):fh sz v (some (.int kk (k:Int))) none none K:=by
 obtain⟨a,cap,rfl,hl,_⟩:=bI.at h mm;have oU:n<=cap:=by
  obtain⟨l2,r⟩:=mm.rem;rcases bI.open (h.perm r.perm) with ⟨⟨a',e⟩,rfl,rfl,_⟩|⟨b,Ej,rest,e,hc,_⟩
  ·cases e;omega
  cases e;exact hc
 refine⟨a,n,cap,k,n,cap,rfl,rfl,rfl,⟨kk,rfl⟩,hk,oU,zzi _,hK _ _ (by omega) λm c' w' l' hm h' m'=>?_⟩;obtain⟨a',Ej,e,_,hx⟩:=bI.at h' m';cases e;have oY:((cells.drop (k*sz)).take (m*sz)).length=m*sz:=by
  have:(k+m)*sz<=n*sz:=yyt _ (by omega);rw[yyz]at this
  rw[zzf,zzr,hl];omega
 rcases yy8 m with rfl|TO
 ·have:(cells.drop (k*sz)).take (0*sz)=[]:=by simp
  rw[this];generalize (if cap=k then a else a.map (·.add (k*sz)))=A;cases A with
  | none=>exact⟨rfl,rfl⟩
  | some p=>exact⟨rfl,by simp,λj v e=>by simp at e⟩
 obtain⟨b,rfl,h3⟩:=hx 0 (by omega);rw[zzb (show ¬cap=k by omega)];refine⟨rfl,oY,λj v e=>?_⟩;show w'.cell? (((⟨b,0,none⟩:Addr).add (k*sz)).add j)=some v;rw[yyb,yyb];refine h3 _ v ?_;rw[uua]at e
 split at e
 ·rw[wwj]at e
  rw[yye];exact e
 cases e
abbrev fD(v:Ε)(l:List Row):Μ:=.ob (bI v 66 2 l.length (l.map d_).flatten)
def Su{z v:Ε}(h:v.oneCell'=true):ir (cK [z] 1) [(0,1,v)]=some [v]:=by simp[ir,cK,Bg h]
def ve(r:Row):∀v∈d_ r,v.oneCell'=true:=by simp[d_,Value.oneCell']
def Ey(k:Int)(v:Η):d_ ⟨k,v⟩=[Γ k,.string v]:=rfl
def ed(x:Nat × List Row):zC:=jF λv:Ε=>zH True [.pt x.1 [v] 305,fD v x.2]
def ed.iff{W w:Ζ}{b:Nat}{C:List Row}{l:Β}:SL W (.ob (ed (b,C))::l) w↔∃v,SL W (.pt b [v] 305::fD v C::l) w:=by
 unfold ed;simp only[SL.ex,SL.fact,zzu,zzq,uuk]
def ed.put{W w:Ζ}{b:Nat}{C:List Row}{v:Ε}{l F:Β}(hS:SL W l w)(p:gx [.pt b [v] 305,fD v C] l F):SL W (.ob (ed (b,C))::F) w:=ed.iff.2 ⟨v,hS.pick p⟩
def qB(a:Int):SP 304 [Γ a] [] (cC (.bool false) []):=by
 refine Enzz λW F w hS=>?_;apply XK;unfold GQ;refine Gp ?_;rw[show decide (a≠a)=false by simp];(exact cA hS)
def pz(a b:Int):Int:=if a<b then -1 else if b<a then 1 else 0
def Rr{a b:Int}:pz a b<0↔a<b:=by unfold pz;split<;>(try split)<;>omega
def aRf{a b:Int}:pz a b=0↔a=b:=by unfold pz;split<;>(try split)<;>omega
def aRh(a b:Int):SP 246 [Γ a,Γ b] [] (cC (Γ (pz a b)) []):=by
 refine Enzz λW F w hS=>?_;apply XI;delta GO aI ai;refine Cg (qB a) λw hS=>?_;refine Cg (qB b) λw hS=>?_;refine za (λh=>?_) (λh=>?_)
 ·rw[show pz a b = -1 by unfold pz;rw[zzc h]];(exact cA hS)
 refine bY (λh2=>?_) (λh2=>?_)
 ·rw[show pz a b=1 by unfold pz;rw[zzb h,zzc h2]];(exact cA hS)
 rw[show pz a b=0 by unfold pz;rw[zzb h,zzb h2]];(exact cA hS)
def Yr(r:Row)(key:Int):SP 332 [agg (d_ r),Γ key] [] (cC (Γ (pz r.key key)) []):=by
 obtain⟨rk,rv⟩:=r;refine Enzz λW F w hS=>?_;apply cIj;delta Ow a_;refine zw hS λxb w hS=>?_;rw[Ey]at hS
 refine Gp ?_;refine Cg (aRh rk key) λw hS=>?_;(exact cA hS)
def cxz{i j:Nat}{K:Ε->Prop}(h:i+j<=1000000000)(k:K (Γ (((i+j) / 2:Nat):Int))):zc .add (Γ i) (Γ j) λa=>zL .u64 a λb=>zc .shr b (.int .u64 1) λc=>zL .i64 c K:=by
 refine Zz (by omega) (zW ?_);rw[wwz,show ((i+j:Nat):Int) % 18446744073709551616=((i+j:Nat):Int) by omega];have e:((i+j:Nat):Int).fdiv (2 ^ (min (1:Int).toNat IntKind.u64.bits))=(((i+j) / 2:Nat):Int):=by
  rw[show (min (1:Int).toNat IntKind.u64.bits)=1 by decide,vvu _ (by decide)];omega
 refine⟨_,by simp only[jw];rw[zzb (by decide)],?_⟩;rw[e];exact yz (by omega) k
def aF8(v:Ε)(C:List Row)(key:Int)(hs:f_ C)(hn:C.length<=1000000):
  SP 331 [v,Γ key,.func (.func 332) #[] #[]] [fD v C] (λu post=>∃i,AtR C key i/\u= .tuple #[Γ (i:Nat),.bool (lG C key i)]/\post=[fD v C]):=by
 refine Enzz λW F w hS=>?_;apply cIi;delta Ov aI ai;refine zt hS Xh ?_;refine⟨λus w=>∃i j:Nat,us=[Γ i,Γ j]/\i<=j/\j<=C.length/\(∀k (h:k<C.length),k<i->C[k].key<key)/\(∀h:j<C.length,key<=C[j].key)/\SL W (fD v C::F) w,
  λus _=>match us with|[.int _ i,.int _ j]=>(j-i).toNat|_=>0,⟨0,C.length,rfl,by omega,by omega,λk h hk=>by omega,λh=>by omega,hS⟩,?_⟩
 clear hS;rintro v9 v10 w ⟨i,j,cO,sq,hj,TL,Fg,hS⟩;cases cO;refine DE ?_;refine za (λh=>?_) (λh=>?_)
 ·refine cxz (by omega) ?_;generalize hm:(i+j) / 2=m;have nF:i<=m/\m<j:=by omega
  clear hm;have mw:m<C.length:=by omega
  refine zT hS Xh je (x:=C[m]) (by simp[mw]) mw ?_;refine⟨332,#[],#[],rfl,by decide,?_⟩;refine Cg (Yr C[m] key) λw hS=>?_;refine za (λh1=>?_) (λh1=>?_)
  ·have h1:=Rr.1 h1;refine Gp ?_;refine⟨⟨m+1,j,rfl,by omega,hj,λk hk hkm=>?_,Fg,hS⟩,by dsimp only;omega⟩;rcases xxx k m with h2|h2
   ·have:=xxk.1 hs k m hk mw h2;omega
   obtain rfl:k=m:=by omega
   exact h1
  have h1:¬C[m].key<key:=λh2=>h1 (Rr.2 h2);exact⟨⟨i,m,rfl,nF.1,by omega,TL,λ_=>by omega,hS⟩,by dsimp only;omega⟩
 obtain rfl:i=j:=by omega
 have hA:AtR C key i:=⟨hj,TL,Fg⟩;refine bY (λh1=>?_) (λh1=>?_)
 ·have cx:i<C.length:=by omega
  refine zT hS Xh je (x:=C[i]) (by simp[cx]) cx ?_;refine⟨332,#[],#[],rfl,by decide,?_⟩;refine Cg (Yr C[i] key) λw hS=>?_;have e:decide (pz C[i].key key=0)=lG C key i:=by
   unfold lG;rw[yyg,aRf];exact⟨λh=>⟨cx,h⟩,λ⟨_,h⟩=>h⟩
  rw[e];exact⟨_,⟨i,hA,rfl,rfl⟩,hS⟩
 have e:lG C key i=false:=zzz λ⟨h,_⟩=>h1 (by omega);rw[<- e];exact⟨_,⟨i,hA,rfl,rfl⟩,hS⟩
def qo(v:Ε)(n i:Nat)(cells:Ξ)(hi:i<n)(gB:∀v∈cells,v.oneCell'=true)(hb:n*24<=140737488355328)(hn:n<=140737488355328):
  SP 335 [v,Γ (i:Int),Γ ((i+1:Nat):Int)] [.ob (bI v 66 2 n cells)] (λu post=>post=[.ob (bI u 66 2 (n-1) (cells.take (i*2)++cells.drop ((i+1)*2)))]):=
 HC (z:=[Γ 0,.string ⟨#[]⟩]) (zv:=.agg #[Γ 0,.string ⟨#[]⟩]) (λv0 v1 v2 w R h=>cIm v0 v1 v2 w R h) xx3 (λw=>by kernel_rfl) rfl rfl (by simp[Value.oneCell']) v n i cells hi gB hb hn
def Rn(v:Ε)(C:List Row)(hn:C.length<=1000000):SP 103 [v] [fD v C] (λu post=>post=[fD u C,fD v C]):=
 aRc (λv0 w R h=>KJ v0 w R h) rfl (by decide) (tK ve C) (oP je C) (by omega) (by omega)
section
variable (b:Nat) (C:List Row) (key:Int) (hs:f_ C) (hn:C.length<=1000000)
include hs hn
def yN(v:Ε):SP 282 [cF b,Γ key] [.pt b [v] 305,fD v C] (λu post=>∃i,AtR C key i/\u= .tuple #[Γ (i:Nat),.bool (lG C key i)]/\post=[.pt b [v] 305,fD v C]):=by
 refine Enzz λW F w hS=>?_;apply cHe;delta NR bU;refine Gp ?_;refine Cc (aF8 v C key hs hn) ?_;clear hS;rintro u post ⟨i,hA,rfl,rfl⟩ w hS;(try simp only[app]at hS);refine Gp ?_
 exact⟨_,⟨i,hA,rfl,rfl⟩,aW hS⟩
def YA(val:Η):SP 268 [cF b,Γ key,.string val] [.ob (ed (b,C))] (λu post=>(∃q,u= .bool q)/\post=[.ob (ed (b,gN C ⟨key,val⟩))]):=by
 refine Enzz λW F w hS=>?_;apply cGz;delta NB bU cV cw ai cP;obtain⟨v,hS⟩:=ed.iff.1 hS;refine Cc (yN b C key hs hn v) ?_;clear hS;rintro u post ⟨i,hA,rfl,rfl⟩ w hS;(try simp only[app]at hS);refine Gp ?_
 have hi:=hA.ins val;have hle:=hA.le;cases hk:lG C key i with
 | true=>
  rw[hk,zzc rfl]at hi
  obtain⟨cx,_⟩:=zzm hk;refine zq ?_;refine Gp ?_;refine czg (enc:=d_) (y:=⟨key,val⟩) (Has.front hS (l2:=.pt b [v] 305::F) Xr) je cx (by decide) ?_ rfl λw hS=>?_
  ·obtain⟨_,e⟩:=zzm hk;rw[<- e];rfl
  rw[hi];exact⟨_,⟨⟨_,rfl⟩,rfl⟩,ed.iff.2 ⟨v,aW hS⟩⟩
 | false=>
  rw[hk,zzb (by decide)]at hi
  refine zp ?_;(repeat refine Gp ?_)
  refine cxj hS (Ss (cs:=d_ ⟨key,val⟩) rfl rfl) λvb w hS=>?_;refine Cc (qx v C.length i vb (C.map d_).flatten (d_ ⟨key,val⟩) hle rfl (tK ve _) (ve _) hn) ?_;clear hS;rintro u post rfl w hS;try simp only[app]at hS
  have h1:=bI.one hS;refine Gn λw hS=>?_;have e:((C.map d_).flatten.take (i*2)++d_ ⟨key,val⟩++(C.map d_).flatten.drop (i*2))=((gN C ⟨key,val⟩).map d_).flatten:=by
   rw[hi,ug je,vi je];simp
  have hl:C.length+1=(gN C ⟨key,val⟩).length:=by rw[hi];simp;omega
  rw[e,hl]at hS
  exact⟨_,⟨⟨_,rfl⟩,rfl⟩,ed.iff.2 ⟨u,aW hS⟩⟩
def bV4:SP 290 [cF b,Γ key] [.ob (ed (b,C))] (λu post=>(∃q,u= .bool q)/\post=[.ob (ed (b,jT C key))]):=by
 refine Enzz λW F w hS=>?_;apply cHm;delta NZ bU cV ai;obtain⟨v,hS⟩:=ed.iff.1 hS;refine Cc (yN b C key hs hn v) ?_;clear hS;rintro u post ⟨i,hA,rfl,rfl⟩ w hS;(try simp only[app]at hS);refine Gp ?_
 have hi:=hA.del hs;have hle:=hA.le;cases hk:lG C key i with
 | true=>
  rw[hk,zzc rfl]at hi
  obtain⟨cx,_⟩:=zzm hk;refine zq ?_;refine Gp ?_;refine Cc (qo v C.length i (C.map d_).flatten cx (tK ve _) (by omega) (by omega)) ?_;clear hS;rintro u post rfl w hS;try simp only[app]at hS
  have h1:=bI.one hS;refine Gn λw hS=>?_;have e:((C.map d_).flatten.take (i*2)++(C.map d_).flatten.drop ((i+1)*2))=((jT C key).map d_).flatten:=by
   rw[hi,ug je,vi je];simp
  have hl:C.length-1=(jT C key).length:=by rw[hi,zza,zzf,zzr];omega
  rw[e,hl]at hS
  exact⟨_,⟨⟨_,rfl⟩,rfl⟩,ed.iff.2 ⟨u,aW hS⟩⟩
 | false=>
  rw[hk,zzb (by decide)]at hi
  refine zp ?_;rw[hi];exact⟨_,⟨⟨_,rfl⟩,rfl⟩,ed.iff.2 ⟨v,aW hS⟩⟩
def SF(o:Option Η):Ε:=.tuple #[.string (o.getD emp),.bool o.isSome]
def bV9:SP 214 [cF b,Γ key] [.ob (ed (b,C))] (cC (SF (eU C key)) [.ob (ed (b,C))]):=by
 refine Enzz λW F w hS=>?_;apply cFw;delta MW bU a_ cL;obtain⟨v,hS⟩:=ed.iff.1 hS;refine Cc (yN b C key hs hn v) ?_;clear hS;rintro u post ⟨i,hA,rfl,rfl⟩ w hS;(try simp only[app]at hS);refine Gp ?_
 obtain⟨CL,ux⟩:=hA.get hs;cases hk:lG C key i with
 | true=>
  obtain⟨cx,e⟩:=zzm hk;refine zp ?_;refine Gp ?_;refine yh hS Xh je (x:=C[i]) (by simp[cx]) cx (i:=1) rfl ?_;rw[ux cx e];exact⟨_,⟨rfl,rfl⟩,ed.iff.2 ⟨v,aW hS⟩⟩
 | false=>
  refine zq ?_;have e:eU C key=none:=by
   rw[hk]at CL
   cases hg:eU C key with
   | none=>rfl
   | some x=>rw[hg]at CL;cases CL
  rw[e];exact⟨_,⟨rfl,rfl⟩,ed.iff.2 ⟨v,aW hS⟩⟩
def qv(n:Int)(h1 : -1000000<=n)(h2:n<=9000000000000000000):SP 298 [cF b,Γ key,Γ n] [.ob (ed (b,C))] (λu post=>post=[fD u (nU C key n),.ob (ed (b,C))]):=by
 refine Enzz λW F w hS=>?_;apply cHu;delta N7 bU ai;obtain⟨v,hS⟩:=ed.iff.1 hS;refine Cc (yN b C key hs hn v) ?_;clear hS;rintro u post ⟨i,hA,rfl,rfl⟩ w hS;(try simp only[app]at hS);refine Gp ?_
 have ha:=hA.after hs n;have hle:=hA.le;obtain⟨k,hk⟩:∃k,k=if lG C key i=true then i+1 else i:=⟨_,rfl⟩
 rw[<- hk]at ha
 have om:k<=C.length:=by
  rw[hk];split
  ·rename_i h;obtain⟨cx,_⟩:=zzm h;omega
  exact hle
 refine⟨λus w=>us=[Γ (k:Nat)]/\SL W (.pt b [v] 305::fD v C::F) w,?_,?_⟩
 ·cases hq:lG C key i with
  | true=>
   refine zq ?_;refine Gp ?_;exact⟨by rw[hk,hq,zzc rfl],aW hS⟩
  | false=>
   refine zp ?_;exact⟨by rw[hk,hq,zzb (by decide)],aW hS⟩
 clear hS;rintro v7 w ⟨cO,hS⟩;cases cO;refine Gp ?_;refine czl hS Xh om λA c hc iw=>?_;refine Gp ?_;obtain⟨m,hm⟩:∃m,m=min n.toNat (C.length-k):=⟨_,rfl⟩;have em:max (min n ((C.length-k:Nat):Int)) 0=((m:Nat):Int):=by omega
 rw[em];refine⟨A,C.length-k,c,0,m,c,rfl,rfl,⟨_,rfl⟩,rfl,zz4 _,by omega,zzi _,?_⟩;have eA:(if c=0 then A else A.map (·.add (0*2)))=A:=by
  split
  ·rfl
  cases A<;>simp[Addr.add]
 rw[eA,www,www];have ecs:((C.map d_).flatten.drop (k*2)).take (m*2)=((nU C key n).map d_).flatten:=by
  rw[vi je,ug je,ha];congr 2;rcases xxx n.toNat (C.length-k) with h|h
  ·congr 1;omega
  rw[zz2 (by rw[zzr];omega),zz2 (by rw[zzr];omega)]
 have el:m=(nU C key n).length:=by rw[ha,zzf,zzr];omega
 have Jc:∀v0 w R,BW 2 24 [Γ 0,.string ⟨#[]⟩] 66 66 v0 w R->aF 103 [v0] w R:=λv0 w R h=>KJ v0 w R h;refine Jc _ _ _ (Hr (sz:=2) (gT:=24) (z:=[Γ 0,.string ⟨#[]⟩]) (t:=66) (ts:=66) (n:=m) (cs:=((nU C key n).map d_).flatten) ⟨A,c,rfl⟩ (λw' d h=>?_) (by rw[oP je,<- el]) rfl (by decide) (tK ve _) (by omega) (by omega) hS λu w hS=>?_)
 ·rw[<- ecs];exact iw m c w' _ (by omega) h (.tl Xh)
 rw[el]at hS
 exact⟨_,rfl,SL.bZ (ed.put hS Xp) Xi⟩
end
def bV2(b:Nat)(C:List Row)(hn:C.length<=1000000):SP 135 [cF b] [.ob (ed (b,C))] (λu post=>post=[fD u C,.ob (ed (b,C))]):=by
 refine Enzz λW F w hS=>?_;apply cDq;delta Lz bU;obtain⟨v,hS⟩:=ed.iff.1 hS;refine Gp ?_;refine Cc (Rn v C hn) ?_;clear hS;rintro u post rfl w hS;try simp only[app]at hS
 exact⟨_,rfl,SL.bZ (ed.put hS Xp) Xi⟩
def Yy(b:Nat)(C:List Row):SP 186 [cF b] [.ob (ed (b,C))] (cC (Γ (C.length:Nat)) [.ob (ed (b,C))]):=by
 refine Enzz λW F w hS=>?_;apply cE7;delta Mw bU;obtain⟨v,hS⟩:=ed.iff.1 hS;refine Gp ?_;refine zt hS Xh ?_;exact⟨_,⟨rfl,rfl⟩,ed.iff.2 ⟨v,aW hS⟩⟩
def Yz(H:bw)(v:Ε)(l:List Row)(hv:dx H 2 v l.length (l.map d_).flatten)(hl:l.length<=100000):SP 194 [v] [.mem H] (λu post=>∃b,u=cF b/\post=[.ob (ed (b,nP [] l)),.mem H]):=by
 refine Enzz λW F w hS=>?_;apply cFc;delta MB aI a_ ai cP bR;refine Gp ?_;refine zw hS λxb w hS=>?_;have hS:SL W (fD Θ []::_) _:=bI.nil hS;have hS:SL W (.ob (ed (xb,[]))::.mem H::F) _:=ed.iff.2 ⟨_,aW hS⟩;refine zo hv ?_;refine⟨λus w=>∃i:Nat,us=[Γ i]/\i<=l.length/\SL W (.ob (ed (xb,nP [] (l.take i)))::.mem H::F) w,λus _=>match us with|[.int _ i]=>(l.length-i).toNat|_=>0,⟨0,rfl,by omega,hS⟩,?_⟩;clear hS;rintro v10 w ⟨i,cO,hi,hS⟩;cases cO;refine bY (λh=>?_) (λh=>?_)
 ·have cx:i<l.length:=by omega
  have hp:=cnl cx [];have fX:=Wf (l.take i) (C:=[]) List.Pairwise.nil;have AQ:=We (l.take i) [];rw[zzf,yyp]at AQ
  refine zD hS Xh je hv (x:=l[i]) (by simp[cx]) cx ?_;generalize l[i]=r at *
  have hP:(nP [] (l.take i)).length<=1000000:=by omega
  clear AQ;generalize nP [] (l.take i)=P at *
  obtain⟨rk,rv⟩:=r;rw[Ey];refine Gm λb w hS=>?_;refine Cc (YA xb P rk fX hP rv) ?_;clear hS;rintro u post ⟨⟨q,rfl⟩,rfl⟩ w hS;(try simp only[app]at hS);refine Gp ?_
  rw[<- hp]at hS
  exact⟨⟨i+1,rfl,by omega,aW hS⟩,by dsimp only;omega⟩
 obtain rfl:i=l.length:=by omega
 rw[zz0]at hS
 exact⟨_,⟨xb,rfl,rfl⟩,aW hS⟩
def rZ(p:Nat × List Row):Ξ:=[cF p.1]
def vd(p:Nat × List Row):(rZ p).length=1:=rfl
abbrev jt(v:Ε)(L:List (Nat × List Row)):Μ:=.ob (bI v 238 1 L.length (L.map rZ).flatten)
def dL(sp:Nat)(ts:List (List Row)):zC:=jF λx:Ε × List (Nat × List Row)=>zH (x.2.map Prod.snd=ts) [.pt sp [x.1] 241,jt x.1 x.2,.ob (ze ed x.2)]
def dL.iff{W w:Ζ}{sp:Nat}{ts:List (List Row)}{l:Β}:SL W (.ob (dL sp ts)::l) w↔∃v L,L.map Prod.snd=ts/\SL W (.pt sp [v] 241::jt v L::.ob (ze ed L)::l) w:=by
 unfold dL;simp only[SL.ex,SL.fact,zzu,zzq];exact⟨λ⟨x,h1,h2⟩=>⟨x.1,x.2,h1,h2⟩,λ⟨v,L,h1,h2⟩=>⟨(v,L),h1,h2⟩⟩
def dL.put{W w:Ζ}{sp:Nat}{v:Ε}{L:List (Nat × List Row)}{ts:List (List Row)}{l F:Β}(hL:L.map Prod.snd=ts)(hS:SL W l w)(p:gx [.pt sp [v] 241,jt v L,.ob (ze ed L)] l F):SL W (.ob (dL sp ts)::F) w:=dL.iff.2 ⟨v,L,hL,hS.pick p⟩
def tN{L:List (Nat × List Row)}{ts:List (List Row)}(h:L.map Prod.snd=ts):L.length=ts.length:=by rw[<- h,zzn]
def xV{L:List (Nat × List Row)}{ts:List (List Row)}(h:L.map Prod.snd=ts){i:Nat}(hi:i<ts.length):∃b,L[i]?=some (b,ts[i]):=by
 subst h;have hl:i<L.length:=by simpa using hi
 exact⟨L[i].1,by rw[zzd hl];simp⟩
def WX{L:List (Nat × List Row)}{ts:List (List Row)}(h:L.map Prod.snd=ts)(i:Nat)(b:Nat)(C:List Row):(L.set i (b,C)).map Prod.snd=ts.set i C:=by
 rw[<- h,vvh]
def one_set{L:List (Nat × List Row)}{i b:Nat}{C D:List Row}(h:L[i]?=some (b,C)):(L.set i (b,D)).map rZ=L.map rZ:=by
 refine xxp (by simp) λj h1 h2=>?_;simp only[zzn,yyh]at h1;rw[xxy,xxy,xxi];split
 ·rename_i e;subst e;rw[zzd h1]at h
  rw[xx5 h];rfl
 rfl
def jt.set{W w:Ζ}{v:Ε}{L:List (Nat × List Row)}{i b:Nat}{C D:List Row}{l:Β}(h:L[i]?=some (b,C))(hS:SL W (jt v L::l) w):SL W (jt v (L.set i (b,D))::l) w:=by
 have e:=one_set (D:=D) h;have e2:(L.set i (b,D)).length=L.length:=yyh;unfold jt;rw[e,e2];exact hS
section
variable (sp:Nat) (ts:List (List Row))
def yr:SP 110 [cF sp] [.ob (dL sp ts)] (cC (Γ (ts.length:Nat)) [.ob (dL sp ts)]):=by
 refine Enzz λW F w hS=>?_;apply cDa;delta Lj bU;obtain⟨v,L,hL,hS⟩:=dL.iff.1 hS;rw[<- tN hL];refine Gp ?_;refine zt hS Xh ?_;exact⟨_,⟨rfl,rfl⟩,SL.bZ (dL.put hL hS Xp) Xi⟩
def yt(t:Int):SP 134 [cF sp,Γ t] [.ob (dL sp ts)] (cC (.bool (decide (0<=t/\t<ts.length))) [.ob (dL sp ts)]):=by
 refine Enzz λW F w hS=>?_;apply cDp;delta Ly aI bU cw ai;obtain⟨v,L,hL,hS⟩:=dL.iff.1 hS;have hl:=tN hL;refine bY (λh=>?_) (λh=>?_)
 ·refine Gp ?_;refine zt hS Xh ?_;refine Gp ?_;rw[show decide (0<=t/\t<(ts.length:Int))=decide (t<(L.length:Int)) from yyg.2 ⟨λh=>by omega,λh=>by omega⟩];exact⟨_,⟨rfl,rfl⟩,SL.bZ (dL.put hL hS Xp) Xi⟩
 rw[show decide (0<=t/\t<(ts.length:Int))=false from zzz λh=>by omega];exact⟨_,⟨rfl,rfl⟩,SL.bZ (dL.put hL hS Xp) Xi⟩
def DL{ts:List (List Row)}{t:Int}(h:¬(0<=t/\t<ts.length)):gX ts t=[]:=by
 unfold gX;split
 ·rfl
 rw[yyr (by omega)];rfl
def Q9(t:Int)(hn:∀C∈ts,C.length<=1000000):SP 84 [cF sp,Γ t] [.ob (dL sp ts)] (λu post=>post=[fD u (gX ts t),.ob (dL sp ts)]):=by
 refine Enzz λW F w hS=>?_;apply cKi;delta Pz bU a_ cL bR;refine Cg (yt sp ts t) λw hS=>?_;refine zu (λh=>?_) (λh=>?_)
 ·rw[DL (yyw h)];exact⟨_,rfl,bI.nil hS⟩
 obtain⟨h0,h1⟩:=zzm h;obtain⟨t,rfl⟩:∃n:Nat,t=n:=⟨t.toNat,by omega⟩;have ht:t<ts.length:=by omega
 rw[nR ts t ht];obtain⟨v,L,hL,hS⟩:=dL.iff.1 hS;obtain⟨b,hb⟩:=xV hL ht;have hl:=tN hL;refine Gp ?_;refine yh hS Xh vd hb (by omega) (i:=0) rfl ?_;have hS:=ze.take (SL.bZ hS (t:=.ob (ze ed L)::.pt sp [v] 241::jt v L::F) Xi) hb;refine Cc (bV2 b ts[t] (hn _ (zzg ht))) ?_;clear hS;rintro u post rfl w hS;try simp only[app]at hS
 have hS:=ze.back (SL.bZ hS (t:=.ob (ed (b,ts[t]))::.ob (ze ed (L.eraseIdx t))::fD u ts[t]::.pt sp [v] 241::jt v L::F) Xi) hb;exact⟨_,rfl,SL.bZ (dL.put hL hS Xp) Xi⟩
def qT(t key n:Int)(hn:∀C∈ts,C.length<=1000000)(hs:∀C∈ts,f_ C)(h1 : -1000000<=n)(h2:n<=9000000000000000000):SP 234 [cF sp,Γ t,Γ key,Γ n] [.ob (dL sp ts)] (λu post=>post=[fD u (nU (gX ts t) key n),.ob (dL sp ts)]):=by
 refine Enzz λW F w hS=>?_;apply cGg;delta Nh bU a_ cL bR;refine Cg (yt sp ts t) λw hS=>?_;refine zu (λh=>?_) (λh=>?_)
 ·rw[DL (yyw h),show nU [] key n=[] by simp[nU]];exact⟨_,rfl,bI.nil hS⟩
 obtain⟨h0,h3⟩:=zzm h;obtain⟨t,rfl⟩:∃n:Nat,t=n:=⟨t.toNat,by omega⟩;have ht:t<ts.length:=by omega
 rw[nR ts t ht];obtain⟨v,L,hL,hS⟩:=dL.iff.1 hS;obtain⟨b,hb⟩:=xV hL ht;have hl:=tN hL;refine Gp ?_;refine yh hS Xh vd hb (by omega) (i:=0) rfl ?_;have hS:=ze.take (SL.bZ hS (t:=.ob (ze ed L)::.pt sp [v] 241::jt v L::F) Xi) hb;refine Cc (qv b ts[t] key (hs _ (zzg ht)) (hn _ (zzg ht)) n h1 h2) ?_;clear hS;rintro u post rfl w hS;try simp only[app]at hS
 have hS:=ze.back (SL.bZ hS (t:=.ob (ed (b,ts[t]))::.ob (ze ed (L.eraseIdx t))::fD u (nU ts[t] key n)::.pt sp [v] 241::jt v L::F) Xi) hb;exact⟨_,rfl,SL.bZ (dL.put hL hS Xp) Xi⟩
end
def BR(n:Int)(u:Ε)(post:Β):Prop:=if n<1\/8<n then u= .tuple #[.pointer none,Γ 1]/\post=[] else ∃sp,u= .tuple #[cF sp,Γ 0]/\post=[.ob (dL sp (List.replicate n.toNat []))]
def Q3(n:Int):SP 137 [Γ n] [] (BR n):=by
 refine Enzz λW F w hS=>?_;apply cDs;delta LB aI cV aR bV ai cT bR;refine Gp ?_;refine za (λh=>⟨[],by unfold BR;rw[zzc (.inl h)];exact⟨rfl,rfl⟩,hS⟩) (λh1=>?_);refine Gp ?_;refine za (λh=>⟨[],by unfold BR;rw[zzc (.inr h)];exact⟨rfl,rfl⟩,hS⟩) (λh2=>?_);refine Gp ?_;refine zw hS λsp w hS=>?_;have hS:SL W (jt Θ []::_) _:=bI.nil hS;have hS:SL W (.ob (ze ed [])::_) _:=ze.nil hS;refine⟨λus w=>∃(i:Nat) (v:Ε) (L:List (Nat × List Row)),us=[Γ i]/\i<=n/\L.map Prod.snd=List.replicate i []/\SL W (.pt sp [v] 241::jt v L::.ob (ze ed L)::F) w,
  λus _=>match us with|[.int _ i]=>(n-i).toNat|_=>0,⟨0,_,[],rfl,by omega,rfl,aW hS⟩,?_⟩
 clear hS;rintro KE w ⟨i,v,L,cO,hi,hL,hS⟩;cases cO;have hl:=tN hL;rw[xxf]at hl
 refine bY (λh=>?_) (λh=>?_)
 ·refine Gn λw hS=>?_;have hS:=SL.JD hS;refine Cc (Yz bw.emp Θ [] (dx.nil _ _) (by decide)) ?_;clear hS;rintro u post ⟨xb,rfl,rfl⟩ w hS;refine Gm λb w hS=>?_;refine yy (n:=L.length) (xs:=L) (y:=(xb,[])) (enc:=rZ) hS Xr Xh vd (λx=>by simp[rZ,Value.oneCell']) rfl (by omega) (by omega) λu w hS=>?_;have rr:=bI.one hS;refine Gn λw hS=>?_;refine⟨⟨i+1,u,L++[(xb,[])],rfl,by omega,by rw[zzs,hL,List.replicate_succ'];rfl,?_⟩,by dsimp only;omega⟩;have hS:=hS.pY (x:=(xb,([]:List Row)));rw[show nP [] []=[] from rfl]at hS
  have hS:=ze.snoc (SL.bZ hS (t:=.ob (ze ed L)::.ob (ed (xb,[]))::.pt sp [u] 241::jt u (L++[(xb,[])])::F) Xi);exact aW hS
 refine⟨[.ob (dL sp (List.replicate n.toNat []))],?_,SL.bZ (dL.put (ts:=List.replicate n.toNat []) (by rw[hL];congr 1;omega) hS Xp) Xi⟩;unfold BR;rw[zzb (by omega)];exact⟨sp,rfl,rfl⟩
def awr{ts:List (List Row)}(h:∀C∈ts,f_ C){c:eh}(ht:hY ts.length c=true):∀C∈kj ts c,f_ C:=λC hC=>by
 rcases JE hC with hC|rfl
 ·exact h C hC
 have h1:=h _ (DK (zzm ht));unfold lq;split
 ·exact W5 h1 _
 exact Km h1 _
def Ee:∀{l:List eh} {ts:List (List Row)},(∀C∈ts,f_ C)->(∀c∈l,hY ts.length c=true)->∀C∈fV ts l,f_ C
 | [],ts,h,_=>h
 | c::l,ts,h,h2=>by
  show ∀C∈fV (kj ts c) l,f_ C;refine Ee (awr h (h2 c (.head _))) λx hx=>?_;rw[wj];exact h2 x (.tail _ hx)
def cBs(b:Nat)(C D:List Row)(c:eh)(hs:f_ C)(hn:C.length<=1000000):SP 222 [agg (rZ (b,D)),agg (fN c)] [.ob (ed (b,C))] (λ_ post=>post=[.ob (ed (b,lq C c))]):=by
 refine Enzz λW F w hS=>?_;apply cF4;delta M5 a_;refine zw hS λxb w hS=>?_;refine zw hS λyb w hS=>?_;unfold fN rZ at hS;obtain⟨ct,ck,cg,cv⟩:=c;refine Gp ?_;cases cg with
 | true=>
  refine zq ?_;refine Gp ?_;refine Cc (bV4 b C ck hs hn) ?_;clear hS;rintro u post ⟨⟨q,rfl⟩,rfl⟩ w hS;try simp only[app]at hS
  have hS:SL W (.ob (ed (b,lq C ⟨ct,ck,true,cv⟩))::_::_::F) _:=hS;exact⟨_,rfl,aW hS⟩
 | false=>
  refine zp ?_;refine Gp ?_;refine Cc (YA b C ck hs hn cv) ?_;clear hS;rintro u post ⟨⟨q,rfl⟩,rfl⟩ w hS;try simp only[app]at hS
  have hS:SL W (.ob (ed (b,lq C ⟨ct,ck,false,cv⟩))::_::_::F) _:=hS;exact⟨_,rfl,aW hS⟩
section
variable (sp:Nat) (ts:List (List Row)) (H:bw) (v:Ε) (l:List eh) (hv:dx H 4 v l.length (l.map fN).flatten) (hl:l.length<=140737488351232)
include hv hl
def YQ:SP 213 [cF sp,v] [.ob (dL sp ts),.mem H] (cC (.bool (l.all (hY ts.length))) [.ob (dL sp ts),.mem H]):=by
 refine Enzz λW F w hS=>?_;apply cFv;delta MV aI a_ cL cw ai cP;refine zo hv ?_;refine⟨λus w=>∃i:Nat,us=[Γ i]/\i<=l.length/\(∀j (h:j<l.length),j<i->hY ts.length l[j]=true)/\SL W (.ob (dL sp ts)::.mem H::F) w,λus _=>match us with|[.int _ i]=>(l.length-i).toNat|_=>0,⟨0,rfl,by omega,λj h hj=>by omega,hS⟩,?_⟩;clear hS;rintro v9 w ⟨i,cO,hi,eE,hS⟩;cases cO;refine bY (λh=>?_) (λh=>?_)
 ·have cx:i<l.length:=by omega
  refine zD hS Xh s3 hv (x:=l[i]) (by simp[cx]) cx ?_;have hq:hY ts.length l[i]=decide (0<=l[i].table/\l[i].table<(ts.length:Int)):=rfl;have hf:hY ts.length l[i]=false->l.all (hY ts.length)=false:=λh=>tta.2 ⟨_,zzg cx,by rw[h];decide⟩;have Ik:hY ts.length l[i]=true->∀j (h:j<l.length),j<i+1->hY ts.length l[j]=true:=λh j hj iX=>by
   by_cases e:j=i
   ·subst e;exact h
   exact eE j hj (by omega)
  clear eE;generalize l[i]=c at *
  obtain⟨ct,ck,cg,cv⟩:=c;refine Gm λb w hS=>?_;refine Cg (yt sp ts ct) λw hS=>?_;refine zu (λhb=>?_) (λhb=>?_)
  ·rw[hf (by rw[hq];exact hb)];(exact cA hS)
  refine Gp ?_;refine⟨⟨i+1,rfl,by omega,Ik (by rw[hq];exact hb),aW hS⟩,by dsimp only;omega⟩
 rw[show l.all (hY ts.length)=true from zz6.2 λc hc=>by
  obtain⟨j,hj,rfl⟩:=yyi hc;exact eE j hj (by omega)]
 (exact cA hS)
def ZM(hs:∀C∈ts,f_ C)(N:Nat)(hn:∀C∈ts,C.length<=N)(hN:N+l.length<=1000000):SP 164 [cF sp,v] [.ob (dL sp ts),.mem H] (cC (.bool (l.all (hY ts.length))) [.ob (dL sp (if l.all (hY ts.length)=true then fV ts l else ts)),.mem H]):=by
 refine Enzz λW F w hS=>?_;apply cEl;delta Ma aI bU a_ cL cw ai cP;refine Cg (YQ sp ts H v l hv hl) λw hS=>?_;cases ha:l.all (hY ts.length) with
 | false=>
  refine zq ?_;rw[zzb (by decide)];(exact cA hS)
 | true=>
  refine zp ?_;rw[zzc rfl];have ha:=zz6.1 ha;refine zo hv ?_;refine⟨λus w=>∃i:Nat,us=[Γ i]/\i<=l.length/\SL W (.ob (dL sp (fV ts (l.take i)))::.mem H::F) w,λus _=>match us with|[.int _ i]=>(l.length-i).toNat|_=>0,⟨0,rfl,by omega,hS⟩,?_⟩;clear hS;rintro Gr w ⟨i,cO,hi,hS⟩;cases cO;refine bY (λh=>?_) (λh=>?_)
  ·have cx:i<l.length:=by omega
   have fX:fV ts (l.take (i+1))=kj (fV ts (l.take i)) l[i]:=by rw[zze cx,P2]
   have jW:=ha _ (zzg cx);have vn:=tV ts (l.take i);have s_:=Ee (l:=l.take i) hs λc hc=>ha c (yyo hc);have wW:=Ed N (l:=l.take i) hn λc hc=>ha c (yyo hc);have k9:(l.take i).length<=l.length:=by rw[zzf];omega
   generalize fV ts (l.take i)=T at *
   refine zD hS Xh s3 hv (x:=l[i]) (by simp[cx]) cx ?_;generalize l[i]=c at *
   obtain⟨ct,ck,cg,cv⟩:=c;obtain⟨h0,h1⟩:0<=ct/\ct<(ts.length:Int):=zzm jW;obtain⟨t,rfl⟩:∃n:Nat,ct=n:=⟨ct.toNat,by omega⟩;have ht:t<T.length:=by omega
   have uF:T[t]∈T:=zzg ht;obtain⟨pv,L,hL,hS⟩:=dL.iff.1 hS;obtain⟨b0,hb⟩:=xV hL ht;have Ih:=tN hL;refine Gm λb w hS=>?_;refine zT hS Xh vd hb (by omega) ?_;refine Gp ?_;have hS:=ze.take (SL.bZ hS (t:=.ob (ze ed L)::.pt sp [pv] 241::jt pv L::.mem H::F) Xi) hb;refine Cc (cBs b0 T[t] T[t] ⟨t,ck,cg,cv⟩ (s_ _ uF) (by have:=wW _ uF;omega)) ?_;clear hS;rintro u post rfl w hS;(try simp only[app]at hS);refine Gp ?_
   have hS:=ze.put hS (by omega);have hS:=jt.set (D:=lq T[t] ⟨t,ck,cg,cv⟩) hb (SL.bZ hS (t:=jt pv L::.ob (ze ed (L.set t (b0,lq T[t] ⟨t,ck,cg,cv⟩)))::.pt sp [pv] 241::.mem H::F) Xi);refine⟨⟨i+1,rfl,by omega,?_⟩,by dsimp only;omega⟩;rw[fX];refine SL.bZ (dL.put (ts:=kj T ⟨t,ck,cg,cv⟩) ?_ hS Xp) Xi;rw[WX hL t b0];unfold kj;rw[nR T t ht];rfl
  obtain rfl:i=l.length:=by omega
  rw[zz0]at hS
  (exact cA hS)
end
structure BP{κ:Type}[DecidableEq κ](P:Program)(kt:Ι)(key:κ->Ε):Prop where
 wide:∃fs,P.underlying kt=some (.struct fs)
 check:∀(k:κ) (em:Bool) (w:Ζ),(Instr.checkKey em 10000 kt (key k)).run P w= .ok () w
 eq:∀(a b:κ) (w:Ζ),(Op.equal kt (key a) (key b)).run P w= .ok (decide (a=b)) w
 stays:∀(k:κ) (w:Ζ),(Instr.keyThatStays (key k) (key k)).run P w= .ok (key k) w
 inj:∀{a b:κ},key a=key b->a=b
section
variable {W w:Ζ} {l l':Β} {κ α:Type} [DecidableEq κ] {key:κ->Ε} {val:α->Ε} {b:Nat} {m:List (κ × α)} {P:Program} {t kt et:Ι} {z:Ε} {k:κ}
def EC(ok:BP P kt key)(k:κ)(es:List MapEntry):(Instr.findKey kt (key k) es).run P w=(Instr.findAsking kt (key k) es).run P w:=by
 obtain⟨fs,hd⟩:=ok.wide;cases es with
 | nil=>simp[Instr.findKey,yyn hd,Result.andThen,Instr.findNow,Instr.findAsking]
 | cons e es=>simp[Instr.findKey,yyn hd,Result.andThen,Instr.findNow,Instr.sameNow]
def HP(ok:BP P kt key)(k:κ):∀(es:List MapEntry) (m:List (κ × α)) (i:Nat),es.map kv=m.map (kw key val) ->
  ((Instr.findAsking kt (key k) es i).run P w= .ok none w/\fK m k=none/\(∀v,gD m k v=m++[(k,v)])/\∀x∈es,x.key≠key k) \/
  ∃j e a,(Instr.findAsking kt (key k) es i).run P w= .ok (some (i+j,val a)) w/\es[j]?=some e/\e.key=key k/\fK m k=some a /\
   (∀v,(es.modify j λe=>{e with key:=key k,val:=val v}).map kv=(gD m k v).map (kw key val))
 | [],[],_,_=>.inl ⟨rfl,rfl,λ_=>rfl,by simp⟩
 | [],_::_,_,h=>by simp at h
 | _::_,[],_,h=>by simp at h
 | e::es,p::m,i,h=>by
  simp only[zzo,List.cons.injEq]at h;obtain⟨h1,h2⟩:=h;obtain⟨x,y⟩:=p;simp only[kv,kw,wwy]at h1;obtain⟨oR,AE⟩:=h1;have hq:=ok.eq k x w;by_cases hx:x=k
  ·subst hx;rw[zzl rfl]at hq
   refine .inr ⟨0,e,y,by simp[Instr.findAsking,oR,hq,AE,Result.andThen],rfl,oR,by simp[fK],?_⟩;intro v;simp[gD,kv,kw];exact h2
  rw[zzz (λh=>hx h.symm)]at hq
  rcases HP ok k es m (i+1) h2 with ⟨a1,a2,a3,a5⟩|⟨j,e',a,a1,a2,a3,a4,a5⟩
  ·refine .inl ⟨by simp[Instr.findAsking,oR,hq,a1,Result.andThen],by simp[fK,hx,a2],λv=>by simp[gD,hx,a3],?_⟩;intro z hz;rcases zz8.1 hz with rfl|hz
   ·rw[oR];exact λq=>hx (ok.inj q)
   exact a5 z hz
  refine .inr ⟨j+1,e',a,by simp[Instr.findAsking,oR,hq,a1,Result.andThen];omega,by simpa using a2,a3,by simp[fK,hx,a4],?_⟩;intro v;simp[gD,hx,kv,kw,oR,AE];exact a5 v
def cx8{K:Ε->Prop}(hS:SL W l w)(hm:Has (.ob (eC key val b m)) l)(ok:BP P kt key)(ht:P.underlying t=some (.map kt et))(hz:∀w,(zeroValue et).run P w= .ok z w)
  (h:K (.tuple #[((fK m k).map val).getD z,.bool (fK m k).isSome])):eW P (Instr.lookup t (.map (some b)) (key k) true) w K:=by
 obtain⟨es,c,e1,e2,hb⟩:=hS.xJ hm;rcases HP (w:=w) ok k es m 0 e1 with ⟨a1,a2,_,_⟩|⟨j,e,a,a1,_,_,a4,_⟩
 ·refine⟨_,?_,h⟩;simp[Instr.lookup,yyn ht,yyx hb,ok.check,EC ok,a1,hz,Result.andThen,a2]
 refine⟨_,?_,h⟩;simp[Instr.lookup,yyn ht,yyx hb,ok.check,EC ok,a1,Result.andThen,a4]
def cx9{v:α}{K:Ε->Ζ->Prop}(hS:SL W l w)(u:ga (.ob (eC key val b m)) (.ob (eC key val b (gD m k v))) l l')(ok:BP P kt key)(ht:P.underlying t=some (.map kt et))
  (h:∀u w',SL W l' w'->K u w'):zR P (do Instr.mapUpdate t (.map (some b)) (key k) (val v);pure undef) w K:=by
 obtain⟨es,c,e1,e2,hb⟩:=hS.xJ u.has;rcases HP (w:=w) ok k es m 0 e1 with ⟨a1,_,a3,a5⟩|⟨j,e,a,a1,a2,a3,_,a5⟩
 ·refine⟨undef,{w with heap:=w.heap.setIfInBounds b (.map (es++[({key:=key k,val:=val v,born:=c}:MapEntry)]).toArray (c+1))},?_,h _ _ (hS.Bd u hb (by rw[a3];simp[e1,kv,kw]) ?_)⟩
  ·simp[Instr.mapUpdate,yyn ht,yyx hb,ok.check,EC ok,a1,wwf _ hb,Result.andThen]
  have:=MapKept.stamped_push e2 (key:=key k) (val:=val v) (by simpa using a5);simpa using this
 refine⟨undef,{w with heap:=w.heap.setIfInBounds b (.map (es.modify j λe=>{e with key:=key k,val:=val v}).toArray c)},?_,h _ _ (hS.Bd u hb (a5 v) ?_)⟩
 ·have hj:es.toArray[j]?=some e:=by simpa using a2
  simp[Instr.mapUpdate,yyn ht,yyx hb,ok.check,EC ok,a1,a2,a3,ok.stays,wwf _ hb,Result.andThen]
 have xg:∀e',es.toArray[j]?=some e'->({e' with key:=key k,val:=val v}:MapEntry).key=e'.key:=λe' l7=>by
  have:es[j]?=some e':=by simpa using l7
  rw[a2]at this;cases this;exact a3.symm
 have:=MapKept.stamped_modify e2 j (λe=>{e with key:=key k,val:=val v}) (λ_ _=>rfl) (λe' _ l7=>xg e' l7);simpa using this
end
def Ce(p:Int × Int):Ξ:=[Γ p.1,Γ p.2]
def lK(p:Int × Int):Ε:=agg (Ce p)
def bwg(a b:Int × Int)(w:Ζ):(Op.equal 336 (lK a) (lK b)).run Tryz.prog w= .ok (decide (a=b)) w:=by
 refine DC uu7 (by kernel_rfl) ?_;obtain⟨k1,v1⟩:=a;obtain⟨k2,v2⟩:=b;simp[Ce,Op.eqFields,part,xxw (h:=yyv),xxw (h:=yyc),Result.andThen];by_cases h0:k1=k2<;>by_cases h1:v1=v2<;>simp[*]
def V9:BP Tryz.prog 336 lK where
 wide:=⟨_,uu7⟩
 check:=λk em w=>by
  obtain⟨a,b⟩:=k;have h1:(Instr.checkKey em 9999 3 (Γ a)).run Tryz.prog w= .ok () w:=xxe (k:=Γ a) yyc (o9 .i64 |>.is a) em 9998;have h2:(Instr.checkKey em 9999 2 (Γ b)).run Tryz.prog w= .ok () w:=xxe (k:=Γ b) yyv (o9 .i64 |>.is b) em 9998;show (Instr.checkKey em (9999+1) _ _).run Tryz.prog w=_;unfold Instr.checkKey;simp[lK,Ce,yyn uu7,part,h1,h2,Result.andThen]
 eq:=bwg
 stays:=λk w=>by
  have:Instr.sameBits 10000 (lK k) (lK k)=true:=by simp[lK,Ce,Instr.sameBits]
  simp[Instr.keyThatStays,this]
 inj:=λ{a b} h=>by
  obtain⟨a1,a2⟩:=a;obtain⟨b1,b2⟩:=b;simp[lK,Ce]at h
  rw[h.1,h.2]
def czn{W w:Ζ}{l:Β}{α:Type}{enc:α->Ξ}{v:Ε}{t:Ι}{sz j:Nat}{k:IntKind}{xs:List α}{y:α}{K:Ζ->Prop}(hS:SL W (.ob (bI v t sz xs.length (xs.map enc).flatten)::l) w)(hn:∀x,(enc x).length=sz)
  (hj:j<xs.length) (h1:∀v∈enc y,v.oneCell'=true) (hK:∀w',SL W (.ob (bI v t sz (xs.set j y).length ((xs.set j y).map enc).flatten)::l) w'->K w'):zk sz v (.int k (j:Int)) λq=>zj sz q (agg (enc y)) w K:=by
 rcases bI.open hS with ⟨_,h0,_⟩|⟨b,cap,rest,rfl,hc,hlen,jN,hS⟩
 ·omega
 have dd:j*sz+sz<=xs.length*sz:=by
  have:(j+1)*sz<=xs.length*sz:=yyt _ hj
  rwa [yyz,wwm]at this
 refine zG hj ?_;rw[yye];refine Ye hS .hd (hn y) (by rw[zza];omega) h1 λw' hS=>hK w' ?_;have e:((xs.map enc).flatten++rest).take (j*sz)++enc y++((xs.map enc).flatten++rest).drop (j*sz+sz)=((xs.set j y).map enc).flatten++rest:=by
  rw[xxa (by omega),xxb (by omega),ug hn,show j*sz+sz=(j+1)*sz by rw[yyz,wwm],vi hn,xxc,zzc hj];simp
 rw[e]at hS
 have hl:(xs.set j y).length=xs.length:=yyh;rw[hl];exact bI.mk hc (by rw[oP hn,hl]) jN hS
def Q8(sp:Nat)(ts:List (List Row))(H:bw)(v:Ε)(t:Nat)(l:List Row)(ht:t<ts.length)(hv:dx H 2 v l.length (l.map d_).flatten)(hs:f_ l)(hl:l.length<=100000):
  SP 199 [cF sp,Γ (t:Int),v] [.ob (dL sp ts),.mem H] (cC (.bool true) [.ob (dL sp (ts.set t l)),.mem H]):=by
 refine Enzz λW F w hS=>?_;apply cFh;delta MG aR bV cT;refine Cg (yt sp ts t) λw hS=>?_;refine za (λ_=>?_) (λh=>by omega);obtain⟨pv,L,hL,hS⟩:=dL.iff.1 hS;have hl2:=tN hL;obtain⟨b0,hb⟩:=xV hL ht;refine Gn λw hS=>?_;refine Cc (Yz H v l hv hl) ?_;clear hS;rintro u post ⟨xb,rfl,rfl⟩ w hS;try simp only[app]at hS
 rw[cnk hs]at hS
 refine Gp ?_;refine czn (enc:=rZ) (y:=(xb,l)) (SL.bZ hS (t:=jt pv L::.ob (ze ed L)::.ob (ed (xb,l))::.pt sp [pv] 241::.mem H::F) Xi) vd (by omega) (by simp[rZ,Value.oneCell']) λw hS=>?_;have hS:=ze.take (SL.bZ hS (t:=.ob (ze ed L)::.ob (ed (xb,l))::.pt sp [pv] 241::jt pv (L.set t (xb,l))::.mem H::F) Xi) hb;have hS:=ze.put (SL.bZ hS (t:=.ob (ed (xb,l))::.ob (ze ed (L.eraseIdx t))::.pt sp [pv] 241::jt pv (L.set t (xb,l))::.mem H::F) Xi) (by omega);have hS:=dL.put (WX hL t xb l) hS Xp;refine Cg (yt sp (ts.set t l) t) λw hS=>?_;rw[show decide (0<=(t:Int)/\(t:Int)<((ts.set t l).length:Int))=true from zzl (by rw[yyh];omega)];(exact cA hS)
def UJ:∀{C:List Row},f_ C->∀(k:Int) (v:Η),(gN C ⟨k,v⟩).length=C.length+if (eU C k).isSome=true then 0 else 1
 | [],_,k,v=>by simp[gN,eU]
 | x::C,h,k,v=>by
  unfold f_ at h;rw[yyj]at h
  unfold gN;by_cases h1:x.key<k
  ·have hg:eU (x::C) k=eU C k:=by unfold eU;rw[xxo];simp[show ¬x.key=k by omega]
   rw[zzc h1,zzh,UJ (C:=C) h.2 k v,zzh,hg];omega
  rw[zzb h1];by_cases h2:x.key=k
  ·have hg:(eU (x::C) k).isSome=true:=by unfold eU;rw[xxo];simp[h2]
   rw[zzc h2,hg];simp
  have hg:eU (x::C) k=none:=by
   unfold eU;have:(x::C).find? (λc=>decide (c.key=k))=none:=by
    rw[uu4];intro y hy;rcases zz8.1 hy with rfl|hy
    ·simpa using h2
    have:=h.1 y hy;simp;omega
   rw[this];rfl
  rw[zzb h2,hg];simp
def RU:∀(C:List Row) (k:Int),((jT C k).length:Int)=C.length-if (eU C k).isSome=true then 1 else 0
 | [],k=>by simp[jT,eU]
 | x::C,k=>by
  unfold jT;by_cases h:x.key=k
  ·have hg:(eU (x::C) k).isSome=true:=by unfold eU;rw[xxo];simp[h]
   rw[zzc h,hg];simp
  have hg:eU (x::C) k=eU C k:=by unfold eU;rw[xxo];simp[h]
  rw[zzb h,hg,zzh,zzh];have:=RU C k;omega
def cw5{C:List Row}(h:f_ C)(c:eh):((lq C c).length:Int)=C.length+(if (eU C c.key).isSome=true then (if c.gone=true then -1 else 0) else (if c.gone=true then 0 else 1)):=by
 unfold lq;cases c.gone with
 | true=>
  rw[zzc rfl,RU];split<;>simp<;>omega
 | false=>
  rw[zzb (by decide)];have:=UJ h c.key c.val;rw[this];split<;>simp
def cw6{C:List Row}(h:f_ C)(c:eh)(k:Int):(eU (lq C c) k).isSome=if c.key=k then !c.gone else (eU C k).isSome:=by
 unfold lq;cases hg:c.gone with
 | true=>
  rw[zzc rfl,SH h];split<;>rfl
 | false=>
  rw[zzb (by decide),SI];split<;>rfl
def BQ(ts T:List (List Row))(m:List ((Int × Int) × Bool)):Prop:=∀p:Int × Int,match fK m p with
 | none=>eU (gX T p.1) p.2=eU (gX ts p.1) p.2
 | some b=>(eU (gX T p.1) p.2).isSome=b
def bYq{κ α:Type}[DecidableEq κ](m:List (κ × α))(k:κ)(v:α)(k':κ):fK (gD m k v) k'=if k=k' then some v else fK m k':=by
 induction m with
 | nil=>simp[gD,fK]
 | cons p m ih=>
  unfold gD;by_cases h:p.1=k
  ·rw[zzc h];by_cases h1:k=k'
   ·simp[fK,h1]
   simp[fK,h1,show ¬p.1=k' by rw[h];exact h1]
  rw[zzb h];by_cases h1:p.1=k'
  ·have:¬k=k':=λe=>h (by rw[h1,e]);simp[fK,h1,this]
  simp only[fK,zzb h1];exact ih
def cBg{T:List (List Row)}{c:eh}(hc:hY T.length c=true)(t:Int):gX (kj T c) t=if t=c.table then lq (gX T c.table) c else gX T t:=by
 obtain⟨h0,h1⟩:=zzm hc;unfold kj;by_cases ht:0<=t/\t<(T.length:Int)
 ·obtain⟨n,rfl⟩:∃n:Nat,t=n:=⟨t.toNat,by omega⟩;have hn:n<T.length:=by omega
  rw[nR _ n (by rw[yyh];exact hn),xxi];by_cases e:c.table.toNat=n
  ·rw[zzc e,zzc (by omega)]
  rw[zzb e,zzb (by omega),nR T n hn]
 rw[DL (by rw[yyh];exact ht),zzb (by omega),DL ht]
def BQ.step{ts T:List (List Row)}{m:List ((Int × Int) × Bool)}(h:BQ ts T m)(hs:∀C∈T,f_ C){c:eh}(hc:hY T.length c=true):BQ ts (kj T c) (gD m (c.table,c.key) (!c.gone)):=by
 have Ue:=hs _ (DK (zzm hc));rintro ⟨t,k⟩;rw[bYq];have hk:=h (t,k);simp only at hk ⊢;rw[cBg hc];by_cases e:(c.table,c.key)=(t,k)
 ·rw[zzc e];simp only[wwy]at e;rw[zzc e.1.symm,cw6 Ue,zzc e.2]
 rw[zzb e];simp only[wwy,not_and]at e;by_cases e1:t=c.table
 ·rw[zzc e1];have e2:=e e1.symm;subst e1;have hg:eU (lq (gX T c.table) c) k=eU (gX T c.table) k:=by
   unfold lq;split
   ·rw[SH Ue,zzb e2]
   rw[SI,zzb e2]
  rw[hg];exact hk
 rw[zzb e1];exact hk
def ko(T:List (List Row)):Ξ:=T.map λC=>Γ (C.length:Nat)
def aRi(T:List (List Row)):(ko T).length=T.length:=by simp[ko]
def Rs{T:List (List Row)}{c:eh}{t:Nat}(ht:c.table=t)(h:t<T.length):ko (kj T c)=(ko T).set t (Γ ((lq T[t] c).length:Nat)):=by
 unfold ko kj;rw[vvh,ht,zzw,nR T t h]
def aRj{T:List (List Row)}{c:eh}{t:Nat}(ht:c.table=t)(h:t<T.length)(hl:(lq T[t] c).length=T[t].length):ko (kj T c)=ko T:=by
 rw[Rs ht h,hl];unfold ko;rw[<- vvh (f:=λC:List Row=>Γ (C.length:Nat)) (a:=T[t]),uup]
def Hs{T:List (List Row)}{t:Nat}(h:t<T.length):(ko T)[t]?=some (Γ (T[t].length:Nat)):=by simp[ko,h]
def Y4{W w:Ζ}{l:Β}{v u:Ε}{t:Ι}{n j:Nat}{k:IntKind}{cells:Ξ}{K:Ζ->Prop}(hS:SL W (.ob (bI v t 1 n cells)::l) w)(hj:j<n)(h1:u.oneCell'=true)
  (hK:∀w',SL W (.ob (bI v t 1 n (cells.set j u))::l) w'->K w'):zk 1 v (.int k (j:Int)) λq=>eF q u w K:=by
 rcases bI.open hS with ⟨_,h0,_⟩|⟨b,cap,rest,rfl,hc,hlen,jN,hS⟩
 ·omega
 refine zG hj ?_;rw[yye,vvs];refine ZA hS .hd (zzd (by rw[zza];omega)) h1 λw' hS=>hK w' ?_;rw[wwn _ _ (by omega)]at hS
 exact bI.mk hc (by rw[yyh];exact hlen) jN hS
def Sb(t k:Int)(g:Bool)(v:Η):fN ⟨t,k,g,v⟩=[Γ t,Γ k,.bool g,.string v]:=rfl
def Q7(sp:Nat)(ts:List (List Row))(H:bw)(v:Ε)(l:List eh)(hv:dx H 4 v l.length (l.map fN).flatten)(hl:l.length<=140737488351232)(hs:∀C∈ts,f_ C)(hn:∀C∈ts,C.length<=1000000)(hl6:l.length<=1000000)(C_:ts.length<=1000):
  SP 161 [cF sp,v] [.ob (dL sp ts),.mem H] (cC (.bool (mr ts l)) [.ob (dL sp ts),.mem H]):=by
 refine Enzz λW F w hS=>?_;apply cEi;delta L8 aI bU a_ cL cw Ae ai cT cP;refine Cg (YQ sp ts H v l hv hl) λw hS=>?_;cases ha:l.all (hY ts.length) with
 | false=>
  refine zq ?_;rw[show mr ts l=false by unfold mr;rw[ha];rfl];(exact cA hS)
 | true=>
  refine zp ?_;have hF:mr ts l=(fV ts l).all λC=>decide (C.length<=1000):=by unfold mr;rw[ha];rfl
  have ha:=zz6.1 ha;obtain⟨pv,L,hL,hS⟩:=dL.iff.1 hS;have Ih:=tN hL;refine Gp ?_;refine zt hS Xh ?_;refine WE hS (zzi _) (by omega) (by omega) λnb w hS=>?_;have hS:=bI.full (sz:=1) (n:=L.length) (by rw[lQ];rfl) hS;refine Gp ?_;refine zt hS Xh ?_;refine⟨λus w=>∃(i:Nat) (cells:Ξ),us=[Γ i]/\i<=L.length/\cells.length=L.length/\(∀j (h:j<ts.length),j<i->cells[j]?=some (Γ (ts[j].length:Nat)))/\SL W (.ob (bI (.slice (some ⟨nb,0,none⟩) L.length L.length) 3 1 L.length cells)::.pt sp [pv] 241::jt pv L::.ob (ze ed L)::.mem H::F) w,
   λus _=>match us with|[.int _ i]=>(L.length-i).toNat|_=>0,⟨0,cK [Γ 0] L.length,rfl,by omega,by rw[lQ];exact vvs _,λj h hj=>by omega,aW hS⟩,?_⟩
  clear hS;rintro v31 w ⟨i,cells,cO,hi,oV,iL,hS⟩;cases cO;refine bY (λh=>?_) (λh=>?_)
  ·have cx:i<ts.length:=by omega
   obtain⟨b0,hb⟩:=xV hL cx;refine zT hS Xh vd hb (by omega) ?_;unfold rZ;refine Gm λb w hS=>?_;have hS:=ze.take (SL.bZ hS (t:=.ob (ze ed L)::.ob (bI (.slice (some ⟨nb,0,none⟩) L.length L.length) 3 1 L.length cells)::.pt sp [pv] 241::jt pv L::.mem H::F) Xi) hb;refine Cc (Yy b0 ts[i]) ?_;clear hS;rintro u post ⟨rfl,rfl⟩ w hS;try simp only[app]at hS
   have hS:=ze.back hS hb;refine Y4 (SL.bZ hS (t:=.ob (bI (.slice (some ⟨nb,0,none⟩) L.length L.length) 3 1 L.length cells)::.pt sp [pv] 241::jt pv L::.ob (ze ed L)::.mem H::F) Xi) (by omega) rfl λw hS=>?_;refine Gp ?_;refine⟨⟨i+1,_,rfl,by omega,by rw[yyh];exact oV,λj hj iX=>?_,hS⟩,by dsimp only;omega⟩;rw[List.getElem?_set];by_cases e:i=j
   ·subst e;rw[zzc rfl,zzc (by omega)]
   rw[zzb e];exact iL j hj (by omega)
  obtain rfl:i=L.length:=by omega
  have EZ:cells=ko ts:=by
   refine uul λj=>?_;rcases xxx j ts.length with hj|hj
   ·rw[iL j hj (by omega),Hs hj]
   rw[yyr (by omega),yyr (by rw[aRi];omega)]
  subst EZ;clear iL oV;have hS:=dL.put hL hS Xp;clear hL;refine zo hv ?_;have hS:=hS.Jy (key:=lK) (val:=Value.bool);generalize w.heap.size=mb at *
  generalize w.alloc (.map #[] 0)=w at *
  rw[show ko ts=ko (fV ts (l.take 0)) from rfl]at hS
  refine⟨λus w=>∃(i:Nat) (m:List ((Int × Int) × Bool)),us=[Γ i]/\i<=l.length/\BQ ts (fV ts (l.take i)) m/\SL W (.ob (dL sp ts)::.ob (eC lK Value.bool mb m)::.ob (bI (.slice (some ⟨nb,0,none⟩) L.length L.length) 3 1 L.length (ko (fV ts (l.take i))))::.mem H::F) w,
   λus _=>match us with|[.int _ i]=>(l.length-i).toNat|_=>0,⟨0,[],rfl,by omega,λp=>rfl,aW hS⟩,?_⟩
  clear hS;rintro v46 w ⟨i,m,cO,hi,hM,hS⟩;cases cO;refine bY (λh=>?_) (λh=>?_)
  ·have cx:i<l.length:=by omega
   have fX:fV ts (l.take (i+1))=kj (fV ts (l.take i)) l[i]:=by rw[zze cx,P2]
   have jW:=ha _ (zzg cx);have vn:=tV ts (l.take i);have s_:=Ee (l:=l.take i) hs λc hc=>ha c (yyo hc);have wW:=Ed 1000000 (l:=l.take i) hn λc hc=>ha c (yyo hc);have k9:(l.take i).length<=l.length:=by rw[zzf];omega
   generalize fV ts (l.take i)=T at *
   refine zD hS Xh s3 hv (x:=l[i]) (by simp[cx]) cx ?_;generalize l[i]=c at *
   obtain⟨ct,ck,cg,cv⟩:=c;obtain⟨h0,h1⟩:0<=ct/\ct<(ts.length:Int):=zzm jW;obtain⟨t,rfl⟩:∃n:Nat,ct=n:=⟨ct.toNat,by omega⟩;have ht:t<T.length:=by omega
   have gV:t<ts.length:=by omega
   have uF:T[t]∈T:=zzg ht;have dd:=wW _ uF;have s9:=hM (t,ck);have um:=hM.step s_ (c:=⟨t,ck,cg,cv⟩) (by rw[vn];exact jW);have sj:=cw5 (s_ _ uF) ⟨t,ck,cg,cv⟩;simp only at s9 um sj;rw[nR T t ht,nR ts t gV]at s9
   rw[<- fX]at um
   clear hM;rw[Sb];refine Gb λcb w hS=>?_;refine Gb λpb w hS=>?_;refine cx8 (key:=lK) (val:=Value.bool) (z:=.bool false) (k:=((t:Int),ck)) hS Xh V9 Tryz.underlying334 (λw=>by kernel_rfl) ?_;refine Gp ?_;refine⟨λus w=>us=[.bool (eU T[t] ck).isSome]/\SL W (.pt pb [Γ t,Γ ck] 336::.pt cb [Γ t,Γ ck,.bool cg,.string cv] 56::.ob (dL sp ts)::.ob (eC lK Value.bool mb m)::.ob (bI (.slice (some ⟨nb,0,none⟩) L.length L.length) 3 1 L.length (ko T))::.mem H::F) w,?_,?_⟩
   ·cases AT:fK m ((t:Int),ck) with
    | none=>
     rw[AT]at s9
     refine z7 (zq ?_);have s9:eU T[t] ck=eU ts[t] ck:=s9;obtain⟨pv,L2,hL,hS⟩:=dL.iff.1 (SL.bZ hS (t:=.ob (dL sp ts)::.pt pb [Γ t,Γ ck] 336::.pt cb [Γ t,Γ ck,.bool cg,.string cv] 56::.ob (eC lK Value.bool mb m)::.ob (bI (.slice (some ⟨nb,0,none⟩) L.length L.length) 3 1 L.length (ko T))::.mem H::F) Xi);obtain⟨b0,hb⟩:=xV hL gV;have cMl:=tN hL;refine Gn λw hS=>?_;refine yh hS Xh vd hb (by omega) (i:=0) rfl ?_;refine Gp ?_;have hS:=ze.take (SL.bZ hS (t:=.ob (ze ed L2)::.pt sp [pv] 241::jt pv L2::.pt pb [Γ t,Γ ck] 336::.pt cb [Γ t,Γ ck,.bool cg,.string cv] 56::.ob (eC lK Value.bool mb m)::.ob (bI (.slice (some ⟨nb,0,none⟩) L.length L.length) 3 1 L.length (ko T))::.mem H::F) Xi) hb;refine Cc (bV9 b0 ts[t] ck (hs _ (zzg gV)) (hn _ (zzg gV))) ?_;clear hS;rintro u post ⟨rfl,rfl⟩ w hS;try simp only[app]at hS
     have hS:=dL.put hL (ze.back hS hb) Xp;unfold SF;refine Gp ?_;exact⟨by rw[s9],aW hS⟩
    | some q=>
     rw[AT]at s9
     have s9:(eU T[t] ck).isSome=q:=s9;refine z7 (zp ?_);exact⟨by rw[s9];rfl,aW hS⟩
   clear hS;rintro v12 w ⟨cO,hS⟩;cases cO;refine Gp ?_;refine cx9 (key:=lK) (val:=Value.bool) (k:=((t:Int),ck)) (v:=!cg) hS Xu V9 Tryz.underlying334 λ_ w hS=>?_;have gC:∀{w:Ζ} {cells:Ξ},cells=ko (fV ts (l.take (i+1)))->SL W (.ob (bI (.slice (some ⟨nb,0,none⟩) L.length L.length) 3 1 L.length cells)::.ob (dL sp ts)::.ob (eC lK Value.bool mb (gD m ((t:Int),ck) (!cg)))::.mem H::F) w ->
     ∃(i':Nat) (m':List ((Int × Int) × Bool)),[Γ ((i+1:Nat):Int)]=[Γ i']/\i'<=l.length/\BQ ts (fV ts (l.take i')) m'/\SL W (.ob (dL sp ts)::.ob (eC lK Value.bool mb m')::.ob (bI (.slice (some ⟨nb,0,none⟩) L.length L.length) 3 1 L.length (ko (fV ts (l.take i'))))::.mem H::F) w:=λe hS=>by
    subst e;exact⟨i+1,_,rfl,by omega,um,aW hS⟩
   have Te:=Hs ht;have tf:=Rs (T:=T) (c:=⟨t,ck,cg,cv⟩) rfl ht;have uE:=aRj (T:=T) (c:=⟨t,ck,cg,cv⟩) rfl ht;rw[<- fX]at tf uE
   refine⟨λus w=>us=[.bool ((eU T[t] ck).isSome && cg)]/\SL W (.pt cb [Γ t,Γ ck,.bool cg,.string cv] 56::.ob (dL sp ts)::.ob (eC lK Value.bool mb (gD m ((t:Int),ck) (!cg)))::.ob (bI (.slice (some ⟨nb,0,none⟩) L.length L.length) 3 1 L.length (ko T))::.mem H::F) w,?_,?_⟩
   ·cases (eU T[t] ck).isSome with
    | false=>
     refine Gp ?_;exact⟨rfl,aW hS⟩
    | true=>
     refine Gp ?_;exact⟨by simp,aW hS⟩
   clear hS;rintro v83 w ⟨cO,hS⟩;cases cO;cases hw:(eU T[t] ck).isSome<;>cases cg<;>rw[hw]at sj
   ·refine zp (z7 (zq ?_));refine Gp ?_;refine zq ?_;refine Gp ?_;refine yg hS Xh (by omega) Te ?_;refine Gp ?_;refine Y4 (SL.bZ hS (t:=.ob (bI (.slice (some ⟨nb,0,none⟩) L.length L.length) 3 1 L.length (ko T))::.ob (dL sp ts)::.ob (eC lK Value.bool mb (gD m ((t:Int),ck) (!false)))::.mem H::F) Xi) (by omega) rfl λw hS=>?_;refine Gp ?_;exact⟨gC (by rw[tf];congr 2;simp at sj;omega) hS,by dsimp only;omega⟩
   ·refine zp (z7 (zq ?_));refine Gp ?_;refine zp ?_;refine Gp ?_;exact⟨gC (uE (by simp at sj;omega)).symm (aW hS),by dsimp only;omega⟩
   ·refine zp (z7 (zp ?_));refine Gp ?_;exact⟨gC (uE (by simp at sj;omega)).symm (aW hS),by dsimp only;omega⟩
   refine zq ?_;refine Gp ?_;refine yg hS Xh (by omega) Te ?_;refine Gp ?_;refine Y4 (SL.bZ hS (t:=.ob (bI (.slice (some ⟨nb,0,none⟩) L.length L.length) 3 1 L.length (ko T))::.ob (dL sp ts)::.ob (eC lK Value.bool mb (gD m ((t:Int),ck) (!true)))::.mem H::F) Xi) (by omega) rfl λw hS=>?_;refine Gp ?_;exact⟨gC (by rw[tf];congr 2;simp at sj;omega) hS,by dsimp only;omega⟩
  obtain rfl:i=l.length:=by omega
  rw[zz0]at hS
  have vn:=tV ts l;generalize fV ts l=T at *
  refine Gp ?_;refine⟨λus w=>∃j:Nat,us=[Γ j]/\j<=T.length/\(∀k (h:k<T.length),k<j->T[k].length<=1000)/\SL W (.ob (dL sp ts)::.ob (bI (.slice (some ⟨nb,0,none⟩) L.length L.length) 3 1 L.length (ko T))::.mem H::F) w,
   λus _=>match us with|[.int _ i]=>(T.length-i).toNat|_=>0,⟨0,rfl,by omega,λk h hk=>by omega,aW hS⟩,?_⟩
  clear hS;rintro cN3 w ⟨j,cO,hj,eE,hS⟩;cases cO;refine bY (λh=>?_) (λh=>?_)
  ·have gM:j<T.length:=by omega
   refine yg hS Xh (by omega) (Hs gM) ?_;refine bY (λh2=>?_) (λh2=>?_)
   ·rw[hF,show (T.all λC=>decide (C.length<=1000))=false from tta.2 ⟨_,zzg gM,by simp;omega⟩];(exact cA hS)
   refine Gp ?_;refine⟨⟨j+1,rfl,by omega,λk hk IE=>?_,hS⟩,by dsimp only;omega⟩;by_cases e:k=j
   ·subst e;omega
   exact eE k hk (by omega)
  rw[hF,show (T.all λC=>decide (C.length<=1000))=true from zz6.2 λC hC=>by
   obtain⟨k,hk,rfl⟩:=yyi hC;exact zzl (eE k hk (by omega))]
  (exact cA hS)
def qG(c:eh)(k:Int):SP 212 [agg (fN c),Γ k] [] (cC (.bool (mB c k)) []):=by
 refine Enzz λW F w hS=>?_;apply cFu;delta MU aI a_ cL cw ai;refine zw hS λb w hS=>?_;unfold fN at hS;have hF:∀{w:Ζ},¬(0<=c.table/\c.table<k/\1<=c.key/\c.key<=1099511627776/\c.val.size<=32)->SL W (.pt b [Γ c.table,Γ c.key,.bool c.gone,.string c.val] 56::F) w ->
   ∃post,cC (.bool (mB c k)) [] (.bool false) post/\SL W (app post F) w:=λh hS=>⟨_,⟨by rw[show mB c k=false by unfold mB;rw[yy7];exact λk=>h ⟨k.1,k.2.1,k.2.2.1,k.2.2.2.1,k.2.2.2.2.1⟩],rfl⟩,aW hS⟩
 refine Gp ?_;refine za (λ_=>hF (by omega) hS) (λ_=>?_);refine Gp ?_;refine za (λ_=>hF (by omega) hS) (λ_=>?_);refine Gp ?_;refine za (λ_=>hF (by omega) hS) (λ_=>?_);refine Gp ?_;refine za (λ_=>hF (by omega) hS) (λ_=>?_);(repeat (first|refine Gp ?_|refine Gw λw hS=>?_|refine za (λ_=>hF (by omega) hS) (λ_=>?_)|refine za (λ_=>?_) (λ_=>hF (by omega) hS)))
 have e:mB c k=decide (c.gone=true->c.val=emp):=by
  unfold mB;rw[yyg];exact⟨λh=>h.2.2.2.2.2,λh=>⟨by omega,by omega,by omega,by omega,by omega,h⟩⟩
 rw[e];refine zu (λh=>?_) (λh=>?_)
 ·rw[h,zzl (by simp)];(exact cA hS)
 refine Gp ?_;rw[h];have e2:decide (true=true->c.val=emp)=decide (c.val={data:=#[]}):=by rw[yyg];exact⟨λh=>h rfl,λh _=>h⟩
 rw[e2];(exact cA hS)
def Vj{t:cH}(h:¬(1<=t.aw/\t.aw<=1099511627776)):eg t=false:=by
 unfold eg;rw[zzz h];rfl
def JA{t:cH}(hk:t.kind=1)(h:¬(t.mark=0/\t.changes.length<=16/\t.signals.length<=2)):eg t=false:=by
 unfold eg;rw[zzc hk,zzz h];simp
def bYe{t:cH}{i:Nat}(hk:t.kind=1)(hi:i<t.changes.length)(h:mB t.changes[i] 8=false):eg t=false:=by
 cases hm:eg t with
 | false=>rfl
 | true=>
  rw[(l_ hm).2.2.2.2.2.1 _ (zzg hi)]at h;cases h
def bYf{t:cH}{i:Nat}(hk:t.kind=1)(hi:i<t.signals.length)(h:¬t.signals[i].size<=40):eg t=false:=by
 cases hm:eg t with
 | false=>rfl
 | true=>exact absurd ((l_ hm).2.2.2.2.2.2 _ (zzg hi)) h
def bYi{t:cH}(hl:1<=t.aw/\t.aw<=1099511627776)(hk:t.kind=1)(h:t.mark=0/\t.changes.length<=16/\t.signals.length<=2)(h1:∀j (hj:j<t.changes.length),mB t.changes[j] 8=true)(h2:∀j (hj:j<t.signals.length),t.signals[j].size<=40):eg t=true:=by
 refine vI.2 ⟨hl,.inl ⟨hk,h.1,h.2.1,h.2.2,λc hc=>?_,λs hs=>?_⟩⟩
 ·obtain⟨j,hj,rfl⟩:=yyi hc;exact h1 j hj
 obtain⟨j,hj,rfl⟩:=yyi hs;exact h2 j hj
def bYg{t:cH}(hl:1<=t.aw/\t.aw<=1099511627776)(hk:t.kind=2\/t.kind=3):eg t=decide (1<=t.mark/\t.mark<=1099511627776/\t.changes.length=0/\t.signals.length=0):=by
 rw[uuv,vI,zzy];simp only[wwc];constructor
 ·rintro ⟨_,h|h⟩
  ·omega
  exact h.2
 exact λh=>⟨hl,.inr ⟨hk,h⟩⟩
def bYh{t:cH}(h:¬(1<=t.kind/\t.kind<=3)):eg t=false:=by
 cases hm:eg t with
 | false=>rfl
 | true=>exact absurd (l_ hm).2.1 h
abbrev tS(b:Nat)(x:mK)(t:cH):Μ:=.pt b [Γ t.aw,Γ t.kind,x.cv,x.sv,Γ t.mark] 101
def qH(H:bw)(x:mK)(t:cH)(hx:lz H x t)(hl:1<=t.aw/\t.aw<=1099511627776)(hk:t.kind=1):SP 160 [agg (fm x)] [.mem H] (cC (.bool (eg t)) [.mem H]):=by
 refine Enzz λW F w hS=>?_;apply cEh;delta L5 aI a_ cL cw ai cP;refine zw hS λxb w hS=>?_;unfold fm at hS;rw[hx.aw,hx.kind,hx.mark]at hS
 have hF:∀{w:Ζ},eg t=false->SL W (tS xb x t::.mem H::F) w->∃post,cC (.bool (eg t)) [.mem H] (.bool false) post/\SL W (app post F) w:=λh hS=>⟨_,⟨by rw[h],rfl⟩,aW hS⟩;refine Gp ?_;refine za (λh=>hF (JA hk (by omega)) hS) (λh1=>?_);refine Gp ?_;refine zo hx.cv ?_;refine Gp ?_;refine za (λh=>hF (JA hk (by omega)) hS) (λh2=>?_);refine Gp ?_;refine zo hx.sv ?_;refine Gp ?_;refine za (λh=>hF (JA hk (by omega)) hS) (λh3=>?_);refine Gp ?_;refine zo hx.cv ?_;refine⟨λvs w=>∃i:Nat,vs=[Γ i]/\i<=t.changes.length/\(∀j (hj:j<t.changes.length),j<i->mB t.changes[j] 8=true)/\SL W (tS xb x t::.mem H::F) w,
  λvs _=>match vs with|[.int _ i]=>(t.changes.length-i).toNat|_=>0,⟨0,rfl,by omega,λj hj h=>by omega,hS⟩,?_⟩
 clear hS;rintro v3 w ⟨i,eP,hi,eE,hS⟩;cases eP;refine bY (λh=>?_) (λh=>?_)
 ·have cx:i<t.changes.length:=by omega
  refine zD hS Xh s3 hx.cv (x:=t.changes[i]) (by simp[cx]) cx ?_;refine Gm λb w hS=>?_;refine Cg (qG t.changes[i] 8) λw hS=>?_;refine zu (λh=>hF (bYe hk cx h) (aW hS)) (λh=>?_);refine Gp ?_;refine⟨⟨i+1,rfl,by omega,λj hj iX=>?_,aW hS⟩,by dsimp only;omega⟩;by_cases e:j=i
  ·subst e;exact h
  exact eE j hj (by omega)
 have jL:i=t.changes.length:=by omega
 have dS:∀j (hj:j<t.changes.length),mB t.changes[j] 8=true:=λj hj=>eE j hj (by omega);clear eE;refine Gp ?_;refine zo hx.sv ?_;refine⟨λvs w=>∃i:Nat,vs=[Γ i]/\i<=t.signals.length/\(∀j (hj:j<t.signals.length),j<i->t.signals[j].size<=40)/\SL W (tS xb x t::.mem H::F) w,
  λvs _=>match vs with|[.int _ i]=>(t.signals.length-i).toNat|_=>0,⟨0,rfl,by omega,λj hj h=>by omega,aW hS⟩,?_⟩
 clear hS;rintro v5 w ⟨i,eP,hi,eE,hS⟩;cases eP;refine bY (λh=>?_) (λh=>?_)
 ·have cx:i<t.signals.length:=by omega
  refine yQ hS Xh hx.sv cx (u:=.string t.signals[i]) (by simp[cx]) ?_;refine Gp ?_;refine za (λh=>hF (bYf hk cx (by omega)) (aW hS)) (λh=>?_);refine Gp ?_;refine⟨⟨i+1,rfl,by omega,λj hj iX=>?_,aW hS⟩,by dsimp only;omega⟩;by_cases e:j=i
  ·subst e;omega
  exact eE j hj (by omega)
 rw[bYi hl hk (by omega) dS λj hj=>eE j hj (by omega)];(exact cA hS)
def yo(H:bw)(x:mK)(t:cH)(hx:lz H x t):SP 108 [agg (fm x)] [.mem H] (cC (.bool (eg t)) [.mem H]):=by
 refine Enzz λW F w hS=>?_;apply cC7;delta Lg aI a_ cw ai;refine zw hS λxb w hS=>?_;unfold fm at hS;rw[hx.aw,hx.kind,hx.mark]at hS
 have hF:∀{w:Ζ},eg t=false->SL W (tS xb x t::.mem H::F) w->∃post,cC (.bool (eg t)) [.mem H] (.bool false) post/\SL W (app post F) w:=λh hS=>⟨_,⟨by rw[h],rfl⟩,aW hS⟩;refine Gp ?_;refine za (λh=>hF (Vj (by omega)) hS) (λh1=>?_);refine Gp ?_;refine za (λh=>hF (Vj (by omega)) hS) (λh2=>?_);refine bY (λhk=>?_) (λhk=>?_)
 ·refine Gp ?_;have mW:lz H ⟨t.aw,t.kind,x.cv,x.sv,t.mark⟩ t:=⟨rfl,rfl,rfl,hx.cv,hx.sv⟩;refine Cg (qH H ⟨t.aw,t.kind,x.cv,x.sv,t.mark⟩ t mW (by omega) hk) λw hS=>?_;(exact cA hS)
 refine⟨λvs w=>vs=[.bool (decide (t.kind=2\/t.kind=3))]/\SL W (tS xb x t::.mem H::F) w,?_,?_⟩
 ·refine Gp ?_;refine za (λh=>⟨by rw[zzl (Or.inl h)],hS⟩) (λh=>?_);refine Gp ?_;exact⟨by rw[show decide (t.kind=3)=decide (t.kind=2\/t.kind=3) from yyg.2 ⟨Or.inr,λh'=>by omega⟩],hS⟩
 clear hS;rintro v17 w ⟨hv,hS⟩;cases hv;refine za (λfO=>?_) (λfO=>hF (bYh (by omega)) hS);have hM:=bYg (t:=t) (by omega) fO;have uk:∀{w:Ζ},¬(1<=t.mark/\t.mark<=1099511627776/\t.changes.length=0/\t.signals.length=0)->SL W (tS xb x t::.mem H::F) w->∃post,cC (.bool (eg t)) [.mem H] (.bool false) post/\SL W (app post F) w:=λh hS=>hF (by rw[hM,zzz h]) hS;refine Gp ?_;refine za (λh3=>?_) (λh3=>uk (by omega) hS);refine Gp ?_;refine za (λh4=>?_) (λh4=>uk (by omega) hS);refine Gp ?_;refine zo hx.cv ?_;refine Gp ?_;refine za (λh5=>?_) (λh5=>uk (by omega) hS);refine Gp ?_;refine zo hx.sv ?_;refine Gp ?_;rw[hM,show decide (1<=t.mark/\t.mark<=1099511627776/\t.changes.length=0/\t.signals.length=0)=decide ((t.signals.length:Int)=0) from yyg.2 ⟨λh=>by omega,λh=>by omega⟩];(exact cA hS)
section
variable (b:Nat) (x1 x2 x3:Int) (t:Ι)
def bWj:SP 215 [.slice (some ⟨b,0,none⟩) 3 3] [.pt b [Γ x1,Γ x2,Γ x3] t] (λu post=>post=[kf u [iF x1,iF x2,iF x3]]):=yJ b [x1,x2,x3] t (by simp)
end
def BJ(H:bw)(t:cH)(u:Ε)(post:Β):Prop:=match vg t with
 | .error e=>u= .tuple #[Θ,Γ e]/\post=[.mem H]
 | .ok b=>∃v,u= .tuple #[v,Γ 0]/\post=[.ob (bI v 5 1 b.length (b.map cX)),.mem H]
def pC(t:cH)(i:Nat):List dD:=[iF t.aw,iF t.kind,iF t.mark,iF t.changes.length]++((t.changes.take i).map pE).flatten
def sc(t:cH)(i:Nat):List dD:=pC t t.changes.length++[iF t.signals.length]++(t.signals.take i).map tF
def bwn{t:cH}{i:Nat}(h:i<t.changes.length):pC t (i+1)=pC t i++pE t.changes[i]:=by
 unfold pC;rw[zze h,zzs,yys,xx7,wwx,zzk]
def bwq{t:cH}{i:Nat}(h:i<t.signals.length):sc t (i+1)=sc t i++[tF t.signals[i]]:=by
 unfold sc;rw[zze h,zzs,xx7,<- zzk]
def bwo(t:cH):sc t t.signals.length=kW t:=by
 unfold sc pC kW;simp
def Sm(t:cH)(i:Nat):(pC t i).length<=4+4*i:=by
 unfold pC;rw[zza,Cn (n:=4) (λ_=>rfl),zzf];simp;omega
def bwp(t:cH)(i:Nat):(sc t i).length<=5+4*t.changes.length+i:=by
 have:=Sm t t.changes.length;unfold sc;rw[zza,zza,zzn,zzf];simp;omega
def Z8(H:bw)(x:mK)(t:cH)(hx:lz H x t):SP 162 [agg (fm x)] [.mem H] (BJ H t):=by
 refine Enzz λW F w hS=>?_;apply cEj;delta L9 aI a_ aR cL ai cP bR;refine zw hS λxb w hS=>?_;refine Gp ?_;refine Cg (yo H x t hx) λw hS=>?_;refine zu (λh=>?_) (λhm=>?_)
 ·exact⟨[.mem H],by unfold BJ vg;rw[zzb (by rw[h];decide)];exact⟨rfl,rfl⟩,aW hS⟩
 have hb:=l_ hm;unfold fm at hS;rw[hx.aw,hx.kind,hx.mark]at hS
 refine Gp ?_;refine zo hx.cv ?_;refine Gm λb w hS=>?_;refine Cc (UL b t.aw t.kind t.mark t.changes.length 2) ?_;clear hS;rintro u post rfl w hS;(try simp only[app]at hS);refine Gp ?_
 refine zo hx.cv ?_;have hS:SL W (kf u (pC t 0)::_) _:=hS;refine⟨λvs w=>∃(i:Nat) (u:Ε),vs=[u,Γ i]/\i<=t.changes.length/\SL W (kf u (pC t i)::tS xb x t::.mem H::F) w,
  λvs _=>match vs with|[_,.int _ i]=>(t.changes.length-i).toNat|_=>0,⟨0,_,rfl,by omega,aW hS⟩,?_⟩
 clear hS;rintro u v3 w ⟨i,_,eP,hi,hS⟩;cases eP;have se:=Sm t i;refine bY (λh=>?_) (λh=>?_)
 ·have cx:i<t.changes.length:=by omega
  have hs:=bwn cx;refine zD hS Xh s3 hx.cv (x:=t.changes[i]) (by simp[cx]) cx ?_;generalize t.changes[i]=o at *
  obtain⟨ot,ok,og,ov⟩:=o;refine Gm λb w hS=>?_;unfold fN at hS;refine Cg (Zy og) λw hS=>?_;refine Gm λb w hS=>?_;refine Cc (bWj b ot ok (gS og) 2) ?_;clear hS;rintro u2 post rfl w hS;try simp only[app]at hS
  refine ya (L:=pC t i) hS Xr (mZ hS Xh) (by simp;omega) λu3 w hS=>?_;refine Gp ?_;refine Cg (yO ov) λw hS=>?_;refine Gm λb w hS=>?_;refine ya (M:=[tF ov]) hS Xr (Gh hS Xh) (by simp;omega) λu4 w hS=>?_;refine Gp ?_;refine⟨⟨i+1,_,rfl,by omega,?_⟩,by dsimp only;omega⟩;rw[hs];simp only[zzk]at hS;have hS:SL W (kf _ (pC t i++pE ⟨ot,ok,og,ov⟩)::_) _:=hS;exact aW hS
 have jL:i=t.changes.length:=by omega
 subst jL;refine Gp ?_;refine zo hx.sv ?_;refine Gm λb w hS=>?_;refine Cc (FH b t.signals.length 2) ?_;clear hS;rintro u2 post rfl w hS;try simp only[app]at hS
 refine ya (L:=pC t t.changes.length) hS Xr (mZ hS Xh) (by simp;omega) λu3 w hS=>?_;refine Gp ?_;refine zo hx.sv ?_;refine⟨λvs w=>∃(i:Nat) (u:Ε),vs=[u,Γ i]/\i<=t.signals.length/\SL W (kf u (sc t i)::tS xb x t::.mem H::F) w,
  λvs _=>match vs with|[_,.int _ i]=>(t.signals.length-i).toNat|_=>0,⟨0,u3,rfl,by omega,?_⟩,?_⟩
 ·rw[show sc t 0=pC t t.changes.length++[iF t.signals.length] by unfold sc;simp];exact aW hS
 clear hS;rintro u v3 w ⟨i,_,eP,hi,hS⟩;cases eP;have EO:=bwp t i;refine bY (λh=>?_) (λh=>?_)
 ·have cx:i<t.signals.length:=by omega
  have hs:=bwq cx;refine yQ hS Xh hx.sv cx (u:=.string t.signals[i]) (by simp[cx]) ?_;refine Cg (yO t.signals[i]) λw hS=>?_;refine Gm λb w hS=>?_;refine ya (L:=sc t i) (M:=[tF t.signals[i]]) hS Xr (Gh hS Xh) (by simp;omega) λu3 w hS=>?_;refine Gp ?_;refine⟨⟨i+1,_,rfl,by omega,?_⟩,by dsimp only;omega⟩;rw[hs];exact aW hS
 have jL:i=t.signals.length:=by omega
 subst jL;rw[bwo]at hS EO
 refine Cc (yF (kf u (kW t)) u (kW t) rQ.own (by omega)) ?_;clear hS;rintro r post hq w hS;try simp only[app]at hS
 unfold rM at hq;unfold BJ vg;rw[zzc hm];cases he:n_ (kW t) with
 | error e=>
  rw[he]at hq
  obtain⟨rfl,rfl⟩:=hq;(try simp only[app]at hS);refine Gp ?_
  exact cA hS
 | ok bs=>
  rw[he]at hq
  obtain⟨v,rfl,rfl⟩:=hq;(try simp only[app]at hS);refine Gp ?_
  exact⟨_,⟨v,rfl,rfl⟩,aW hS⟩
structure pg{α:Type}(one:cY->α × cY)(n:Nat)(r0:cY)(xs:List α)(k:Nat)(r:cY):Prop where
 eq:kN one n r0=(xs++(kN one k r).1,(kN one k r).2)
 le:xs.length+k<=n
def pg.start{α:Type}(one:cY->α × cY)(n:Nat)(r:cY):pg one n r [] n r:=⟨rfl,by simp⟩
def pg.step{α:Type}{one:cY->α × cY}{n:Nat}{r0:cY}{xs:List α}{k:Nat}{r:cY}(h:pg one n r0 xs (k+1) r):pg one n r0 (xs++[(one r).1]) k (one r).2:=
 ⟨by rw[h.eq];simp[kN],by have:=h.le;rw[zza,zz7];omega⟩
def pg.stop{α:Type}{one:cY->α × cY}{n:Nat}{r0:cY}{xs:List α}{r:cY}(h:pg one n r0 xs 0 r):kN one n r0=(xs,r):=by
 rw[h.eq];simp[kN]
def YX(rp:Nat)(r:cY):SP 157 [Δ rp] [.ob (fe rp r)] (cC (agg (fN (p7 r).1)) [.ob (fe rp (p7 r).2)]):=by
 refine Enzz λW F w hS=>?_;apply cEd;delta LY ai cP;refine Gm λb w hS=>?_;refine Cg (zy rp r 8) λw hS=>?_;refine Cg (zP rp _) λw hS=>?_;refine Cg (Za rp _) λw hS=>?_;refine Cg (yG rp _) λw hS=>?_;simp only[p7];exact cA hS
def As{aw kind mark:Int}{cv sv:Ε}(h1:cv.oneCell'=true)(h2:sv.oneCell'=true):∀v∈fm ⟨aw,kind,cv,sv,mark⟩,v.oneCell'=true:=by
 intro v hv;simp only[fm,zz8,xxj,vvw]at hv;rcases hv with rfl|rfl|rfl|rfl|rfl
 ·rfl
 ·rfl
 ·exact h1
 ·exact h2
 rfl
def xZ:mK:=⟨0,0,Θ,Θ,0⟩
abbrev Ha(b:Nat):Μ:=.pt b [Γ 0,Γ 0,Θ,Θ,Γ 0] 101
def vX(X:Μ)(H:bw)(b:Φ)(u:Ε)(post:Β):Prop:=match lA b with
 | .error e=>e≠0/\∃H',H.le H'/\u= .tuple #[agg (fm xZ),Γ e]/\post=[X,.mem H']
 | .ok t=>∃x H',H.le H'/\u= .tuple #[agg (fm x),Γ 0]/\lz H' x t/\post=[X,.mem H']
def aWs{b:Φ}{e:Int}(h:jz b= .error e):lA b= .error e:=by unfold lA;rw[h]
def aWu{b:Φ}{l:List dD}(h:jz b= .ok l)(h2:¬((lu ⟨l,false⟩).2.bad=false/\(lu ⟨l,false⟩).2.l=[]/\eg (lu ⟨l,false⟩).1=true)):lA b= .error 3:=by
 unfold lA Al;rw[h];simp only;rw[zzb h2]
def aWt{b:Φ}{l:List dD}(h:jz b= .ok l)(h2:(lu ⟨l,false⟩).2.bad=false/\(lu ⟨l,false⟩).2.l=[]/\eg (lu ⟨l,false⟩).1=true):lA b= .ok (lu ⟨l,false⟩).1:=by
 unfold lA Al;rw[h];simp only;rw[zzc h2]
abbrev DT(v:Ε)(l:List eh):Μ:=.ob (bI v 56 4 l.length (l.map fN).flatten)
abbrev D3(v:Ε)(l:Ψ):Μ:=.ob (bI v 9 1 l.length (l.map λs=>[Value.string s]).flatten)
def cAz(l:Ψ):(l.map λs=>[Value.string s]).flatten=l.map Value.string:=by
 induction l with
 | nil=>rfl
 | cons a l ih=>simp[ih]
structure GJ(l:List dD)(aw kind mark:Int)(r3:cY):Prop where
 aw:(lu ⟨l,false⟩).1.aw=aw
 kind:(lu ⟨l,false⟩).1.kind=kind
 mark:(lu ⟨l,false⟩).1.mark=mark
 ch:(lu ⟨l,false⟩).1.changes=(kN p7 (dB 16 r3).1.toNat (dB 16 r3).2).1
 sg:∀r4,(kN p7 (dB 16 r3).1.toNat (dB 16 r3).2).2=r4->(lu ⟨l,false⟩).1.signals=(kN pd (dB 2 r4).1.toNat (dB 2 r4).2).1/\(lu ⟨l,false⟩).2=(kN pd (dB 2 r4).1.toNat (dB 2 r4).2).2
def GJ.is(l:List dD):GJ l (fu ⟨l,false⟩).1 (dB 3 (fu ⟨l,false⟩).2).1 (fu (dB 3 (fu ⟨l,false⟩).2).2).1 (fu (dB 3 (fu ⟨l,false⟩).2).2).2:=⟨rfl,rfl,rfl,rfl,λr4 h=>by subst h;exact⟨rfl,rfl⟩⟩
def Z7(X:Μ)(H:bw)(v:Ε)(bs:Φ)(hv:dP X v bs):SP 105 [v] [X,.mem H] (vX X H bs):=by
 refine Enzz λW F w hS=>?_;apply cC4;delta Ld aI aR cL ai cP bR;refine Gb λzb w hS=>?_;refine Cc (yE X v bs hv) ?_;clear hS;rintro r post hq w hS;unfold vW at hq;cases hd:jz bs with
 | error e=>
  rw[hd]at hq
  obtain⟨rfl,rfl⟩:=hq;have he:=HA hd;(try simp only[app]at hS);refine Gp ?_
  refine za (λ_=>?_) (λh=>absurd he h);refine Gn λw hS=>?_;exact⟨[X,.mem H],by unfold vX;rw[aWs hd];exact⟨he,H,bw.le_refl H,rfl,rfl⟩,aW hS⟩
 | ok l=>
  rw[hd]at hq
  obtain⟨lv,rfl,rfl⟩:=hq;(try simp only[app]at hS);refine Gp ?_
  refine za (λh=>absurd rfl h) (λ_=>?_);refine Cc (Zb lv l) ?_;clear hS;rintro _ post ⟨rp,rfl,rfl⟩ w hS;try simp only[app]at hS
  refine Cc (zP rp ⟨l,false⟩) ?_;clear hS;rintro v1 post ⟨rfl,rfl⟩ w hS;try simp only[app]at hS
  refine Cc (zy rp _ 3) ?_;clear hS;rintro v1 post ⟨rfl,rfl⟩ w hS;try simp only[app]at hS
  refine Cc (zP rp _) ?_;clear hS;rintro v1 post ⟨rfl,rfl⟩ w hS;try simp only[app]at hS
  have hI:=GJ.is l;generalize (fu (dB 3 (fu ⟨l,false⟩).2).2).1=mark at *
  generalize (fu (dB 3 (fu ⟨l,false⟩).2).2).2=r3 at *
  generalize (dB 3 (fu ⟨l,false⟩).2).1=kind at *
  generalize (fu ⟨l,false⟩).1=aw at *
  have nG:=Bu (m:=16) (by decide) r3;refine Gp ?_;refine Gb λxb w hS=>?_;have hS:SL W (DT Θ []::_) _:=bI.nil hS;have hS:SL W (D3 Θ []::_) _:=bI.nil hS;refine Cc (zy rp r3 16) ?_;clear hS;rintro v1 post ⟨rfl,rfl⟩ w hS;try simp only[app]at hS
  have l5:=hI.ch;have A1:=hI.sg;generalize (dB 16 r3).1=n1 at *
  generalize (dB 16 r3).2=r2 at *
  refine⟨λus w=>∃(k:Nat) (jy:List eh) (r:cY) (cv:Ε),us=[Γ k]/\pg p7 n1.toNat r2 jy k r/\SL W (DT cv jy::.ob (fe rp r)::D3 Θ []::.pt xb [Γ aw,Γ kind,cv,Θ,Γ mark] 101::Ha zb::X::.mem H::F) w,
   λus _=>match us with|[.int _ i]=>i.toNat|_=>0,⟨n1.toNat,[],r2,Θ,by rw[show ((n1.toNat:Nat):Int)=n1 by omega],pg.start _ _ _,aW hS⟩,?_⟩
  clear hS;rintro v8 w ⟨k,jy,r,cv,cO,hM,hS⟩;cases cO;have hle:=hM.le;refine bY (λh=>?_) (λh=>?_)
  ·obtain⟨k,rfl⟩:∃j,k=j+1:=⟨k-1,by omega⟩;have hM:=hM.step;refine Gn λw hS=>?_;refine Cg (YX rp r) λw hS=>?_;refine Gm λb w hS=>?_;refine yy (n:=jy.length) (xs:=jy) (y:=(p7 r).1) (enc:=fN) hS Xr Xh s3 (λx=>Sc x) rfl (by omega) (by omega) λu w hS=>?_;have h1:=bI.one hS;refine Gn λw hS=>?_;refine⟨⟨k,_,_,u,by rw[show ((k+1:Nat):Int)-1=(k:Int) by omega],hM,?_⟩,by dsimp only;omega⟩;have hS:=hS.pY (x:=(p7 r).1);exact aW hS
  obtain rfl:k=0:=by omega
  rw[hM.stop]at l5 A1
  obtain⟨Fw,dH⟩:=A1 r rfl;have xq:=Bu (m:=2) (by decide) r;refine Cc (zy rp r 2) ?_;clear hS;rintro v1 post ⟨rfl,rfl⟩ w hS;try simp only[app]at hS
  generalize (dB 2 r).1=n2 at *
  generalize (dB 2 r).2=r5 at *
  refine⟨λus w=>∃(k:Nat) (Bs:Ψ) (r:cY) (sv:Ε),us=[Γ k]/\pg pd n2.toNat r5 Bs k r/\SL W (D3 sv Bs::.ob (fe rp r)::DT cv jy::.pt xb [Γ aw,Γ kind,cv,sv,Γ mark] 101::Ha zb::X::.mem H::F) w,
   λus _=>match us with|[.int _ i]=>i.toNat|_=>0,⟨n2.toNat,[],r5,Θ,by rw[show ((n2.toNat:Nat):Int)=n2 by omega],pg.start _ _ _,aW hS⟩,?_⟩
  clear hS;rintro v8 w ⟨k,Bs,r,sv,cO,um,hS⟩;cases cO;have hle:=um.le;refine bY (λh=>?_) (λh=>?_)
  ·obtain⟨k,rfl⟩:∃j,k=j+1:=⟨k-1,by omega⟩;have um:=um.step;refine Gn λw hS=>?_;refine Cg (yG rp r) λw hS=>?_;refine Gm λb w hS=>?_;refine yy (n:=Bs.length) (xs:=Bs) (y:=(pd r).1) (enc:=λs=>[Value.string s]) hS Xr Xh (λ_=>rfl) (by simp[Value.oneCell']) rfl (by omega) (by omega) λu w hS=>?_;have h1:=bI.one hS;refine Gn λw hS=>?_;refine⟨⟨k,_,_,u,by rw[show ((k+1:Nat):Int)-1=(k:Int) by omega],um,?_⟩,by dsimp only;omega⟩;have hS:=hS.pY (x:=(pd r).1);exact aW hS
  obtain rfl:k=0:=by omega
  rw[um.stop]at Fw dH
  have kx:=hI.aw;have bUa:=hI.kind;have bUi:=hI.mark;have l5:(lu ⟨l,false⟩).1.changes=jy:=l5;have Fw:(lu ⟨l,false⟩).1.signals=Bs:=Fw;have dH:(lu ⟨l,false⟩).2=r:=dH;generalize ht:(lu ⟨l,false⟩).1=t at *
  generalize hr:(lu ⟨l,false⟩).2=r' at *
  subst dH l5 Fw;obtain⟨H1,dj,hO,hS⟩:=bI.freeze (SL.bZ hS (t:=.mem H::DT cv t.changes::D3 sv t.signals::.ob (fe rp r')::.pt xb [Γ aw,Γ kind,cv,sv,Γ mark] 101::Ha zb::X::F) Xi);obtain⟨H2,dQ,hN,hS⟩:=bI.freeze hS;rw[cAz]at hN
  have hx:lz H2 ⟨aw,kind,cv,sv,mark⟩ t:=⟨kx.symm,bUa.symm,bUi.symm,hO.mono dQ,hN⟩;have fA:=bw.le_trans dj dQ;have gB:=hO.one;have jV:=hN.one;refine Cg (y7 rp r') λw hS=>?_;have fp:¬(r'.bad=false/\r'.l=[]/\eg t=true)->∀{w:Ζ},SL W (X::.mem H2::F) w->∃post,vX X H bs (.tuple #[agg (fm xZ),Γ 3]) post/\SL W (app post F) w:=λh w hS=>⟨[X,.mem H2],by unfold vX;rw[aWu hd (by rw[ht,hr];exact h)];exact⟨by decide,H2,fA,rfl,rfl⟩,hS⟩;refine zu (λhb=>?_) (λhb=>?_)
  ·have hb:=yyw hb;refine Gn λw hS=>?_;exact fp (λh=>hb ⟨h.1,h.2.1⟩) (aW hS)
  have hb:=zzm hb;refine Gp ?_;refine Cg (yo H2 ⟨aw,kind,cv,sv,mark⟩ t hx) λw hS=>?_;refine zu (λhm=>?_) (λhm=>?_)
  ·refine Gn λw hS=>?_;exact fp (λh=>by rw[h.2.2]at hm;cases hm) (aW hS)
  refine Gp ?_;refine zr (vs:=fm ⟨aw,kind,cv,sv,mark⟩) hS Xu rfl rfl (As gB jV) λw hS=>?_;refine Gp ?_;exact⟨[X,.mem H2],by unfold vX;rw[aWt hd (by rw[ht,hr];exact⟨hb.1,hb.2,hm⟩),ht];exact⟨⟨aw,kind,cv,sv,mark⟩,H2,fA,rfl,hx,rfl⟩,aW hS⟩
def Yq(H:bw)(v:Ε)(C:List Row)(hC:dx H 2 v C.length (C.map d_).flatten)(hn:C.length<=140737488351232):SP 356 [v] [.mem H] (cC (.bool (rz C)) [.mem H]):=by
 refine Enzz λW F w hS=>?_;apply cIz;delta OJ aI a_ cw ai cP;refine zo hC ?_;refine⟨λus w=>∃(i:Nat) (k:Int),us=[Γ k,Γ i]/\i<=C.length/\vP 0 C=vP k (C.drop i)/\SL W (.mem H::F) w,λus _=>match us with|[_,.int _ i]=>(C.length-i).toNat|_=>0,⟨0,0,rfl,by omega,rfl,hS⟩,?_⟩;clear hS;rintro v3 v8 w ⟨i,k,cO,hi,hr,hS⟩;cases cO;refine bY (λh=>?_) (λh=>?_)
 ·have cx:i<C.length:=by omega
  rw[yyq cx,vP]at hr
  refine zD hS Xh je hC (x:=C[i]) (by simp[cx]) cx ?_;generalize C[i]=r at *
  obtain⟨rk,rv⟩:=r;have hF:∀{w:Ζ} {b:Nat},¬(k<rk/\rk<=1099511627776/\rv.size<=32)->SL W (.pt b [Γ rk,.string rv] 66::.mem H::F) w->∃post,cC (.bool (rz C)) [.mem H] (.bool false) post/\SL W (app post F) w:=λfp hS=>
   ⟨_,⟨by unfold rz;rw[hr,zzz fp];rfl,rfl⟩,aW hS⟩
  rw[Ey];refine Gm λb w hS=>?_;refine za (λh1=>hF (by omega) hS) (λh1=>?_);refine Gp ?_;refine za (λh2=>hF (by omega) hS) (λh2=>?_);refine Gp ?_;refine za (λh3=>hF (by omega) hS) (λh3=>?_);refine Gp ?_;refine⟨⟨i+1,rk,rfl,by omega,?_,aW hS⟩,by dsimp only;omega⟩;rw[hr,zzl (show k<rk/\rk<=1099511627776/\rv.size<=32 by omega)];rfl
 have jL:i=C.length:=by omega
 subst jL;rw[vv1]at hr
 refine zo hC ?_;refine Gp ?_;have e:rz C=decide ((C.length:Int)<=1000):=by
  unfold rz;rw[hr];show (true && _)=_;rw[vv6,yyg];omega
 rw[e];(exact cA hS)
def uU(H:bw)(v:Ε)(ts:List (List Row)):Prop:=∃vs,dx H 1 v ts.length vs/\nk H vs ts
def yR{H:bw}{v:Ε}{ts:List (List Row)}{K:Ε->Prop}(h:uU H v ts)(k:K (Γ ts.length)):zd v K:=by
 obtain⟨vs,h1,_⟩:=h;exact zo h1 k
def Y0{W w:Ζ}{l:Β}{H:bw}{v:Ε}{ts:List (List Row)}{j:Nat}{k:IntKind}{K:Ε->Prop}(hS:SL W l w)(hm:Has (.mem H) l)(h:uU H v ts)(hj:j<ts.length)
  (hK:∀u,dx H 2 u ts[j].length (ts[j].map d_).flatten->K u):zk 1 v (.int k (j:Int)) λp=>cn p w K:=by
 obtain⟨vs,h1,h2⟩:=h;have hl:=h2.1;have hu:vs[j]?=some (vs[j]'(by omega)):=zzd (by omega);exact yQ hS hm h1 hj hu (hK _ (h2.2 j _ _ hu (zzd hj)))
def Zm(H:bw)(v:Ε)(aw:Int)(ts:List (List Row))(hv:uU H v ts)(hn:ts.length<=140737488351232)(hc:∀C∈ts,C.length<=140737488351232):SP 309 [Γ aw,v] [.mem H] (cC (.bool (i_ aw ts)) [.mem H]):=by
 refine Enzz λW F w hS=>?_;apply cH3;delta Od aI cL cw ai;have hF:∀{w:Ζ},¬(0<=aw/\aw<=1099511627776/\1<=ts.length/\ts.length<=8)->SL W (.mem H::F) w->∃post,cC (.bool (i_ aw ts)) [.mem H] (.bool false) post/\SL W (app post F) w:=λfp hS=>⟨_,⟨by unfold i_;rw[zzz fp];rfl,rfl⟩,hS⟩;refine Gp ?_;refine za (λh=>hF (by omega) hS) (λh1=>?_);refine Gp ?_;refine za (λh=>hF (by omega) hS) (λh2=>?_);refine yR hv ?_;refine Gp ?_;refine za (λh=>hF (by omega) hS) (λh3=>?_);refine yR hv ?_;refine Gp ?_;refine za (λh=>hF (by omega) hS) (λh4=>?_);refine yR hv ?_;have hM:i_ aw ts=ts.all rz:=by unfold i_;rw[zzl (show 0<=aw/\aw<=1099511627776/\1<=ts.length/\ts.length<=8 by omega)];rfl
 refine⟨λus w=>∃i:Nat,us=[Γ i]/\i<=ts.length/\(∀j (h:j<ts.length),j<i->rz ts[j]=true)/\SL W (.mem H::F) w,λus _=>match us with|[.int _ i]=>(ts.length-i).toNat|_=>0,⟨0,rfl,by omega,λj h hj=>by omega,hS⟩,?_⟩;clear hS;rintro v25 w ⟨i,cO,hi,eE,hS⟩;cases cO;refine bY (λh=>?_) (λh=>?_)
 ·have cx:i<ts.length:=by omega
  refine Y0 hS Xh hv cx λu hu=>?_;refine Cg (Yq H u ts[i] hu (hc _ (zzg cx))) λw hS=>?_;refine zu (λhb=>?_) (λhb=>?_)
  ·refine⟨_,⟨?_,rfl⟩,hS⟩;rw[hM,show ts.all rz=false from tta.2 ⟨_,zzg cx,by rw[hb];decide⟩]
  refine Gp ?_;refine⟨⟨i+1,rfl,by omega,λj hj iX=>?_,hS⟩,by dsimp only;omega⟩;by_cases e:j=i
  ·subst e;exact hb
  exact eE j hj (by omega)
 refine⟨_,⟨?_,rfl⟩,hS⟩;rw[hM,show ts.all rz=true from zz6.2 λC hC=>by
  obtain⟨j,hj,rfl⟩:=yyi hC;exact eE j hj (by omega)]
def sa(aw:Int)(ts:List (List Row))(i:Nat):List dD:=[iF aw,iF ts.length]++((ts.take i).map oa).flatten
def s5(aw:Int)(ts:List (List Row))(i:Nat)(C:List Row)(j:Nat):List dD:=sa aw ts i++(iF C.length::((C.take j).map s6).flatten)
def bwk{aw:Int}{ts:List (List Row)}{i:Nat}(h:i<ts.length):sa aw ts (i+1)=s5 aw ts i ts[i] ts[i].length:=by
 unfold sa s5 sa oa;rw[zze h,zzs,yys,xx7,wwx,zz0,zzk]
def bwm{aw:Int}{ts:List (List Row)}{i:Nat}{C:List Row}{j:Nat}(h:j<C.length):s5 aw ts i C (j+1)=s5 aw ts i C j++[iF C[j].key]++[tF C[j].val]:=by
 unfold s5;rw[zze h,zzs,yys,xx7,wwx];simp[s6]
def bwj(aw:Int)(ts:List (List Row)):sa aw ts ts.length=mO aw ts:=by unfold sa mO;rw[zz0]
def Sl{aw:Int}{ts:List (List Row)}(h:∀C∈ts,C.length<=1000)(i:Nat):(sa aw ts i).length<=2+ts.length*2001:=by
 have k:=uf (f:=oa) (k:=2001) (ts.take i) λC hC=>by rw[Sq];have:=h C (yyo hC);omega
 have:(ts.take i).length*2001<=ts.length*2001:=yyt _ (by rw[zzf];omega);unfold sa;rw[zza];simp only[zzh,yyp];omega
def bwl{aw:Int}{ts:List (List Row)}(h:∀C∈ts,C.length<=1000)(i:Nat){C:List Row}(hC:C.length<=1000)(j:Nat):(s5 aw ts i C j).length<=2003+ts.length*2001:=by
 have h1:=Sl (aw:=aw) h i;unfold s5;rw[zza,zzh,Ax (f:=s6) (k:=2) (λ_=>rfl),zzf];omega
def DV(H:bw)(aw:Int)(ts:List (List Row))(u:Ε)(post:Β):Prop:=match Ew aw ts with
 | .error e=>u= .tuple #[Θ,Γ e]/\post=[.mem H]
 | .ok b=>∃v,u= .tuple #[v,Γ 0]/\post=[.ob (bI v 5 1 b.length (b.map cX)),.mem H]
def qE(H:bw)(v:Ε)(aw:Int)(ts:List (List Row))(hv:uU H v ts)(hn:ts.length<=140737488351232)(hc:∀C∈ts,C.length<=140737488351232):SP 249 [Γ aw,v] [.mem H] (DV H aw ts):=by
 refine Enzz λW F w hS=>?_;apply cGt;delta Nv aI a_ cL ai cP bR;refine Cg (Zm H v aw ts hv hn hc) λw hS=>?_;refine zu (λh=>?_) (λhm=>?_)
 ·exact⟨[.mem H],by unfold DV Ew;rw[zzb (by rw[h];decide)];exact⟨rfl,rfl⟩,aW hS⟩
 obtain⟨hb,hT⟩:=sD.1 hm;have uo:∀C∈ts,C.length<=1000:=λC hC=>(hT C hC).len;have h8:ts.length*2001<=8*2001:=yyt _ (by omega);refine yR hv ?_;refine Gm λb w hS=>?_;refine Cc (UK b aw ts.length 2) ?_;clear hS;rintro u post rfl w hS;try simp only[app]at hS
 refine yR hv ?_;have hS:SL W (kf u (sa aw ts 0)::_) _:=hS;refine⟨λus w=>∃(i:Nat) (u:Ε),us=[u,Γ i]/\i<=ts.length/\SL W (kf u (sa aw ts i)::.mem H::F) w,λus _=>match us with|[_,.int _ i]=>(ts.length-i).toNat|_=>0,⟨0,_,rfl,by omega,aW hS⟩,?_⟩;clear hS;rintro u v24 w ⟨i,_,cO,hi,hS⟩;cases cO;have se:=Sl (aw:=aw) uo i;refine bY (λh=>?_) (λh=>?_)
 ·have cx:i<ts.length:=by omega
  have hs:=bwk (aw:=aw) cx;have EP:=uo _ (zzg cx);refine Y0 hS Xh hv cx λcv sm=>?_;generalize ts[i]=C at *
  refine zo sm ?_;refine Gm λb w hS=>?_;refine Cc (FH b C.length 2) ?_;clear hS;rintro u2 post rfl w hS;try simp only[app]at hS
  refine ya (L:=sa aw ts i) hS Xr (mZ hS Xh) (by simp;omega) λu3 w hS=>?_;refine zo sm ?_;have hS:SL W (kf u3 (s5 aw ts i C 0)::_) _:=hS;refine⟨λus w=>∃(j:Nat) (u:Ε),us=[u,Γ j]/\j<=C.length/\SL W (kf u (s5 aw ts i C j)::.mem H::F) w,λus _=>match us with|[_,.int _ i]=>(C.length-i).toNat|_=>0,⟨0,_,rfl,by omega,aW hS⟩,?_⟩;clear hS;rintro u v36 w ⟨j,_,cO,hj,hS⟩;cases cO;have EO:=bwl (aw:=aw) uo i EP j;refine bY (λh=>?_) (λh=>?_)
  ·have gM:j<C.length:=by omega
   have hs2:=bwm (aw:=aw) (ts:=ts) (i:=i) gM;refine zD hS Xh je sm (x:=C[j]) (by simp[gM]) gM ?_;generalize C[j]=r at *
   obtain⟨rk,rv⟩:=r;rw[Ey];refine Gm λb w hS=>?_;refine Gm λb w hS=>?_;refine Cc (FH b rk 2) ?_;clear hS;rintro u4 post rfl w hS;try simp only[app]at hS
   refine ya (L:=s5 aw ts i C j) hS Xr (mZ hS Xh) (by simp;omega) λu5 w hS=>?_;refine Gp ?_;refine Cg (yO rv) λw hS=>?_;refine Gm λb w hS=>?_;refine ya (M:=[tF rv]) hS Xr (Gh hS Xh) (by simp;omega) λu6 w hS=>?_;refine Gp ?_;refine⟨⟨j+1,_,rfl,by omega,?_⟩,by dsimp only;omega⟩;rw[hs2];exact aW hS
  obtain rfl:j=C.length:=by omega
  refine Gp ?_;refine⟨⟨i+1,_,rfl,by omega,?_⟩,by dsimp only;omega⟩;rw[hs];exact hS
 obtain rfl:i=ts.length:=by omega
 rw[bwj]at hS se
 refine Cc (yF (kf u (mO aw ts)) u (mO aw ts) rQ.own (by omega)) ?_;clear hS;rintro r post hq w hS;try simp only[app]at hS
 have he:=(UB hm).1;have hl:=A' hm;unfold rM at hq;rw[he]at hq
 obtain⟨bv,rfl,rfl⟩:=hq;(try simp only[app]at hS);refine Gp ?_
 refine za (λh=>absurd rfl h) (λ_=>?_);refine Cc (Z9 _ bv (jf aw ts) dP.own (by omega)) ?_;clear hS;rintro r post hq w hS;try simp only[app]at hS
 unfold sQ at hq;rw[zzb (by omega)]at hq
 obtain⟨ov,rfl,rfl⟩:=hq;(try simp only[app]at hS);refine Gp ?_
 exact⟨_,by unfold DV Ew;rw[zzc hm];exact⟨ov,rfl,rfl⟩,aW hS⟩
def cBh(r:cY):rJ r=iR vQ (dB 1000 r).1.toNat (dB 1000 r).2:=rfl
def QM(rp:Nat)(r:cY):SP 325 [Δ rp] [.ob (fe rp r)] (λv post=>(rJ r).1.length<=1000/\post=[fD v (rJ r).1,.ob (fe rp (rJ r).2)]):=by
 refine Enzz λW F w hS=>?_;apply cIb;delta Om aI ai cP bR;rw[cBh];have nG:=Bu (m:=1000) (by decide) r;refine Cc (zy rp r 1000) ?_;clear hS;rintro v1 post ⟨rfl,rfl⟩ w hS;try simp only[app]at hS
 generalize (dB 1000 r).1=n1 at *
 generalize (dB 1000 r).2=r2 at *
 have hS:SL W (fD Θ []::_) _:=bI.nil hS;refine⟨λus w=>∃(k:Nat) (rs:List Row) (r:cY) (rv:Ε),us=[rv,Γ k]/\pj vQ n1.toNat r2 rs k r/\SL W (fD rv rs::.ob (fe rp r)::F) w,
  λus _=>match us with|[_,.int _ i]=>i.toNat|_=>0,⟨n1.toNat,[],r2,Θ,by rw[show ((n1.toNat:Nat):Int)=n1 by omega],pj.start _ _ _,aW hS⟩,?_⟩
 clear hS;rintro v3 v4 w ⟨k,rs,r,rv,cO,hM,hS⟩;cases cO;have hle:=hM.le;refine bY (λh=>?_) (λh=>?_)
 ·obtain⟨k,rfl⟩:∃j,k=j+1:=⟨k-1,by omega⟩;refine Cg (y8 rp r) λw hS=>?_;refine zu (λhb=>?_) (λhb=>?_)
  ·have hM:=hM.step hb;refine Cc (zP rp r) ?_;clear hS;rintro v1 post ⟨rfl,rfl⟩ w hS;try simp only[app]at hS
   refine Cg (yG rp _) λw hS=>?_;refine Gm λb w hS=>?_;refine yy (n:=rs.length) (xs:=rs) (y:=(vQ r).1) (enc:=d_) hS Xr Xh je (λx=>ve x) rfl (by omega) (by omega) λu w hS=>?_;refine Gp ?_;refine⟨⟨k,_,_,u,by rw[show ((k+1:Nat):Int)-1=(k:Int) by omega],hM,?_⟩,by dsimp only;omega⟩;have hS:=hS.pY (x:=(vQ r).1);have hS:SL W (fD u (rs++[(vQ r).1])::_::.ob (fe rp (vQ r).2)::F) _:=hS;exact aW hS
  rw[hM.stop (.inr hb)];exact⟨_,⟨by show rs.length<=1000;omega,rfl⟩,aW hS⟩
 rw[hM.stop (.inl (by omega))];exact⟨_,⟨by show rs.length<=1000;omega,rfl⟩,aW hS⟩
def nk.nil(H:bw):nk H [] []:=⟨rfl,λi v C h1 h2=>by simp at h1⟩
def nk.snoc{H:bw}{vs:Ξ}{ts:List (List Row)}(h:nk H vs ts){v:Ε}{C:List Row}(hv:dx H 2 v C.length (C.map d_).flatten):nk H (vs++[v]) (ts++[C]):=by
 have hl:=h.1;refine⟨by rw[zza,zza,hl];rfl,λi u D h1 h2=>?_⟩;rcases xxx i vs.length with hi|hi
 ·rw[zzt hi]at h1
  rw[zzt (by omega)]at h2
  exact h.2 i u D h1 h2
 rw[yya hi]at h1
 rw[yya (by omega)]at h2
 obtain⟨e,rfl⟩:i-vs.length=0/\v=u:=by
  cases hk:i-vs.length with
  | zero=>rw[hk]at h1;exact⟨rfl,by simpa using h1⟩
  | succ n=>rw[hk]at h1;simp at h1
 rw[show i-ts.length=0 by omega]at h2
 obtain rfl:C=D:=by simpa using h2
 exact hv
def BG(X:Μ)(H:bw)(b:Φ)(u:Ε)(post:Β):Prop:=match kq b with
 | none=>u= .tuple #[Γ 0,Θ,Γ 3]/\∃H',H.le H'/\post=[X,.mem H']
 | some x=>∃v H',H.le H'/\uU H' v x.2/\u= .tuple #[Γ x.1,v,Γ 0]/\post=[X,.mem H']
def UC{l:List dD}(h:¬((mA ⟨l,false⟩).2.bad=false/\(mA ⟨l,false⟩).2.l=[]/\i_ (mA ⟨l,false⟩).1.1 (mA ⟨l,false⟩).1.2=true)):uH l=none:=by
 unfold uH;simp only;rw[zzb h]
def bWe{l:List dD}(h:(mA ⟨l,false⟩).2.bad=false/\(mA ⟨l,false⟩).2.l=[]/\i_ (mA ⟨l,false⟩).1.1 (mA ⟨l,false⟩).1.2=true):uH l=some (mA ⟨l,false⟩).1:=by
 unfold uH;simp only;rw[zzc h]
structure Gz(l:List dD)(aw:Int)(r1:cY):Prop where
 aw:(mA ⟨l,false⟩).1.1=aw
 ts:(mA ⟨l,false⟩).1.2=(kN rJ (dB 8 r1).1.toNat (dB 8 r1).2).1
 rd:(mA ⟨l,false⟩).2=(kN rJ (dB 8 r1).1.toNat (dB 8 r1).2).2
def Gz.is(l:List dD):Gz l (fu ⟨l,false⟩).1 (fu ⟨l,false⟩).2:=⟨rfl,rfl,rfl⟩
def qD(X:Μ)(H:bw)(v:Ε)(bs:Φ)(hv:dP X v bs)(hN:bs.length<=140737488355328):SP 271 [v] [X,.mem H] (BG X H bs):=by
 refine Enzz λW F w hS=>?_;apply cG2;delta NF aI cL ai bR;have fp:kq bs=none->∀{w:Ζ} {H':bw},H.le H'->SL W (X::.mem H'::F) w->∃post,BG X H bs (.tuple #[Γ 0,Θ,Γ 3]) post/\SL W (app post F) w:=λh w H' hh hS=>⟨[X,.mem H'],by unfold BG;rw[h];exact⟨rfl,H',hh,rfl⟩,hS⟩;refine Cc (YP X v bs hv hN) ?_;clear hS;rintro r post hq w hS;unfold tR at hq;cases ht:gQ bs with
 | error e=>
  rw[ht]at hq
  obtain⟨rfl,rfl⟩:=hq;have hd:kq bs=none:=by unfold kq;rw[ht]
  have he:e≠0:=by have:=Xm ht;omega
  (try simp only[app]at hS);refine Gp ?_
  exact za (λ_=>fp hd (bw.le_refl H) (aW hS)) (λh=>absurd he h)
 | ok pn=>
  obtain⟨p,n⟩:=pn;rw[ht]at hq
  obtain⟨pv,rfl,rfl⟩:=hq;(try simp only[app]at hS);refine Gp ?_
  refine za (λh=>absurd rfl h) (λ_=>?_);refine yp hS Xh hv ?_;refine bY (λh=>?_) (λh=>?_)
  ·have hd:kq bs=none:=by unfold kq;rw[ht];simp only;rw[zzb (by omega)]
   exact fp hd (bw.le_refl H) (aW hS)
  have Fq:n=bs.length:=by omega
  refine Cc (yE _ pv p dP.own) ?_;clear hS;rintro r post hq w hS;unfold vW at hq;cases hd:jz p with
  | error e=>
   rw[hd]at hq
   obtain⟨rfl,rfl⟩:=hq;have he:=HA hd;have hd:kq bs=none:=by unfold kq;rw[ht];simp only;rw[zzc Fq,hd]
   (try simp only[app]at hS);refine Gp ?_
   exact za (λ_=>fp hd (bw.le_refl H) (aW hS)) (λh=>absurd he h)
  | ok l=>
   rw[hd]at hq
   obtain⟨lv,rfl,rfl⟩:=hq;have hI:=RJ ht Fq hd;(try simp only[app]at hS);refine Gp ?_
   refine za (λh=>absurd rfl h) (λ_=>?_);refine Cc (Zb lv l) ?_;clear hS;rintro _ post ⟨rp,rfl,rfl⟩ w hS;try simp only[app]at hS
   refine Cc (zP rp ⟨l,false⟩) ?_;clear hS;rintro v1 post ⟨rfl,rfl⟩ w hS;try simp only[app]at hS
   have hR:=Gz.is l;generalize (fu ⟨l,false⟩).1=aw at *
   generalize (fu ⟨l,false⟩).2=r1 at *
   have nG:=Bu (m:=8) (by decide) r1;refine Cc (zy rp r1 8) ?_;clear hS;rintro v1 post ⟨rfl,rfl⟩ w hS;try simp only[app]at hS
   have gV:=hR.ts;have dH:=hR.rd;generalize (dB 8 r1).1=n1 at *
   generalize (dB 8 r1).2=r2 at *
   have hS:SL W (.ob (bI Θ 67 1 ([]:List (List Row)).length [])::_) _:=bI.nil hS;refine⟨λus w=>∃(k:Nat) (ts:List (List Row)) (r:cY) (tv:Ε) (vs:Ξ) (H':bw),us=[tv,Γ k]/\pg rJ n1.toNat r2 ts k r/\(∀C∈ts,C.length<=1000)/\H.le H'/\nk H' vs ts/\SL W (.ob (bI tv 67 1 ts.length vs)::.ob (fe rp r)::X::.mem H'::F) w,
    λus _=>match us with|[_,.int _ i]=>i.toNat|_=>0,⟨n1.toNat,[],r2,Θ,[],H,by rw[show ((n1.toNat:Nat):Int)=n1 by omega],pg.start _ _ _,by simp,bw.le_refl H,nk.nil H,aW hS⟩,?_⟩
   clear hS;rintro tv v12 w ⟨k,ts,r,_,vs,H',cO,hM,EP,hh,pH,hS⟩;cases cO;have hle:=hM.le;refine bY (λh=>?_) (λh=>?_)
   ·obtain⟨k,rfl⟩:∃j,k=j+1:=⟨k-1,by omega⟩;have hM:=hM.step;refine Cc (QM rp r) ?_;clear hS;rintro rv post ⟨hl,rfl⟩ w hS;try simp only[app]at hS
    obtain⟨H2,dQ,hO,hS⟩:=zz (H:=H') (v:=rv) hS Xp;have gB:=hO.one;refine zN hS (Su gB) λb w hS=>?_;refine zJ (n:=ts.length) (m:=1) hS Xr (j8 (cs:=[rv]) hS Xh rfl) rfl rfl (by simpa using gB) (by omega) (by omega) ?_;clear hS;intro u w hS;refine Gp ?_;refine⟨⟨k,_,_,u,vs++[rv],H2,by rw[show ((k+1:Nat):Int)-1=(k:Int) by omega],hM,λC hC=>?_,bw.le_trans hh dQ,(pH.mono dQ).snoc hO,?_⟩,by dsimp only;omega⟩
    ·rcases zz1.1 hC with hC|hC
     ·exact EP C hC
     rw[zz3.1 hC];exact hl
    have hS:=hS.pY (x:=(rJ r).1);exact aW hS
   obtain rfl:k=0:=by omega
   rw[hM.stop]at gV dH
   have gV:(mA ⟨l,false⟩).1.2=ts:=gV;have dH:(mA ⟨l,false⟩).2=r:=dH;have kx:=hR.aw;obtain⟨H2,dQ,hO,hS⟩:=zz (H:=H') (v:=tv) hS Xp;have fA:=bw.le_trans hh dQ;have hT:uU H2 tv ts:=⟨vs,hO,pH.mono dQ⟩;refine Cg (y7 rp r) λw hS=>?_;refine zu (λhb=>?_) (λhb=>?_)
   ·have hb:=yyw hb;exact fp (by rw[hI];exact UC λh=>hb ⟨by rw[<- dH];exact h.1,by rw[<- dH];exact h.2.1⟩) fA (aW hS)
   have hb:=zzm hb;refine Cg (Zm H2 tv aw ts hT (by omega) (λC hC=>by have:=EP C hC;omega)) λw hS=>?_;refine zu (λhm=>?_) (λhm=>?_)
   ·exact fp (by rw[hI];exact UC λh=>by rw[kx,gV,hm]at h;cases h.2.2) fA (aW hS)
   skip
   have he:=bWe (l:=l) ⟨by rw[dH];exact hb.1,by rw[dH];exact hb.2,by rw[kx,gV];exact hm⟩;refine⟨[X,.mem H2],?_,aW hS⟩;unfold BG;rw[hI,he];simp only;rw[kx,gV];exact⟨tv,H2,fA,hT,rfl,rfl⟩
abbrev mh(tp dp lp:Nat)(dV image:Int):Ξ:=[cF tp,cF dp,cF lp,Γ dV,Γ image]
def df(sp tp dp lp:Nat)(k:cQ):zC:=zH True [.pt sp (mh tp dp lp k.dV k.image) 156,.ob (dL tp k.ts),.ob (dc lp dp k.g)]
section
variable {W w:Ζ} {l F:Β} {sp tp dp lp:Nat}
def df.iff{k:cQ}:SL W (.ob (df sp tp dp lp k)::l) w↔SL W (.pt sp (mh tp dp lp k.dV k.image) 156::.ob (dL tp k.ts)::.ob (dc lp dp k.g)::l) w:=by
 unfold df;simp only[SL.fact,uuk,zzu,zzq]
def df.put(k:cQ)(hS:SL W l w)(p:gx [.pt sp (mh tp dp lp k.dV k.image) 156,.ob (dL tp k.ts),.ob (dc lp dp k.g)] l F):SL W (.ob (df sp tp dp lp k)::F) w:=df.iff.2 (hS.pick p)
end
def df.eO{W w:Ζ}{l F:Β}{sp tp dp lp:Nat}{g:cU}{d:DS}{ts:iI}{dV image:Int}(hS:SL W l w)(p:gx [.pt sp (mh tp dp lp dV image) 156,.ob (dL tp ts),.ob (dc lp dp g)] l F):SL W (.ob (df sp tp dp lp ⟨g,d,ts,dV,image⟩)::F) w:=df.iff.2 (hS.pick p)
structure ju(k:cQ)(N:Nat):Prop where
 g:ij k.g N
 d:k.d.Ok N
 rows:∀C∈k.ts,nm C
 len:∀C∈k.ts,C.length<=1000
 n1:1<=k.ts.length
 n8:k.ts.length<=8
section
variable (sp tp dp lp:Nat) (k:cQ) {N:Nat} (hg:ij k.g N) (hN:N<=1000000000)
include hg hN
def zF:SP 48 [cF sp] [.ob (df sp tp dp lp k)] (cC (Γ (cI k.g.bF)) [.ob (df sp tp dp lp k)]):=by
 refine Enzz λW F w hS=>?_;apply cJp;delta O6 bU bV;have hS:=df.iff.1 hS;refine Gp ?_;refine Cg (Z1 lp dp k.g hg.ok (by omega)) λw hS=>?_;exact⟨_,⟨rfl,rfl⟩,SL.bZ (df.put k hS Xp) Xi⟩
def ZB:SP 49 [cF sp] [.ob (df sp tp dp lp k)] (cC (Γ (eZ k.g.bF)) [.ob (df sp tp dp lp k)]):=by
 refine Enzz λW F w hS=>?_;apply cJq;delta O7 bU bV;have hS:=df.iff.1 hS;refine Gp ?_;refine Cg (Zv lp dp k.g hg.ok (by omega)) λw hS=>?_;exact⟨_,⟨rfl,rfl⟩,SL.bZ (df.put k hS Xp) Xi⟩
def uV(sp tp dp lp:Nat)(k:cQ)(H:bw)(aw:Int)(r:Ε)(post:Β):Prop:=match k.gP aw with
 | .error e=>e≠0/\∃H',H.le H'/\r= .tuple #[agg (fm xZ),Γ e]/\post=[.ob (df sp tp dp lp k),.mem H']
 | .ok t=>∃x H',H.le H'/\r= .tuple #[agg (fm x),Γ 0]/\lz H' x t/\post=[.ob (df sp tp dp lp k),.mem H']
def yS(H:bw)(aw:Int)(hl : -9000000000000000000<=aw/\aw<=9000000000000000000):SP 86 [cF sp,Γ aw] [.ob (df sp tp dp lp k),.mem H] (uV sp tp dp lp k H aw):=by
 refine Enzz λW F w hS=>?_;apply cKk;delta PA aI bU bV ai bR;refine Gb λzb w hS=>?_;have hS:=df.iff.1 (SL.bZ hS (t:=.ob (df sp tp dp lp k)::.pt zb [Γ 0,Γ 0,Θ,Θ,Γ 0] 101::.mem H::F) Xi);refine Gp ?_;refine Cc (Yb lp dp k.g hg.ok (by omega) aw hl) ?_;clear hS;rintro r post hq w hS;unfold D1 at hq;cases hr:mE k.g.bF aw with
 | none=>
  rw[hr]at hq
  obtain⟨rfl,rfl⟩:=hq;have he:k.gP aw= .error 5:=by unfold cQ.gP;rw[hr]
  try simp only[app]at hS
  have hS:=df.put k hS Xp;refine Gp ?_;refine za (λ_=>?_) (λh=>absurd (by decide) h);refine Gn λw hS=>?_;exact⟨[.ob (df sp tp dp lp k),.mem H],by unfold uV;rw[he];exact⟨by decide,H,bw.le_refl H,rfl,rfl⟩,aW hS⟩
 | some bs=>
  rw[hr]at hq
  obtain⟨u,rfl,rfl⟩:=hq;have he:k.gP aw=lA bs:=by unfold cQ.gP;rw[hr]
  try simp only[app]at hS
  have hS:=df.put k hS Xp;refine Gp ?_;refine za (λh=>absurd rfl h) (λ_=>?_);refine Cc (Z7 (.ob (bI u 5 1 bs.length (bs.map cX))) H u bs dP.own) ?_;clear hS;rintro r post hq w hS;unfold vX at hq;cases hd:lA bs with
  | error e=>
   rw[hd]at hq
   obtain⟨dO,H',hh,rfl,rfl⟩:=hq;try simp only[app]at hS
   unfold fm xZ;refine Gn λw hS=>?_;refine⟨[.ob (df sp tp dp lp k),.mem H'],?_,aW hS⟩;unfold uV;rw[he,hd];exact⟨dO,H',hh,rfl,rfl⟩
  | ok t=>
   rw[hd]at hq
   obtain⟨x,H',hh,rfl,hx,rfl⟩:=hq;try simp only[app]at hS
   have gB:=hx.cv.one;have jV:=hx.sv.one;refine Gp ?_;refine zr (vs:=fm x) hS Xu rfl rfl (As (aw:=x.aw) (kind:=x.kind) (mark:=x.mark) gB jV) λw hS=>?_;refine zA hS Xh rfl ?_;refine⟨[.ob (df sp tp dp lp k),.mem H'],?_,aW hS⟩;unfold uV;rw[he,hd];exact⟨x,H',hh,rfl,hx,rfl⟩
end
section
variable (sp tp dp lp:Nat) (k:cQ)
def qQ(t key n:Int)(hn:∀C∈k.ts,C.length<=1000000)(hs:∀C∈k.ts,f_ C)(h1 : -1000000<=n)(h2:n<=9000000000000000000):SP 172 [cF sp,Γ t,Γ key,Γ n] [.ob (df sp tp dp lp k)] (λu post=>post=[fD u (k.wA t key n),.ob (df sp tp dp lp k)]):=by
 refine Enzz λW F w hS=>?_;apply cEt;delta Mi bU;have hS:=df.iff.1 hS;refine Gp ?_;refine Cc (qT tp k.ts t key n hn hs h1 h2) ?_;clear hS;rintro u post rfl w hS;try simp only[app]at hS
 exact⟨_,rfl,SL.bZ (t:=fD u (nU (gX k.ts t) key n)::.ob (df sp tp dp lp k)::F) (df.put k hS Xp) Xi⟩
end
def ZU(H:bw)(v:Ε)(l:List eh)(n:Int)(hv:dx H 4 v l.length (l.map fN).flatten)(hl:l.length<=140737488351232):SP 109 [v,Γ n] [.mem H] (cC (.bool (decide (∀c∈l,c.table<n))) [.mem H]):=by
 refine Enzz λW F w hS=>?_;apply cC8;delta Lh aI a_ cw ai cP;refine zo hv ?_;refine⟨λus w=>∃i:Nat,us=[Γ i]/\i<=l.length/\(∀j (h:j<l.length),j<i->l[j].table<n)/\SL W (.mem H::F) w,λus _=>match us with|[.int _ i]=>(l.length-i).toNat|_=>0,⟨0,rfl,by omega,λj h hj=>by omega,hS⟩,?_⟩;clear hS;rintro v9 w ⟨i,cO,hi,eE,hS⟩;cases cO;refine bY (λh=>?_) (λh=>?_)
 ·have cx:i<l.length:=by omega
  refine zD hS Xh s3 hv (x:=l[i]) (by simp[cx]) cx ?_;have hf:¬l[i].table<n->decide (∀c∈l,c.table<n)=false:=λh=>zzz λh2=>h (h2 _ (zzg cx));have Ik:l[i].table<n->∀j (h:j<l.length),j<i+1->l[j].table<n:=λh j hj iX=>by
   by_cases e:j=i
   ·subst e;exact h
   exact eE j hj (by omega)
  clear eE;generalize l[i]=c at *
  obtain⟨ct,ck,cg,cv⟩:=c;rw[Sb];refine Gm λb w hS=>?_;refine za (λhb=>?_) (λhb=>?_)
  ·rw[hf (by show ¬ct<n;omega)];(exact cA hS)
  refine Gp ?_;refine⟨⟨i+1,rfl,by omega,Ik (by show ct<n;omega),aW hS⟩,by dsimp only;omega⟩
 rw[show decide (∀c∈l,c.table<n)=true from zzl λc hc=>by
  obtain⟨j,hj,rfl⟩:=yyi hc;exact eE j hj (by omega)]
 (exact cA hS)
def Vk{t:cH}(h:eg t=true){n:Int}(h1:1<=n)(h2:n<=1099511627776):eg {t with aw:=n}=true:=by
 obtain⟨_,h3⟩:=vI.1 h;exact vI.2 ⟨⟨h1,h2⟩,h3⟩
abbrev x8(sp tp dp lp:Nat)(H:bw)(y:cQ × (Int × Int)):Ε->Β->Prop:=cC (.tuple #[Γ y.2.1,Γ y.2.2]) [.ob (df sp tp dp lp y.1),.ob (bX dp y.1.d),.mem H]
def YM(sp tp dp lp:Nat)(k:cQ)(H:bw)(x:mK)(t:cH)(hx:lz H x t)(hm:eg t=true){N:Nat}(hk:ju k N)(hN:N<=1000000000)(dS:k.d.ops<=90000):
  SP 111 [cF sp,agg (fm x)] [.ob (df sp tp dp lp k),.ob (bX dp k.d),.mem H] (x8 sp tp dp lp H (k.gz t)):=by
 refine Enzz λW F w hS=>?_;apply cDb;delta Lk aI bU a_ cL ai;have hg:=hk.g;obtain⟨ht1,Fx,ht3,ht4,ht5,Uh,ht7⟩:=l_ hm;have hd0:=th hg.ok.bF;have IS:∀C∈k.ts,C.length<=1000000:=λC hC=>by have:=hk.len C hC;omega
 have fX:∀C∈k.ts,f_ C:=λC hC=>(hk.rows C hC).sorted;have h8:=hk.n8;refine zw hS λxb w hS=>?_;unfold fm at hS;rw[hx.aw,hx.kind,hx.mark]at hS
 have hS:=df.iff.1 (SL.bZ hS (t:=.ob (df sp tp dp lp k)::tS xb x t::.ob (bX dp k.d)::.mem H::F) Xi);refine Gp ?_;refine Cg (zM dp k.d) λw hS=>?_;cases ho:k.d.off with
 | true=>
  refine zq ?_;rw[show k.gz t=(k,(0,8)) by unfold cQ.gz;rw[zzc ho]];exact⟨_,⟨rfl,rfl⟩,SL.bZ (df.put k hS Xp) Xi⟩
 | false=>
  refine zp ?_;refine Gn λw hS=>?_;refine Cg (Q7 tp k.ts H x.cv t.changes hx.cv (by omega) fX IS (by omega) (by omega)) λw hS=>?_;refine zu (λhf=>?_) (λhf=>?_)
  ·rw[show k.gz t=(k,(0,7)) by unfold cQ.gz;rw[zzb (by simp[ho]),zzc (.inl hf)]];exact⟨_,⟨rfl,rfl⟩,SL.bZ (df.put k hS Xp) Xi⟩
  have hS:=df.put k hS Xp;refine Cg (zF sp tp dp lp k hg hN) λw hS=>?_;refine za (λhh=>?_) (λhh=>?_)
  ·rw[show k.gz t=(k,(0,7)) by unfold cQ.gz;rw[zzb (by simp[ho]),zzc (.inr hh)]];exact cA hS
  refine Cg (zF sp tp dp lp k hg hN) λw hS=>?_;have uA:=Vk hm (n:=cI k.g.bF+1) (by omega) (by omega);have ou:lz H ⟨cI k.g.bF+1,t.kind,x.cv,x.sv,t.mark⟩ {t with aw:=cI k.g.bF+1}:=⟨rfl,rfl,rfl,hx.cv,hx.sv⟩;have S5:k.gz t=(let r:=fj k.g k.d (gn {t with aw:=cI k.g.bF+1});if r.2.2=0 then ({k with g:=r.1.1,d:=r.1.2,ts:=fV k.ts t.changes},(cI k.g.bF+1,0)) else ({k with g:=r.1.1,d:=r.1.2},(0,r.2.2))):=by
   unfold cQ.gz;rw[zzb (by simp[ho]),zzb (by rw[hf];simp;omega)]
  have pK:=Ho uA;have Tb:=Rh uA;rw[S5];clear S5;generalize hq:({t with aw:=cI k.g.bF+1}:cH)=t2 at *
  have AQ:1<=cI k.g.bF+1:=by omega
  generalize cI k.g.bF+1=aw at *
  refine Cc (Z8 H ⟨aw,t.kind,x.cv,x.sv,t.mark⟩ t2 ou) ?_;clear hS;rintro r post hq w hS;unfold BJ at hq;rw[Tb]at hq
  obtain⟨bv,rfl,rfl⟩:=hq;try simp only[app]at hS
  have hS:=df.iff.1 (SL.bZ hS (t:=.ob (df sp tp dp lp k)::.ob (bI bv 5 1 (nz t2).length ((nz t2).map cX))::.ob (bX dp k.d)::.pt xb [Γ aw,Γ t.kind,x.cv,x.sv,Γ t.mark] 101::.mem H::F) Xi);refine Gp ?_;refine⟨λus w=>us=[Γ (fj k.g k.d (gn t2)).2.2]/\SL W (.ob (dc lp dp (fj k.g k.d (gn t2)).1.1)::.ob (bX dp (fj k.g k.d (gn t2)).1.2)::.pt sp (mh tp dp lp k.dV k.image) 156::.ob (dL tp k.ts)::.pt xb [Γ aw,Γ t.kind,x.cv,x.sv,Γ t.mark] 101::.mem H::F) w,?_,?_⟩
  ·refine Gp ?_;refine za (λ_=>?_) (λh=>absurd rfl h);refine Gp ?_;refine Cg (Zg (.ob (bI bv 5 1 (nz t2).length ((nz t2).map cX))) lp dp k.g k.d bv (nz t2) dP.own (by omega) hg.ok (by omega) hk.d (by omega) dS) λw hS=>?_;exact aW hS
  clear hS;rintro v7 w ⟨cO,hS⟩;cases cO;generalize fj k.g k.d (gn t2)=r at *
  obtain⟨⟨g',d'⟩,n',e'⟩:=r;simp only at hS ⊢;refine bY (λhe=>?_) (λhe=>?_)
  ·rw[zzb he];exact⟨_,⟨rfl,rfl⟩,SL.bZ (df.eO (d:=d') hS Xp) Xi⟩
  have he:e'=0:=by omega
  rw[zzc he];refine Gn λw hS=>?_;refine Cg (ZM tp k.ts H x.cv t.changes hx.cv (by omega) fX 1000 hk.len (by omega)) λw hS=>?_;have eE:t.changes.all (hY k.ts.length)=true:=by
   unfold mr at hf;rw[zz9]at hf
   exact hf.1
  rw[zzc eE]at hS
  exact⟨_,⟨rfl,rfl⟩,SL.bZ (df.eO (d:=d') hS Xp) Xi⟩
def Y6(sp tp dp lp:Nat)(k:cQ)(H:bw)(sv cv:Ε)(sg:Ψ)(l:List eh)(hs:dx H 1 sv sg.length (sg.map Value.string))(hc:dx H 4 cv l.length (l.map fN).flatten)(hl:l.length<=140737488351232){N:Nat}(hk:ju k N)(hN:N<=1000000000)(dS:k.d.ops<=90000):
  SP 67 [cF sp,sv,cv] [.ob (df sp tp dp lp k),.ob (bX dp k.d),.mem H] (x8 sp tp dp lp H (k.nY sg l)):=by
 refine Enzz λW F w hS=>?_;apply cJ7;delta Po bU cL ai bR;have vC:=hs.one;have gB:=hc.one;have hx:lz H ⟨1,1,cv,sv,0⟩ ⟨1,1,l,sg,0⟩:=⟨rfl,rfl,rfl,hc,hs⟩;have e0:ir [Γ 0,Γ 0,Θ,Θ,Γ 0] [(0,1,Γ 1),(1,1,Γ 1),(2,1,cv),(3,1,sv)]=some (fm ⟨1,1,cv,sv,0⟩):=by
  simp[ir,show ∀n,(Γ n).cells = #[Γ n] from λ_=>rfl,Bg vC,Bg gB,fm]
 refine yX e0 ?_;refine Gb λxb w hS=>?_;refine zr hS Xu rfl rfl (As gB vC) λw hS=>?_;refine zA hS Xh rfl ?_;refine Cg (yo H ⟨1,1,cv,sv,0⟩ ⟨1,1,l,sg,0⟩ hx) λw hS=>?_;refine zu (λhm=>?_) (λhm=>?_)
 ·rw[show k.nY sg l=(k,(0,1)) by unfold cQ.nY;rw[zzb (by rw[hm];simp)]];exact cA hS
 have hS:=df.iff.1 (SL.bZ hS (t:=.ob (df sp tp dp lp k)::.pt xb (fm ⟨1,1,cv,sv,0⟩) 101::.ob (bX dp k.d)::.mem H::F) Xi);refine Gp ?_;refine Cg (yr tp k.ts) λw hS=>?_;refine Cg (ZU H cv l k.ts.length hc hl) λw hS=>?_;have hS:=df.put k hS Xp;refine zu (λhb=>?_) (λhb=>?_)
 ·have hb:=yyw hb;rw[show k.nY sg l=(k,(0,1)) by unfold cQ.nY;rw[zzb λh=>hb h.2]];exact cA hS
 have hb:=zzm hb;rw[show k.nY sg l=k.gz ⟨1,1,l,sg,0⟩ by unfold cQ.nY;rw[zzc ⟨hm,hb⟩]];refine zA hS Xh rfl ?_;refine Cg (YM sp tp dp lp k H ⟨1,1,cv,sv,0⟩ ⟨1,1,l,sg,0⟩ hx hm hk hN dS) λw hS=>?_;exact cA hS
def mo(d:DS)(f:Int):DS × Int:=if 0<=gf d.R f then d.cut f 0 else (d,0)
def nZ(d:DS)(f:Int)(b:Φ):DS × Int:=if (mo d f).2=0 then (mo d f).1.append f b else mo d f
def R4(d:DS)(f:Int)(b:Φ):jK d f b=if (nZ d f b).2=0 then (nZ d f b).1.sync f else nZ d f b:=by
 unfold jK nZ;rw[show (if 0<=gf d.R f then d.cut f 0 else (d,0))=mo d f from rfl];generalize mo d f=c;simp only;by_cases h:c.2=0
 ·rw[zzb (by simp[h]),zzc h];generalize c.1.append f b=a;by_cases h2:a.2=0
  ·rw[zzb (by simp[h2]),zzc h2]
  rw[zzc h2,zzb h2]
 rw[zzc h,zzb h,zzb h]
def R3{d:DS}{f:Int}{N:Nat}(h:d.Ok N):(mo d f).1.Ok N/\(mo d f).1.ops<=d.ops+1:=by
 unfold mo;split
 ·exact⟨h.cut f 0,V3 d f 0⟩
 exact⟨h,Nat.le_succ _⟩
def R0{d:DS}{f:Int}{b:Φ}{N:Nat}(h:d.Ok N):(nZ d f b).1.Ok (N+b.length)/\(nZ d f b).1.ops<=d.ops+2:=by
 obtain⟨h1,h2⟩:=R3 (f:=f) h;unfold nZ;split
 ·exact⟨h1.append f b,by have:=V2 (mo d f).1 f b;omega⟩
 exact⟨h1.mono (by omega),by omega⟩
def R5{d:DS}{f:Int}{b:Φ}{N:Nat}(h:d.Ok N):(jK d f b).1.Ok (N+b.length)/\(jK d f b).1.ops<=d.ops+3:=by
 obtain⟨h1,h2⟩:=R0 (f:=f) (b:=b) h;rw[R4];split
 ·exact⟨h1.sync f,by have:=b_j (nZ d f b).1 f;omega⟩
 exact⟨h1,by omega⟩
def ju.i_{k:cQ}{N:Nat}(h:ju k N):i_ (cI k.g.bF) k.ts=true:=
 sD.2 ⟨⟨(th h.g.ok.bF).1,h.g.hd,h.n1,h.n8⟩,λC hC=>⟨(h.rows C hC).sorted,(h.rows C hC).rows,h.len C hC⟩⟩
def nk.zero(H:bw)(ts:List (List Row)):nk H [] (ts.take 0):=nk.nil H
def QW(sp tp dp lp:Nat)(k:cQ)(H:bw){N:Nat}(hk:ju k N)(hN:N<=1000000000)(dS:k.d.ops<=90000):
  SP 181 [cF sp] [.ob (df sp tp dp lp k),.ob (bX dp k.d),.mem H] (λv post=>v= Γ k.h_.2/\∃H',H.le H'/\post=[.ob (df sp tp dp lp k.h_.1),.ob (bX dp k.h_.1.d),.mem H']):=by
 refine Enzz λW F w hS=>?_;apply cE2;delta Mr aI bU cV ai bR;have IS:∀C∈k.ts,C.length<=1000000:=λC hC=>by have:=hk.len C hC;omega
 have h8:=hk.n8;have nF:=hk.i_;have hS:=df.iff.1 hS;refine⟨λus w=>us=[Γ (jq k)]/\SL W (.pt sp (mh tp dp lp k.dV k.image) 156::.ob (dL tp k.ts)::.ob (dc lp dp k.g)::.ob (bX dp k.d)::.mem H::F) w,?_,?_⟩
 ·refine bY (λh=>?_) (λh=>?_)
  ·rw[show jq k=1 by unfold jq;rw[zzc h]];refine Gp ?_;first|exact hS|exact⟨rfl,hS⟩
  rw[show jq k=0 by unfold jq;rw[zzb h]];first|exact hS|exact⟨rfl,hS⟩
 clear hS;rintro v3 w ⟨cO,hS⟩;cases cO;generalize hf:jq k=f at *
 refine Gp ?_;refine Cg (yr tp k.ts) λw hS=>?_;have hS:SL W (.ob (bI Θ 67 1 (k.ts.take 0).length [])::_) _:=bI.nil hS;refine⟨λus w=>∃(i:Nat) (tv:Ε) (vs:Ξ) (H':bw),us=[tv,Γ i]/\i<=k.ts.length/\H.le H'/\nk H' vs (k.ts.take i)/\SL W (.ob (bI tv 67 1 (k.ts.take i).length vs)::.pt sp (mh tp dp lp k.dV k.image) 156::.ob (dL tp k.ts)::.ob (dc lp dp k.g)::.ob (bX dp k.d)::.mem H'::F) w,
  λus _=>match us with|[_,.int _ i]=>(k.ts.length-i).toNat|_=>0,⟨0,_,[],H,rfl,by omega,bw.le_refl H,nk.zero H k.ts,aW hS⟩,?_⟩
 clear hS;rintro tv v21 w ⟨i,_,vs,H',cO,hi,hh,hR,hS⟩;cases cO;refine bY (λh=>?_) (λh=>?_)
 ·have cx:i<k.ts.length:=by omega
  refine Gp ?_;refine Cc (Q9 tp k.ts i IS) ?_;clear hS;rintro rv post rfl w hS;rw[nR k.ts i cx]at hS
  try simp only[app]at hS
  obtain⟨H2,dQ,hO,hS⟩:=zz (H:=H') (v:=rv) hS Xp;have gB:=hO.one;have AQ:(k.ts.take i).length=i:=by rw[zzf];omega
  refine zN hS (Su gB) λb w hS=>?_;refine zJ (n:=(k.ts.take i).length) (m:=1) hS Xr (j8 (cs:=[rv]) hS Xh rfl) rfl rfl (by simpa using gB) (by omega) (by omega) ?_;clear hS;intro u w hS;have gV:k.ts.take (i+1)=k.ts.take i++[k.ts[i]]:=zze cx;refine Gp ?_;refine⟨⟨i+1,u,vs++[rv],H2,rfl,by omega,bw.le_trans hh dQ,by rw[gV];exact (hR.mono dQ).snoc hO,?_⟩,by dsimp only;omega⟩;have hS:=hS.pY (x:=k.ts[i]);rw[gV];exact aW hS
 obtain rfl:i=k.ts.length:=by omega
 rw[zz0]at hR hS
 obtain⟨H2,dQ,hO,hS⟩:=zz (H:=H') (v:=tv) hS Xp;have fA:=bw.le_trans hh dQ;have hT:uU H2 tv k.ts:=⟨vs,hO,hR.mono dQ⟩;have hS:=df.put k hS Xp;refine Cg (zF sp tp dp lp k hk.g hN) λw hS=>?_;refine Cc (qE H2 tv (cI k.g.bF) k.ts hT (by omega) (λC hC=>by have:=hk.len C hC;omega)) ?_;clear hS;rintro r post hq w hS;unfold DV Ew at hq;rw[zzc nF]at hq
 obtain⟨bv,rfl,rfl⟩:=hq;(try simp only[app]at hS);refine Gp ?_
 have pK:(cZ (jf (cI k.g.bF) k.ts)).length<=400000:=by rw[kD];have:=A' nF;omega
 have hD:k.h_=(let r:=jK k.d f (cZ (jf (cI k.g.bF) k.ts));if r.2=0 then ({k with d:=r.1,dV:=f,image:=cI k.g.bF},0) else ({k with d:=r.1},r.2)):=by rw[<- hf];rfl
 rw[hD];clear hD nF;generalize cZ (jf (cI k.g.bF) k.ts)=B at *
 have hS:=df.iff.1 (SL.bZ hS (t:=.ob (df sp tp dp lp k)::.ob (bI bv 5 1 B.length (B.map cX))::.ob (bX dp k.d)::.mem H2::F) Xi);refine⟨λus w=>us=[Γ (mo k.d f).2]/\SL W (.ob (bX dp (mo k.d f).1)::.ob (bI bv 5 1 B.length (B.map cX))::.pt sp (mh tp dp lp k.dV k.image) 156::.ob (dL tp k.ts)::.ob (dc lp dp k.g)::.mem H2::F) w,?_,?_⟩
 ·refine Gp ?_;refine za (λ_=>?_) (λh=>absurd rfl h);refine Gp ?_;refine Cg (YB dp k.d f) λw hS=>?_;refine za (λh0=>?_) (λh0=>?_)
  ·rw[show mo k.d f=k.d.cut f 0 by unfold mo;rw[zzc h0]];refine Gp ?_;refine Cg (Zt dp k.d N hk.d (by omega) (by omega) f 0) λw hS=>?_;first|exact aW hS|exact⟨rfl,aW hS⟩
  rw[show mo k.d f=(k.d,0) by unfold mo;rw[zzb h0]];first|exact aW hS|exact⟨rfl,aW hS⟩
 clear hS;rintro v7 w ⟨cO,hS⟩;cases cO;obtain⟨gB,jV⟩:=R3 (f:=f) hk.d;refine⟨λus w=>us=[Γ (nZ k.d f B).2]/\SL W (.ob (bX dp (nZ k.d f B).1)::.pt sp (mh tp dp lp k.dV k.image) 156::.ob (dL tp k.ts)::.ob (dc lp dp k.g)::.mem H2::F) w,?_,?_⟩
 ·refine bY (λh0=>?_) (λh0=>?_)
  ·rw[show nZ k.d f B=(mo k.d f).1.append f B by unfold nZ;rw[zzc h0]];refine Gp ?_;refine Cg (He (.ob (bI bv 5 1 B.length (B.map cX))) dp (mo k.d f).1 N gB (by omega) f bv B (λh m=>mZ h m) (by omega)) λw hS=>?_;first|exact aW hS|exact⟨rfl,aW hS⟩
  rw[show nZ k.d f B=mo k.d f by unfold nZ;rw[zzb h0]];first|exact aW hS|exact⟨rfl,aW hS⟩
 clear hS;rintro v7 w ⟨cO,hS⟩;cases cO;obtain⟨l4,wX⟩:=R0 (f:=f) (b:=B) hk.d;rw[R4];generalize nZ k.d f B=a at *
 simp only;refine bY (λh0=>?_) (λh0=>?_)
 ·rw[zzc h0];refine Gp ?_;refine Cg (Yj dp a.1 (N+B.length) l4 (by omega) f) λw hS=>?_;generalize a.1.sync f=c at *
  refine za (λhe=>?_) (λhe=>?_)
  ·rw[zzb he];exact⟨_,⟨rfl,H2,fA,rfl⟩,SL.bZ (df.eO (d:=c.1) hS Xp) Xi⟩
  rw[zzc (show c.2=0 by omega)];have hS:=df.put k hS Xp;refine Cg (zF sp tp dp lp k hk.g hN) λw hS=>?_;have hS:=df.iff.1 (SL.bZ hS (t:=.ob (df sp tp dp lp k)::.ob (bX dp c.1)::.mem H2::F) Xi);refine Gn λw hS=>?_;exact⟨_,⟨rfl,H2,fA,rfl⟩,SL.bZ (df.eO (d:=c.1) (dV:=f) (image:=cI k.g.bF) hS Xp) Xi⟩
 rw[zzb h0,zzb h0];refine Gp ?_;refine za (λhe=>?_) (λhe=>absurd (by omega) h0);exact⟨_,⟨rfl,H2,fA,rfl⟩,SL.bZ (df.eO (d:=a.1) hS Xp) Xi⟩
def Q2(sp tp dp lp:Nat)(k:cQ)(H:bw)(aw:Int){N:Nat}(hk:ju k N)(hN:N<=900000000)(dS:k.d.ops+k.g.bF.length<=90000):
  SP 120 [cF sp,Γ aw] [.ob (df sp tp dp lp k),.ob (bX dp k.d),.mem H] (λv post=>v= Γ (k.gY aw).2/\∃H',H.le H'/\post=[.ob (df sp tp dp lp (k.gY aw).1),.ob (bX dp (k.gY aw).1.d),.mem H']):=by
 refine Enzz λW F w hS=>?_;apply cDk;delta Lt aI bU ai;have gL:∀{w:Ζ} {e:Int},k.gY aw=(k,e)->SL W (.ob (df sp tp dp lp k)::.ob (bX dp k.d)::.mem H::F) w->∃post,((Γ e:Ε)= Γ (k.gY aw).2/\∃H',H.le H'/\post=[.ob (df sp tp dp lp (k.gY aw).1),.ob (bX dp (k.gY aw).1.d),.mem H'])/\SL W (app post F) w:=λhe hS=>by
  rw[he];exact⟨_,⟨rfl,H,bw.le_refl H,rfl⟩,hS⟩
 refine Gp ?_;refine za (λh=>gL (by unfold cQ.gY;rw[zzc (.inl h)]) hS) (λh1=>?_);refine Cg (zF sp tp dp lp k hk.g (by omega)) λw hS=>?_;refine za (λh=>gL (by unfold cQ.gY;rw[zzc (.inr h)]) (aW hS)) (λh2=>?_);have hS:=df.iff.1 (SL.bZ hS (t:=.ob (df sp tp dp lp k)::.ob (bX dp k.d)::.mem H::F) Xi);refine Gp ?_;refine Cg (zM dp k.d) λw hS=>?_;have hS:=df.put k hS Xp;have dQ:¬(aw<0\/cI k.g.bF<aw):=by omega
 cases ho:k.d.off with
 | true=>
  refine zq ?_;exact gL (by unfold cQ.gY;rw[zzb dQ,zzc ho]) (aW hS)
 | false=>
  refine zp ?_;have hT:k.gY aw=(let r:=if k.image<aw then k.h_ else (k,0);if r.2≠0 then r else let t:=gR r.1.g r.1.d aw;({r.1 with g:=t.1.1,d:=t.1.2},t.2)):=by
   unfold cQ.gY;rw[zzb dQ,zzb (by simp[ho])]
  rw[hT];clear hT gL;have hS:=df.iff.1 (SL.bZ hS (t:=.ob (df sp tp dp lp k)::.ob (bX dp k.d)::.mem H::F) Xi);refine bY (λh3=>?_) (λh3=>?_)
  ·rw[zzc h3];have hS:=df.put k hS Xp;refine Cc (QW sp tp dp lp k H hk (by omega) (by omega)) ?_;clear hS;rintro v post ⟨rfl,H',hh,rfl⟩ w hS;try simp only[app]at hS
   have ux:k.h_.1.g=k.g:=by unfold cQ.h_;simp only;split<;>rfl
   have vo:k.h_.1.d.Ok (N+400000)/\k.h_.1.d.ops<=k.d.ops+3:=by
    have nF:=hk.i_;have pK:(cZ (jf (cI k.g.bF) k.ts)).length<=400000:=by rw[kD];have:=A' nF;omega
    obtain⟨a,b⟩:=R5 (f:=jq k) (b:=cZ (jf (cI k.g.bF) k.ts)) hk.d;have:k.h_.1.d=(jK k.d (jq k) (cZ (jf (cI k.g.bF) k.ts))).1:=by unfold cQ.h_;simp only;split<;>rfl
    rw[this];exact⟨a.mono (by omega),b⟩
   generalize k.h_=r at *
   obtain⟨k2,e⟩:=r;simp only at ux vo hS ⊢;refine bY (λhe=>?_) (λhe=>?_)
   ·rw[zzc he];exact⟨_,⟨rfl,H',hh,rfl⟩,aW hS⟩
   rw[zzb he];have hS:=df.iff.1 hS;refine Gp ?_;refine Cg (Zp lp dp k2.g k2.d aw (by rw[ux];exact hk.g.ok) (by omega) vo.1 (by rw[ux];omega)) λw hS=>?_;exact⟨_,⟨rfl,H',hh,rfl⟩,SL.bZ (df.eO (d:=(gR k2.g k2.d aw).1.2) hS Xp) Xi⟩
  rw[zzb h3];simp only;rw[zzb (by simp)];refine Gp ?_;refine Cg (Zp lp dp k.g k.d aw hk.g.ok (by omega) hk.d (by omega)) λw hS=>?_;exact⟨_,⟨rfl,H,bw.le_refl H,rfl⟩,SL.bZ (df.eO (d:=(gR k.g k.d aw).1.2) hS Xp) Xi⟩
def cM(n:Int)(l:List cH)(k:Int):List (List Row):=if n<1\/8<n then [] else (List.range n.toNat).map λt:Nat=>wP t (l.take (bRm k l.length))
def bFm(l:List cH)(tb:Int)(i:Nat):(wP tb (l.take i)).length<=(l.flatMap (·.changes)).length:=by
 have h2:=bXi (l:=(l.take i).flatMap (·.changes)) [] tb;have e:(l.flatMap (·.changes)).length=((l.take i).flatMap (·.changes)).length+((l.drop i).flatMap (·.changes)).length:=by
  have:l=l.take i++l.drop i:=by simp
  conv=>lhs;rw[this]
  simp only[vv5,zza]
 unfold wP;simp only[yyp]at h2;omega
def JT{base size:Int}(b0:0<=base)(b1:base<=12288)(s0:64<=size)(s1:size<=65536):eV gK base size=(gK,.ok ⟨[],base,size,none⟩):=
 JX (L:=[]) (f:=base) (n:=1) trivial rfl rfl b0 b1 s0 s1 (yyd _) (by simp;omega) (by decide) (by simp[cR])
def bXk{base size:Int}(b0:0<=base)(b1:base<=12288)(s0:64<=size)(s1:size<=65536):gw ⟨[],base,size,none⟩ gK base 1 []:=
 ⟨trivial,rfl,rfl,λ_=>⟨rfl,rfl⟩,yyd _,b0,b1,s0,s1,by decide,by show base+((0:Nat):Int)+2<=base+4096;omega,rfl,rfl⟩
def bZy{base size:Int}(b0:0<=base)(b1:base<=12288)(s0:64<=size)(s1:size<=65536):(⟨[],base,size,none⟩:cU).Ok 0:=⟨by simp,b0,b1,s0,s1,zzi _⟩
structure nT(n:Nat)(all:List cH):Prop where
 ok:sS n all
 len:all.length<=1000
 jy:(all.flatMap (·.changes)).length<=1000
def nT.nil(n:Nat):nT n []:=⟨⟨by simp,λi h=>by simp at h,by simp⟩,by decide,by decide⟩
def nT.take{n:Nat}{all:List cH}(h:nT n all)(j:Nat):nT n (all.take j):=by
 refine⟨⟨λt ht=>h.ok.may t (yyo ht),λi hi=>?_,λt ht=>h.ok.ch t (yyo ht)⟩,by rw[zzf];have:=h.len;omega,?_⟩
 ·rw[uuj];exact h.ok.aw i _
 have e:(all.flatMap (·.changes)).length=((all.take j).flatMap (·.changes)).length+((all.drop j).flatMap (·.changes)).length:=by
  conv=>lhs;rw[<- yyl j all]
  rw[vv5,zza]
 have:=h.jy;omega
def nT.row{n:Nat}{all:List cH}(h:nT n all):∀C∈fF n all,C.length<=1000:=λC hC=>by
 unfold fF at hC;obtain⟨t,_,rfl⟩:=zzv.1 hC;have:=bFm all (t:Int) all.length;rw[zz0]at this
 have:=h.jy;omega
def nT.rows{n:Nat}{all:List cH}(h:nT n all):∀C∈fF n all,nm C:=Ky h.ok.may h.ok.ch
def nT.xE{n:Nat}{all:List cH}(h:nT n all)(n1:1<=n)(n8:n<=8):x' n all:=λj hj=>by
 have ht:=h.take j;have hl:=h.len;refine sD.2 ⟨⟨by omega,by omega,by rw[pZ];exact n1,by rw[pZ];exact n8⟩,λC hC=>⟨(ht.rows C hC).sorted,(ht.rows C hC).rows,ht.row C hC⟩⟩
def ju.mono{k:cQ}{N M:Nat}(h:ju k N)(hm:N<=M):ju k M:=⟨h.g.mono hm,h.d.mono hm,h.rows,h.len,h.n1,h.n8⟩
def ju.add{k:cQ}{N:Nat}(h:ju k N){t:cH}(hm:eg t=true):ju (k.gz t).1 (N+2000):=by
 unfold cQ.gz;split
 ·exact h.mono (by omega)
 split
 ·exact h.mono (by omega)
 rename_i ho hf;have tm:=th h.g.ok.bF;have uA:=Vk hm (n:=cI k.g.bF+1) (by omega) (by omega);have hl:=Ho uA;have hb:(gn {t with aw:=cI k.g.bF+1}).length<=1200:=hl;have hg:=PZ (d:=k.d) h.g (gn {t with aw:=cI k.g.bF+1});have hd:=P0 (g:=k.g) h.d (gn {t with aw:=cI k.g.bF+1});generalize gn {t with aw:=cI k.g.bF+1}=p at *
 have pM:mr k.ts t.changes=true:=by
  cases hq:mr k.ts t.changes with
  | true=>rfl
  | false=>exact absurd (Or.inl hq) hf
 simp only;split
 ·unfold mr at pM;rw[zz9,zz6,zz6]at pM
  refine⟨hg.mono (by omega),hd.mono (by omega),Hh (k:=8) h.rows (l_ hm).2.2.2.2.2.1 pM.1,λC hC=>zzm (pM.2 C hC),?_,?_⟩
  ·show 1<=(fV k.ts t.changes).length;rw[tV];exact h.n1
  show (fV k.ts t.changes).length<=8;rw[tV];exact h.n8
 exact⟨hg.mono (by omega),hd.mono (by omega),h.rows,h.len,h.n1,h.n8⟩
def ju.draw{k:cQ}{N:Nat}(h:ju k N):ju k.h_.1 (N+400000):=by
 have nF:=h.i_;have pK:(cZ (jf (cI k.g.bF) k.ts)).length<=400000:=by rw[kD];have:=A' nF;omega
 obtain⟨hd,_⟩:=R5 (f:=jq k) (b:=cZ (jf (cI k.g.bF) k.ts)) h.d;have hd:=hd.mono (M:=N+400000) (by omega);unfold cQ.h_;simp only;split
 ·exact⟨h.g.mono (by omega),hd,h.rows,h.len,h.n1,h.n8⟩
 exact⟨h.g.mono (by omega),hd,h.rows,h.len,h.n1,h.n8⟩
def ju.trim{k:cQ}{N:Nat}(h:ju k N)(aw:Int):ju (k.gY aw).1 (N+400000):=by
 unfold cQ.gY;split
 ·exact h.mono (by omega)
 split
 ·exact h.mono (by omega)
 have hr:ju (if k.image<aw then k.h_ else (k,0)).1 (N+400000):=by
  split
  ·exact h.draw
  exact h.mono (by omega)
 generalize (if k.image<aw then k.h_ else (k,0))=r at *
 simp only;split
 ·exact hr
 exact⟨cCe hr.g aw,cCg hr.d aw,hr.rows,hr.len,hr.n1,hr.n8⟩
def vG(n:Nat)(size:Int):cQ:=⟨⟨[],16,size,none⟩,gK,List.replicate n [],-1,0⟩
def cAb{n:Nat}(n1:1<=n)(n8:n<=8){size:Int}(s0:64<=size)(s1:size<=65536):lk gK n size=(gK,.ok (vG n size))/\iU n (vG n size) [] 0 [] gK 16 0 0:=by
 have lC:ml n [] [] (-1) 0:=⟨.nil,by simp,by simp,λ_=>rfl,.inl rfl,zzi _,λh=>absurd rfl h,by simp⟩;have hw:dG 16 4112 [] [] gK.R:=⟨by simp,by simp[gK],by simp⟩;have:=V1 n1 n8 (nT.nil n).ok ((nT.nil n).xE n1 n8) (I:=[]) (tr:=0) (JT (base:=16) (by decide) (by decide) s0 s1) hw (bXk (by decide) (by decide) s0 s1) rfl lC (zzi _) (zzi _) (by decide);rw[Kx]at this
 exact this
def cAa{n:Nat}(n1:1<=n)(n8:n<=8){size:Int}(s0:64<=size)(s1:size<=65536):ju (vG n size) 0:=
 ⟨⟨bZy (by decide) (by decide) s0 s1,trivial,show (0:Int)<=1099511627776 by decide,λx hx=>by cases hx⟩,DD 0,λC hC=>by rw[(uue.1 hC).2];exact Wt,λC hC=>by rw[(uue.1 hC).2];exact zz4 _,by show 1<=(List.replicate n []).length;rw[xxf];exact n1,by show (List.replicate n []).length<=8;rw[xxf];exact n8⟩
def iU.read{n:Nat}{k:cQ}{all:List cH}{tr:Nat}{I:List PF}{d0:DS}{f:Int}{lo m:Nat}(h:iU n k all tr I d0 f lo m)(ho:∀t∈all,eg t=true){j:Nat}(h1:lo<=j)(h2:j<all.length):k.gP ((j:Int)+1)= .ok all[j]:=by
 unfold cQ.gP;rw[h.log.chain.read,zzc (by omega),h.log.gv];have e:(((j:Int)+1-((lo:Int)+1)).toNat)=j-lo:=by omega
 have e2:((all.drop lo).map gn)[j-lo]?=some (gn all[j]):=by
  rw[wwr,wwj,show lo+(j-lo)=j by omega,zzd h2];rfl
 rw[e,e2];exact Rg (ho _ (zzg h2))
def iU.bF{n:Nat}{k:cQ}{all:List cH}{tr:Nat}{I:List PF}{d0:DS}{f:Int}{lo m:Nat}(h:iU n k all tr I d0 f lo m):k.g.bF.length<=all.length+1:=by
 have:=h.log.chain.sB;rw[h.log.gv,zzn,zzr]at this
 omega
def V0{d d':DS}{n size:Int}{k:cQ}(h:lk d n size=(d',.ok k)):eV d 16 size=(d',.ok k.g):=by
 unfold lk at h;split at h
 ·cases h
 split at h
 ·cases h
 rename_i g hg;simp only at h;split at h
 ·cases h
 split at h
 ·cases h;exact hg
 cases h
structure dE where
 n:Int
 state:Int
 mark:Int
 after:Int
 id:Int
 table:Int
 rows:List Row
 dz:Int
 last:Bool
abbrev mH(n:Int):dE:=⟨n,0,0,0,0,0,[],0,false⟩
def dE.xT(w:dE)(mark id table after:Int):Prop:=w.state≠0\/mark<1\/1099511627776<mark\/id<1\/64<id\/table<0\/8<=table\/after<0\/1099511627776<after
instance (w:dE) (mark id table after:Int):Decidable (w.xT mark id table after):=by unfold dE.xT;infer_instance
def dE.tJ(w:dE)(mark id table after:Int):dE:=if w.xT mark id table after then w else ⟨w.n,1,mark,after,id,table,[],0,false⟩
def nQ:Int->List Row->Bool
 | _,[]=>true
 | k,r::C=>decide (k<r.key/\r.key<=1099511627776) && nQ r.key C
def ll(after:Int)(C:List Row):Int:=(C.getLast?.map (·.key)).getD after
def dE.wN(w:dE)(C:List Row):Prop:=w.state≠1\/w.n<C.length\/nQ w.after C=false
instance (w:dE) (C:List Row):Decidable (w.wN C):=by unfold dE.wN;infer_instance
def dE.fill(w:dE)(C:List Row):dE:=if w.wN C then w else {w with state:=2,rows:=C,dz:=ll w.after C,last:=decide ((C.length:Int)<w.n)}
def dE.shut(w:dE):dE:=if w.state=2 then {w with state:=3} else w
def dE.waits(w:dE)(kind mark:Int):Bool:=decide (kind=2/\mark=w.mark/\(w.state=1\/w.state=2))
def dE.low(w:dE)(mark:Int):dE:=if w.state=3/\mark=w.mark then {w with state:=4} else w
def kY(t:Int)(l:List eh)(r:Row):Bool:=l.any λc=>decide (c.table=t/\c.key=r.key)
def dE.rH(w:dE)(l:List eh):dE:=if w.state=4 then {w with rows:=w.rows.filter λr=>!kY w.table l r} else w
def dE.uy(w:dE)(mark aw:Int):Prop:=w.state≠4\/mark≠w.mark\/aw<1\/1099511627776<aw
instance (w:dE) (mark aw:Int):Decidable (w.uy mark aw):=by unfold dE.uy;infer_instance
def j7(w:dE)(aw:Int):List gl:=w.rows.map λr=>⟨aw,w.table,r.key,false,r.val⟩
def rC(w:dE):il:=⟨2,w.id,0,0,0,w.dz,w.last⟩
def dE.high(w:dE)(mark aw:Int):dE × Option cD:=if w.uy mark aw then (w,none) else (mH w.n,some ⟨aw,j7 w aw,[rC w]⟩)
structure dA where
 l:List (Int × Int)
 at_:Int
 left:Int
abbrev wE:dA:=⟨[],-1,0⟩
def A9(d:dA)(id:Int):Option Nat:=d.l.findIdx? λm=>decide (m.1=id)
def dA.add(d:dA)(id weight:Int):dA:=
 if id<1\/64<id\/weight<1\/8<weight then d else match A9 d id with
 | some _=>d
 | none=>{d with l:=d.l++[(id,weight)]}
def dA.del(d:dA)(id:Int):dA:=match A9 d id with
 | none=>d
 | some i=>⟨d.l.eraseIdx i,if (i:Int)<=d.at_ then d.at_-1 else d.at_,if (i:Int)=d.at_ then 0 else d.left⟩
def dA.place(d:dA):Int:=if d.left=0 then (if (d.l.length:Int)<=d.at_+1 then 0 else d.at_+1) else d.at_
def dA.ma(d:dA):Int × Int:=(d.l[d.place.toNat]?).getD (0,0)
def dA.next(d:dA):dA × Int:=if d.l=[] then (d,0) else (⟨d.l,d.place,(if d.left=0 then d.ma.2 else d.left)-1⟩,d.ma.1)
structure dA.Ok(d:dA):Prop where
 lV : -1<=d.at_
 oI:d.at_<d.l.length
 FI:0<=d.left
 FJ:d.left<=8
 neg:d.at_ = -1->d.left=0
 w:∀m∈d.l,1<=m.1/\m.1<=64/\1<=m.2/\m.2<=8
 nd:(d.l.map Prod.fst).Nodup
def uS:Φ:=[115,110,97,112,115,104,111,116,32]
def vO:Φ->Option (Int × Int)
 | [d]=>if 48<=d.toNat/\d.toNat<=55 then some ((d.toNat:Int)-48,1) else none
 | [d,s,e]=>if (48<=d.toNat/\d.toNat<=55)/\s.toNat=32/\49<=e.toNat/\e.toNat<=56 then some ((d.toNat:Int)-48,(e.toNat:Int)-48) else none
 | _=>none
def xU(s:Η):Option (Int × Int):=if s.data.toList.take 9=uS then vO (s.data.toList.drop 9) else none
structure dC where
 tables:Int
 late:Int
 at_:Int
 reqs:List Rq
 cB:dE
def Dq(tables late chunk aw:Int)(L:List Rq):Prop:=tables<1\/8<tables\/late<0\/2 ^ tables.toNat<=late\/aw<0\/1099511627776<aw\/chunk<1\/64<chunk\/¬gg L\/∃r∈L,tables<=r.table\/aw<r.at_
def dC.captured(m:dC)(t:Int):Bool:=decide (0<=t/\t<m.tables) && (decide (P_ m.late t=0) || m.reqs.any λr=>decide (r.table=t))
def dC.accept(m:dC)(s:Η)(aw:Int):List Rq × List il:=match xU s with
 | none=>(m.reqs,[])
 | some g=>if m.tables<=g.1 then (m.reqs,[]) else match pw m.reqs g.1 g.2 aw with
  | none=>(m.reqs,[])
  | some L=>(L,[⟨1,L.length,g.1,g.2,aw,0,false⟩])
def dC.ff(m:dC)(aw:Int):Ψ->dC × List il
 | []=>(m,[])
 | s::l=>let r:=m.accept s aw;let x:=dC.ff {m with reqs:=r.1} aw l;(x.1,r.2++x.2)
def mc(m:dC)(aw:Int)(l:List eh):List gl:=(l.filter λc=>m.captured c.table).map λc=>⟨aw,c.table,c.key,c.gone,c.val⟩
def dC.Aj(m:dC)(t:cH):dC × cD:=
 let x:=m.ff t.aw t.signals
 ({x.1 with cB:=x.1.cB.rH t.changes},⟨t.aw,mc x.1 t.aw t.changes,x.2⟩)
def dC.high(m:dC)(t:cH):dC × cD:=match m.cB.high t.mark t.aw with
 | (_,none)=>(m,⟨t.aw,[],[]⟩)
 | (w,some x)=>match lW m.reqs m.cB.id m.cB.dz m.cB.last with
  | none=>({m with cB:=w},{x with notes:=[]})
  | some L=>({m with cB:=w,reqs:=L},x)
def dC.take(m:dC)(t:cH):dC × (cD × Int):=
 if eg t=false then (m,(⟨0,[],[]⟩,1))
 else if t.aw≠m.at_+1\/m.cB.waits t.kind t.mark=true then (m,(⟨0,[],[]⟩,10))
 else if t.kind=1 then let r:=({m with at_:=t.aw}:dC).Aj t;(r.1,(r.2,0))
 else if t.kind=3 then let r:=({m with at_:=t.aw}:dC).high t;(r.1,(r.2,0))
 else ({m with at_:=t.aw,cB:=m.cB.low t.mark},(⟨t.aw,[],[]⟩,0))
def iS(L:List Rq):List Rq:=L.filter λr=>!r.done
structure fz where
 k:cQ
 m:dC
 d:dA
 n:Int
def Dz(m:dC):Bool:=decide (m.cB.state=1\/m.cB.state=2\/(m.cB.state=0/\iS m.reqs≠[]))
def mf(d:dA)(L:List Rq):dA:=(iS L).foldl (λd r=>d.add r.id r.weight) ((L.filter (·.done)).foldl (λd r=>d.del r.id) d)
def uM(L:List Rq)(id:Int):Option Rq:=if id<1 then none else L[(id-1).toNat]?
def fz.Dj(p:fz)(r:Rq):fz × (Int × Int):=
 if (p.k.mX 2 (cI p.k.g.bF+1)).2.2≠0 then ({p with k:=(p.k.mX 2 (cI p.k.g.bF+1)).1},(0,(p.k.mX 2 (cI p.k.g.bF+1)).2.2))
 else ({p with k:=(p.k.mX 2 (cI p.k.g.bF+1)).1,m:={p.m with cB:=p.m.cB.tJ (cI p.k.g.bF+1) r.id r.table r.dz}},(3,0))
def fz.vH(p:fz)(x:dA × Int):fz × (Int × Int):=match uM p.m.reqs x.2 with
 | none=>({p with d:=x.1},(0,0))
 | some r=>({p with d:=x.1}:fz).Dj r
def fz.Di(p:fz):fz × (Int × Int):=p.vH (mf p.d p.m.reqs).next
def fz.CM(p:fz):fz × (Int × Int):=
 let y:=p.k.mX 3 p.m.cB.mark
 if y.2.2≠0 then ({p with k:=y.1},(0,y.2.2)) else ({p with k:=y.1,m:={p.m with cB:=p.m.cB.shut}},(5,0))
def fz.step(p:fz):fz × (Int × Int):=
 if Dz p.m=false then (p,(0,0))
 else if p.m.cB.state=0 then p.Di
 else if p.m.cB.state=1 then ({p with m:={p.m with cB:=p.m.cB.fill (p.k.wA p.m.cB.table p.m.cB.after p.n)}},(4,0))
 else p.CM
section
variable {lo hi:Int} {A B:List PF} {d:DS}
def ng.mono{kM xe:Int}{g:cU}(h:ng lo hi g)(h1:kM<=lo)(h2:hi<=xe):ng kM xe g:=⟨by have:=h.b0;omega,by have:=h.b1;omega,h.bF,h.du⟩
def Laid.SN{g:cU}{d:DS}{f n:Int}{es:List (Φ)}(h:Laid g d f n es):ng g.base (g.base+4096) g:=by
 have hle:=h.chain.sB;rw[h.gv]at hle
 have tj:=h.fi;have hba:=h.base;refine⟨yyd _,yyd _,λs hs=>?_,λx hx=>by rw[h.du]at hx;cases hx⟩;have:=h.chain.sX.mem (x:=ez s) (vv4 hs);rw[zzn]at this
 have h1:(ez s).id=s.file:=rfl;omega
def cB1{g:cU}(hg:ng lo hi g)(h:dG lo hi A B d.R)(p:Φ)(k:Int):gk g (dh A B d) p k=(((gk g d p k).1.1,dh A B (gk g d p k).1.2),(gk g d p k).2)/\dG lo hi A B (gk g d p k).1.2.R/\ng lo hi (gk g d p k).1.1:=by
 unfold gk;split
 ·exact⟨rfl,h,hg⟩
 rw[show (dh A B d).off=d.off from rfl];cases hp:eN g d.off p with
 | error e=>exact⟨rfl,h,hg⟩
 | ok x=>
  have hx:=V' hg hp;have h1:=hg.b0;have h2:=hg.b1;obtain⟨em,hm,pN⟩:=Vt hg h;simp only;rw[em];simp only;split
  ·exact⟨rfl,hm,pN⟩
  obtain⟨ea,ha⟩:=FF hm (f:=x.file) (by omega) (by omega) (x.b.take (k.toNat % x.b.length));rw[ea];simp only;split
  ·exact⟨rfl,ha,pN⟩
  have ur:(de g d).1.1.base=g.base:=(tH g d).2.1;refine⟨rfl,ha,pN.b0,pN.b1,pN.bF,λy hy=>?_⟩;cases hy;show (de g d).1.1.base<=_/\_<(de g d).1.1.base+4096;rw[ur];exact hx
end
def cN.fg(A:List PF)(k:cN):cN:={k with d:=dh A [] k.d}
structure rP(A:List PF)(k:cN):Prop where
 w:dG 8192 12288 A [] k.d.R
 g:ng 8192 12288 k.g
def XW{A:List PF}{k:cN}(h:rP A k)(x:cD)(L:List Rq):(k.fg A).gu x L=((k.gu x L).1.fg A,(k.gu x L).2)/\rP A (k.gu x L).1:=by
 obtain⟨e,h1,h2⟩:=Hg h.g h.w (gh x);unfold cN.gu cN.fg;simp only[e];split
 ·exact⟨rfl,h1,h2⟩
 exact⟨rfl,h1,h2⟩
def cB3{A:List PF}{k:cN}(h:rP A k)(x:cD)(n:Int):(k.fg A).j_ x n=((k.j_ x n).1.fg A,(k.j_ x n).2)/\rP A (k.j_ x n).1:=by
 obtain⟨e,h1,h2⟩:=cB1 h.g h.w (gh x) n;have e1:(k.fg A).j_ x n=(λr:(cU × DS) × Int=>(({k with g:=r.1.1,d:=r.1.2}:cN),r.2)) (gk k.g (dh A [] k.d) (gh x) n):=rfl;rw[e1,e];exact⟨rfl,⟨h1,h2⟩⟩
def aRt{A:List PF}{k:cN}(h:rP A k)(x:cD):(k.fg A).fP x=((k.fP x).1.fg A,(k.fP x).2)/\rP A (k.fP x).1:=by
 unfold cN.fP;show (if ep x=false\/(k.aw<x.aw/\fW k.ts.length k.reqs x=none) then (k.fg A,(1:Int)) else if k.d.off=true then (k.fg A,8) else _)=_/\_;split
 ·exact⟨rfl,h⟩
 split
 ·exact⟨rfl,h⟩
 show (match k.plan with
  | []=>if k.aw<x.aw then (k.fg A).gu x _ else (k.fg A,(0:Int))
  | f::r=>_)=_/\_
 simp only;cases hp:k.plan with
 | nil=>
  simp only;split
  ·exact XW h x _
  exact⟨rfl,h⟩
 | cons f r=>
  simp only;have h':rP A {k with plan:=r}:=⟨h.w,h.g⟩;obtain⟨w1,w2⟩:=XW h' x ((fW k.ts.length k.reqs x).getD []);obtain⟨t1,t2⟩:=cB3 h' x f.keep;have w1:cN.gu {k.fg A with plan:=r} x ((fW k.ts.length k.reqs x).getD [])=_:=w1;have t1:cN.j_ {k.fg A with plan:=r} x f.keep=_:=t1;simp only[show (cN.fg A k).aw=k.aw from rfl];split
  ·split
   ·exact⟨yyu (λr:cN × Int=>(r.1,if r.2=0 then (9:Int) else r.2)) w1,w2⟩
   exact⟨rfl,h'⟩
  split
  ·exact⟨yyu (λr:cN × Int=>(r.1,if r.2=0 then (9:Int) else r.2)) t1,t2⟩
  exact⟨rfl,h'⟩
def b_e{A:List PF}{d:DS}(h:dG 8192 12288 A [] d.R)(cM size:Int):kC (dh A [] d) cM size=(dh A [] (kC d cM size).1,(kC d cM size).2.map (cN.fg A)):=by
 unfold kC;split
 ·rfl
 obtain⟨e,_⟩:=Bi (base:=8192) (size:=size) h;rw[e];cases eV d 8192 size with
 | mk d' r=>
  cases r with
  | error e=>rfl
  | ok g=>
   simp only;split
   ·rfl
   split
   ·rfl
   rfl
def cQ.fg(B:List PF)(k:cQ):cQ:={k with d:=dh [] B k.d}
structure tQ(B:List PF)(k:cQ):Prop where
 w:dG 0 8192 [] B k.d.R
 g:ng 0 8192 k.g
def awh{B:List PF}{k:cQ}(h:tQ B k)(t:cH):(k.fg B).gz t=((k.gz t).1.fg B,(k.gz t).2)/\tQ B (k.gz t).1:=by
 obtain⟨e,h1,h2⟩:=Hg h.g h.w (gn {t with aw:=cI k.g.bF+1});unfold cQ.gz cQ.fg;simp only;rw[show (dh [] B k.d).off=k.d.off from rfl];split
 ·exact⟨rfl,h⟩
 split
 ·exact⟨rfl,h⟩
 simp only[e];split
 ·exact⟨rfl,h1,h2⟩
 exact⟨rfl,h1,h2⟩
def a_a{lo hi:Int}{A B:List PF}{d:DS}(h:dG lo hi A B d.R){f:Int}(h1:lo<=f)(h2:f<hi)(b:Φ):dG lo hi A B (jK d f b).1.R:=by
 unfold jK;have hc:dG lo hi A B (if 0<=gf d.R f then d.cut f 0 else (d,0)).1.R:=by
  split
  ·exact (FG h h1 h2 0).2
  exact h
 generalize (if 0<=gf d.R f then d.cut f 0 else (d,0))=c at *
 simp only;split
 ·exact hc
 have ha:=(FF hc h1 h2 b).2;split
 ·exact ha
 exact (Jo ha h1 h2).2
def a_d{B:List PF}{k:cQ}(h:tQ B k):(k.fg B).h_=(k.h_.1.fg B,k.h_.2)/\tQ B k.h_.1:=by
 have ho:0<=jq k/\jq k<8192:=by unfold jq;split<;>omega
 have e:=R6 h.w ho.1 ho.2 (cZ (jf (cI k.g.bF) k.ts));have hr:=a_a h.w ho.1 ho.2 (cZ (jf (cI k.g.bF) k.ts));unfold cQ.h_;rw[show jq (k.fg B)=jq k from rfl,show (k.fg B).g=k.g from rfl,show (k.fg B).ts=k.ts from rfl,show (k.fg B).d=dh [] B k.d from rfl];simp only[e];split
 ·exact⟨rfl,hr,h.g⟩
 exact⟨rfl,hr,h.g⟩
def cCi{B:List PF}{k:cQ}(h:tQ B k)(aw:Int):(k.fg B).gY aw=((k.gY aw).1.fg B,(k.gY aw).2)/\tQ B (k.gY aw).1:=by
 unfold cQ.gY;rw[show (k.fg B).g=k.g from rfl,show (k.fg B).d.off=k.d.off from rfl,show (k.fg B).image=k.image from rfl];split
 ·exact⟨rfl,h⟩
 split
 ·exact⟨rfl,h⟩
 have hr:∃r:cQ × Int,(if k.image<aw then k.h_ else (k,0))=r/\(if k.image<aw then (k.fg B).h_ else (k.fg B,0))=(r.1.fg B,r.2)/\tQ B r.1:=by
  refine⟨_,rfl,?_⟩;split
  ·exact a_d h
  exact⟨rfl,h⟩
 obtain⟨r,e1,e2,h1⟩:=hr;rw[e1,e2];simp only;split
 ·exact⟨rfl,h1⟩
 obtain⟨e,h2,h3⟩:=Xt h1.g h1.w aw;rw[show (r.1.fg B).g=r.1.g from rfl,show (r.1.fg B).d=dh [] B r.1.d from rfl,e];exact⟨rfl,h2,h3⟩
def bWd{lo hi:Int}{A B M:List PF}(h:dG lo hi A B M){n:Nat}{f:Int}(h1:lo<=f)(h2:f<hi):iG (A++M++B) n f=iG M n f:=by
 unfold iG;rw[h.get h1 h2]
def b_g{I B:List PF}{d0:DS}(h:dG 16 4112 I [] d0.R)(hI:∀x∈I,0<=x.id)(hB:∀x∈B,8192<=x.id)(cM size:Int):
  lk (dh I B d0) cM size=(dh [] B (lk (dh I [] d0) cM size).1,(lk (dh I [] d0) cM size).2.map (cQ.fg B)):=by
 have hj:∀d:DS,dh I B d=dh [] B (dh I [] d):=λd=>by unfold dh;simp
 unfold lk;split
 ·rw[hj];rfl
 have h':dG 16 (16+4096) I B d0.R:=⟨h.a,h.m,λx hx=>by have:=hB x hx;omega⟩;obtain⟨e1,w1⟩:=Bi (base:=16) (size:=size) h';obtain⟨e2,w2⟩:=Bi (base:=16) (size:=size) (B:=[]) (A:=I) (d:=d0) h;rw[e1,e2];cases hg:eV d0 16 size with
 | mk d' r=>
  rw[hg]at w1 w2
  cases r with
  | error e=>simp only;rw[hj];rfl
  | ok g=>
   have hw:dG 0 8192 [] B (I++d'.R):=⟨λx hx=>by (cases hx),λx hx=>by
    rcases zz1.1 hx with hx|hx
    ·have:=hI x hx;have:=h.a x hx;omega
    have:=w2.m x hx;omega,hB⟩
   have hl:lh (dh I B d').R cM.toNat=lh (dh I [] d').R cM.toNat:=by
    have hg:∀f:Int,0<=f->f<8192->iG (I++d'.R++B) cM.toNat f=iG (I++d'.R++[]) cM.toNat f:=λf h0 h1=>by
     have:=bWd hw (n:=cM.toNat) h0 h1;rw[zzq]at this
     rw[this,zzx]
    show lh (I++d'.R++B) cM.toNat=lh (I++d'.R++[]) cM.toNat;unfold lh gq;rw[hg 0 (by decide) (by decide),hg 1 (by decide) (by decide)]
   simp only;rw[hl];cases oB cM.toNat (lh (dh I [] d').R cM.toNat).2.1 (cR g.bF) (eZ g.bF) (lh (dh I [] d').R cM.toNat).2.2 with
   | none=>simp only;rw[hj];rfl
   | some ts=>
    simp only;split
    ·rw[hj];rfl
    rw[hj];rfl
structure mn(n:Nat)(all:List cH):Prop where
 ok:sS n all
 len:all.length<=1000
 row:∀j,∀C∈fF n (all.take j),C.length<=1000
def mn.nil(n:Nat):mn n []:=⟨(nT.nil n).ok,by decide,λj=>by rw[List.take_nil];exact (nT.nil n).row⟩
def sS.take{n:Nat}{all:List cH}(h:sS n all)(j:Nat):sS n (all.take j):=
 ⟨λt ht=>h.may t (yyo ht),λi hi=>by rw[uuj];exact h.aw i _,λt ht=>h.ch t (yyo ht)⟩
def mn.take{n:Nat}{all:List cH}(h:mn n all)(j:Nat):mn n (all.take j):=
 ⟨h.ok.take j,by rw[zzf];have:=h.len;omega,λi=>by rw[ttk];exact h.row _⟩
def mn.xE{n:Nat}{all:List cH}(h:mn n all)(n1:1<=n)(n8:n<=8):x' n all:=λj hj=>by
 have ht:=h.take j;have hr:=Ky ht.ok.may ht.ok.ch;have hl:=h.len;exact sD.2 ⟨⟨by omega,by omega,by rw[pZ];exact n1,by rw[pZ];exact n8⟩,λC hC=>⟨(hr C hC).sorted,(hr C hC).rows,h.row j C hC⟩⟩
def mn.m_{n:Nat}{all:List cH}(h:mn n all):(∀C∈fF n all,nm C)/\∀C∈fF n all,C.length<=1000:=
 ⟨Ky h.ok.may h.ok.ch,λC hC=>h.row all.length C (by rw[zz0];exact hC)⟩
def mn.app{n:Nat}{all:List cH}(h:mn n all){t:cH}(hm:eg t=true)(hl:t.aw=(all.length:Int)+1)(hc:∀c∈t.changes,hY n c=true)(h1:all.length+1<=1000)(hf:mr (fF n all) t.changes=true):mn n (all++[t]):=by
 refine⟨⟨λx hx=>?_,λi hi=>?_,λx hx=>?_⟩,by rw[zza];exact h1,λj C hC=>?_⟩
 ·rcases zz1.1 hx with hx|hx
  ·exact h.ok.may x hx
  rw[zz3.1 hx];exact hm
 ·rw[List.getElem_append];split
  ·exact h.ok.aw i _
  rename_i hn;rw[zza,zz7]at hi
  simp only[List.getElem_singleton];rw[hl];omega
 ·rcases zz1.1 hx with hx|hx
  ·exact h.ok.ch x hx
  rw[zz3.1 hx];exact hc
 rcases xxx all.length j with hj|hj
 ·rw[zz2 (by rw[zza,zz7];omega),<- Gq hc]at hC
  unfold mr at hf;rw[zz9,zz6,zz6]at hf
  exact zzm (hf.2 C hC)
 rw[xxa hj]at hC
 exact h.row j C hC
abbrev oJ(t:cH)(n:Nat):cH:=⟨(n:Int)+1,t.kind,t.changes,t.signals,t.mark⟩
def bYd{t:cH}(h:eg t=true){n:Nat}(hn:n<=1000):eg (oJ t n)=true:=by
 obtain⟨_,h2⟩:=vI.1 h;exact vI.2 ⟨⟨by show 1<=(n:Int)+1;omega,by show (n:Int)+1<=_;omega⟩,h2⟩
def iU.add{n:Nat}{k:cQ}{all:List cH}{tr:Nat}{I:List PF}{d0:DS}{f:Int}{lo m:Nat}(h:iU n k all tr I d0 f lo m)(ho:k.d.off=false)(ha:0<=k.d.arm)(hlen:all.length<=1000){t:cH}
  (hm:eg (oJ t all.length)=true) (hc:∀c∈t.changes,hY n c=true) (hf:mr (fF n all) t.changes=true) :
  (∃k' d1,k.gz t=(k',((all.length:Int)+1,0))/\iU n k' (all++[oJ t all.length]) tr I d1 f lo m/\k'.d.off=false/\0<=k'.d.arm/\(k.d.arm=0->k'.d.arm=0)/\k'.d.ops<=k.d.ops+2) \/
  (∃k' d1,k.gz t=(k',(0,8))/\k'.d.off=true/\k.d.arm≠0/\k'.d.ops<=k.d.ops+2/\k'.ts=k.ts/\sR n k'.d all (some (oJ t all.length)) tr I I d1 k.g f lo m k.dV):=by
 have mv:=h.head ho;have hd:=h.p8;have iu:d0.off=false:=by rw[hd]at ho;exact ho
 have sh:0<=d0.arm:=by rw[hd]at ha;exact ha
 have hl:=h.log.inv iu;have xj:=h.uJ;have mw:=h.kL.le;have CJ:=h.file;have hb:=h.base;have gV:=h.ts;have pK:=a_8 hm;have tf:=P1 hl (p:=gn (oJ t all.length)) (by omega) (by rw[zzn,zzr];omega) (by rw[zzn,zzr,hb];omega) sh;obtain⟨ew,hw,_⟩:=Hg (A:=I) (B:=[]) (d:=d0) (h.log.HX hb) h.cB (gn (oJ t all.length));have lB:k.gz t=(let r:=fj k.g k.d (gn (oJ t all.length));if r.2.2=0 then ({k with g:=r.1.1,d:=r.1.2,ts:=fV k.ts t.changes},((all.length:Int)+1,0)) else ({k with g:=r.1.1,d:=r.1.2},(0,r.2.2))):=by
  unfold cQ.gz;rw[zzb (by simp[ho]),zzb (by rw[gV,hf,mv];simp;omega),mv]
 rw[lB,hd,ew];have vp:(all.drop lo).map gn++[gn (oJ t all.length)]=((all++[oJ t all.length]).drop lo).map gn:=by
  rw[xxb (by omega),zzs];rfl
 rcases tf with ⟨g',d',e,hv,dS,uq,ta,ur,Uf,mT,_,_⟩|⟨d',e,hT,IU,dS,ta,tm⟩
 ·left;rw[e]at hw ⊢
  simp only at hw ⊢;rw[zzc trivial];rw[vp]at hv
  refine⟨_,d',rfl,⟨rfl,hw,hv.laid,ur.trans hb,h.kL.mono _,h.image,xj,h.sC,?_,CJ⟩,hv.off,uq,ta,by show d'.ops<=d0.ops+2;omega⟩;show fV k.ts t.changes=_;rw[gV,Gq (t:=oJ t all.length) hc]
 right;rw[e]at hw ⊢
 simp only at hw ⊢;rw[zzb (by decide)];refine⟨_,d',rfl,IU,ta,by show d'.ops<=d0.ops+2;omega,rfl,rfl,hw,.inr ⟨_,true,hT,λ_=>⟨_,rfl,rfl⟩⟩,hb,by have:=h.log.base;omega,CJ,λee=>?_,h.kL,.inl rfl,xj,h.sC⟩;rcases gw.Ao h.log ee with h1|⟨h1,_⟩
 ·exact .inl (by omega)
 exact .inr (tm ee h1)
def iU.DH{n:Nat}{k:cQ}{all:List cH}{tr:Nat}{I:List PF}{d0:DS}{f:Int}{lo m:Nat}(h:iU n k all tr I d0 f lo m){B:List PF}(hB:∀x∈B,8192<=x.id):tQ B k:=by
 refine⟨⟨λx hx=>(by cases hx),λx hx=>?_,hB⟩,(h.log.HX h.base).mono (by decide) (by decide)⟩;rw[h.p8]at hx
 have hx:x∈I++d0.R++[]:=hx;rw[zzx]at hx
 rcases zz1.1 hx with hx|hx
 ·rcases h.kL.ids x hx with e|e<;>omega
 have:=h.cB.m x hx;omega
structure KV(n tr N:Nat)(AL:List cH)(k:cQ):Prop where
 lZ:mn n AL
 live:∃I d0 f lo m,iU n k AL tr I d0 f lo m
 off:k.d.off=false
 arm:0<=k.d.arm
 ok:ju k N
structure KD(n tr N:Nat)(AL:List cH)(t:Option cH)(d:DS):Prop where
 lZ:mn n (AL++t.toList)
 dead:∃I I' d0 g f lo m nw,sR n d AL t tr I I' d0 g f lo m nw
 ok:d.Ok N
def KV.mono{n tr N M:Nat}{AL:List cH}{k:cQ}(h:KV n tr N AL k)(hM:N<=M):KV n tr M AL k:=⟨h.lZ,h.live,h.off,h.arm,h.ok.mono hM⟩
def KD.mono{n tr N M:Nat}{AL:List cH}{t:Option cH}{d:DS}(h:KD n tr N AL t d)(hM:N<=M):KD n tr M AL t d:=⟨h.lZ,h.dead,h.ok.mono hM⟩
def KV.dead{n tr N:Nat}{AL:List cH}{k:cQ}(h:KV n tr N AL k):KD n tr N AL none k.d:=by
 obtain⟨I,d0,f,lo,m,hL⟩:=h.live;exact⟨by rw[show AL++(none:Option cH).toList=AL from zzx AL];exact h.lZ,⟨I,I,d0,k.g,f,lo,m,k.dV,hL.dead hL.Ao none⟩,h.ok.d⟩
def KV.DH{n tr N:Nat}{AL:List cH}{k:cQ}(h:KV n tr N AL k){B:List PF}(hB:∀x∈B,8192<=x.id):tQ B k:=by
 obtain⟨I,d0,f,lo,m,hL⟩:=h.live;exact hL.DH hB
def KV.head{n tr N:Nat}{AL:List cH}{k:cQ}(h:KV n tr N AL k):cI k.g.bF=AL.length:=by
 obtain⟨I,d0,f,lo,m,hL⟩:=h.live;exact hL.head h.off
def KV.ts{n tr N:Nat}{AL:List cH}{k:cQ}(h:KV n tr N AL k):k.ts=fF n AL:=by
 obtain⟨I,d0,f,lo,m,hL⟩:=h.live;exact hL.ts
def KV.read{n tr N:Nat}{AL:List cH}{k:cQ}(h:KV n tr N AL k){j:Nat}(h1:tr<=j)(h2:j<AL.length):k.gP ((j:Int)+1)= .ok AL[j]:=by
 obtain⟨I,d0,f,lo,m,hL⟩:=h.live;have:=hL.sC;exact hL.read h.lZ.ok.may (by omega) h2
def KV.add{n tr N:Nat}{AL:List cH}{k:cQ}(h:KV n tr N AL k)(hl:AL.length+1<=1000){t:cH}(hm:eg t=true)(hc:∀c∈t.changes,hY n c=true):
  (∃k',k.gz t=(k',((AL.length:Int)+1,0))/\KV n tr (N+2000) (AL++[oJ t AL.length]) k'/\(k.d.arm=0->k'.d.arm=0)/\k'.d.ops<=k.d.ops+2) \/
  (∃k',k.gz t=(k',(0,8))/\k'.d.off=true/\KD n tr (N+2000) AL (some (oJ t AL.length)) k'.d/\k.d.arm≠0/\k'.d.ops<=k.d.ops+2) \/
  (k.gz t=(k,(0,7))/\mr (fF n AL) t.changes=false):=by
 obtain⟨I,d0,f,lo,m,hL⟩:=h.live;have fC:=bYd hm (n:=AL.length) (by omega);cases hf:mr (fF n AL) t.changes with
 | false=>
  refine .inr (.inr ⟨?_,rfl⟩);unfold cQ.gz;rw[zzb (by rw[h.off];decide),zzc (.inl (by rw[hL.ts];exact hf))]
 | true=>
  have hT:=h.lZ.app fC rfl hc hl hf;have cG:=h.ok.add hm;rcases hL.add h.off h.arm (by omega) fC hc hf with ⟨k',d1,e,l1,o1,a1,a0,p1⟩|⟨k',d1,e,o1,a0,p1,t1,hD⟩
  ·rw[e]at cG
   exact .inl ⟨k',e,⟨hT,⟨I,d1,f,lo,m,l1⟩,o1,a1,cG⟩,a0,p1⟩
  rw[e]at cG
  exact .inr (.inl ⟨k',e,o1,⟨hT,⟨I,I,d1,k.g,f,lo,m,k.dV,hD⟩,cG.d⟩,a0,p1⟩)
def KV.trim{n tr N:Nat}{AL:List cH}{k:cQ}(h:KV n tr N AL k)(n1:1<=n)(n8:n<=8){aw:Nat}(hl:aw<=AL.length):
  (∃k',k.gY aw=(k',0)/\KV n (max tr aw) (N+400000) AL k'/\(k.d.arm=0->k'.d.arm=0)/\k'.d.ops<=k.d.ops+(AL.length+5)) \/
  (∃k' e,k.gY aw=(k',e)/\e≠0/\k'.d.off=true/\KD n (max tr aw) (N+400000) AL none k'.d/\k.d.arm≠0/\k'.d.ops<=k.d.ops+(AL.length+5)):=by
 obtain⟨I,d0,f,lo,m,hL⟩:=h.live;have cG:=h.ok.trim (aw:Int);rcases hL.trim h.off h.arm h.lZ.len (h.lZ.xE n1 n8) hl with ⟨k',I',d1,f',kM,m',e,hm',hL',o1,a1,a2,p1,z1⟩|⟨k',e',I1,I',d1,g1,f',kM,m',nw,e,he,o1,a0,p1,hD⟩
 ·rw[e]at cG
  exact .inl ⟨k',e,⟨h.lZ,⟨I',d1,f',kM,m',hL'⟩,o1,a1,cG⟩,λha=>by omega,p1⟩
 rw[e]at cG
 exact .inr ⟨k',e',e,he,o1,⟨by rw[show AL++(none:Option cH).toList=AL from zzx AL];exact h.lZ,⟨I1,I',d1,g1,f',kM,m',nw,hD⟩,cG.d⟩,a0,p1⟩
def KD.open{n tr N:Nat}{AL:List cH}{t:Option cH}{d:DS}(h:KD n tr N AL t d)(n1:1<=n)(n8:n<=8)(keep:Ω){size:Int}(s0:64<=size)(s1:size<=65536){B:List PF}(hB:∀x∈B,8192<=x.id):
  ∃k' eM,lk (dh [] B (d.eD keep)) n size=(dh [] B k'.d,.ok (k'.fg B))/\KV n tr (N+200000) eM k'/\k'.d.arm=0/\k'.d.ops<=d.ops+1/\(eM=AL\/∃x,t=some x/\eM=AL++[x]) /\
   (∀d' g,eV (dh [] B (d.eD keep)) 16 size=(d',.ok g)->(cR g.bF).length<=1001):=by
 obtain⟨I,I',d0,g,f,lo,m,nw,hD⟩:=h.dead;have pR:∀l,l=[]\/(∃x,t=some x/\l=[x])->mn n (AL++l):=λl hl=>by
  rcases hl with rfl|⟨x,rfl,rfl⟩
  ·rw[zzx];have:=h.lZ.take AL.length
   rwa [wwp]at this
  exact h.lZ
 have Ib:=pR [] (.inl rfl);rw[zzx]at Ib
 obtain⟨k',nV,I2,d2,f2,m2,e,hL,o1,a1,p1,ha⟩:=hD.open n1 n8 keep (λl hl=>⟨(pR l hl).ok,(pR l hl).xE n1 n8⟩) Ib.len s0 s1;have hT:mn n nV:=by
  rcases ha with rfl|⟨x,hx,rfl⟩
  ·exact Ib
  exact pR [x] (.inr ⟨x,hx,rfl⟩)
 have l6:=h.ok.eD keep;have hg:=V0 e;have pL:∃J d3,d.eD keep=dh J [] d3/\dG 16 4112 J [] d3.R/\∀x∈J,0<=x.id:=by
  refine⟨eT I' keep,d0.eD (keep.drop I'.length),by rw[hD.p8,UD],hD.cB.eD keep _ [],λx hx=>?_⟩;obtain⟨y,hy,ey⟩:=Dp hx;have:=h.ok.ids y (by rw[hD.p8];show y∈I'++d0.R++[];simp[hy]);omega
 obtain⟨J,d3,e3,w3,j3⟩:=pL;have Ic:=b_g w3 j3 hB (n:Int) size;rw[<- e3,e]at Ic
 have hj:∀d:DS,dh J B d=dh [] B (dh J [] d):=λd=>by unfold dh;simp
 rw[hj,<- e3]at Ic
 refine⟨k',nV,Ic,⟨hT,⟨I2,d2,f2,lo,m2,hL⟩,o1,by rw[a1];exact yyd _,?_⟩,a1,p1,ha,?_⟩
 ·have Fe:=JV l6 (by have:=l6.DA;omega) hg;have E6:=FW (base:=16) (size:=size) l6;rw[hg]at E6
  exact⟨Fe.mono (by omega),E6.mono (by omega),by rw[hL.ts];exact hT.m_.1,by rw[hL.ts];exact hT.m_.2,by rw[hL.ts,pZ];exact n1,by rw[hL.ts,pZ];exact n8⟩
 intro d' g' xc;have xC:dG 16 (16+4096) J B d3.R:=⟨w3.a,w3.m,λx hx=>by have:=hB x hx;omega⟩;obtain⟨e4,_⟩:=Bi (base:=16) (size:=size) xC;obtain⟨e5,_⟩:=Bi (base:=16) (size:=size) w3;rw[e3,<- hj]at xc
 rw[e3,e5]at hg
 rw[e4]at xc
 have h1:=yyu Prod.snd hg;have h2:=yyu Prod.snd xc;simp only at h1 h2;rw[h1]at h2
 cases h2;rw[hL.log.gv,zzn,zzr];have:=hT.len;omega
def gw.wd{g:cU}{d d':DS}{f n:Int}{es:List (Φ)}(h:gw g d f n es)(hR:d'.R=d.R)(ho:d'.off=false):gw g d' f n es:=(h.laid.sM hR).inv ho
def cw4(d:DS)(f:Int)(p:Nat):∃i,(d.remove f).1.ops=d.ops+i/\({d with ops:=p}:DS).remove f=({(d.remove f).1 with ops:=p+i},(d.remove f).2):=by
 unfold DS.remove;rw[show ({d with ops:=p}:DS).find f=d.find f from rfl,show ({d with ops:=p}:DS).cE.off=d.cE.off from rfl];split
 ·exact⟨0,rfl,rfl⟩
 split
 ·exact⟨1,rfl,rfl⟩
 exact⟨1,rfl,rfl⟩
def aR7(d:DS)(f n:Int)(p:Nat):∃i,(d.cut f n).1.ops=d.ops+i/\({d with ops:=p}:DS).cut f n=({(d.cut f n).1 with ops:=p+i},(d.cut f n).2):=by
 unfold DS.cut;rw[show ({d with ops:=p}:DS).find f=d.find f from rfl,show ({d with ops:=p}:DS).cE.off=d.cE.off from rfl];split
 ·exact⟨0,rfl,rfl⟩
 split
 ·exact⟨0,rfl,rfl⟩
 split
 ·exact⟨1,rfl,rfl⟩
 exact⟨1,rfl,rfl⟩
def Vr(g:cU)(d:DS)(p:Nat):∃i,(de g d).1.2.ops=d.ops+i/\de g {d with ops:=p}=(((de g d).1.1,{(de g d).1.2 with ops:=p+i}),(de g d).2):=by
 unfold de;cases g.du with
 | none=>exact⟨0,rfl,rfl⟩
 | some x=>
  simp only;split
  ·obtain⟨i,e1,e2⟩:=cw4 d x.file p;exact⟨i,e1,by rw[e2]⟩
  obtain⟨i,e1,e2⟩:=aR7 d x.file x.oe p;exact⟨i,e1,by rw[e2]⟩
def BU.wo{g:cU}{d:DS}{f n:Int}{es:List (Φ)}{q:Φ}(h:BU g d f n es q)(a:Int)(p:Nat):BU g {d with arm:=a,ops:=p} f n es q:=by
 refine⟨h.off,h.du.sM rfl,λb hb tg=>?_,?_⟩
 ·obtain⟨g2,d2,e,l2,a1,a2,a3,a4⟩:=h.m2 b hb tg;obtain⟨i,e1,e2⟩:=Vr g {d with arm:=b} p;rw[e]at e1 e2
  have e1:d2.ops=d.ops+i:=e1;exact⟨g2,{d2 with ops:=p+i},e2,l2.wd rfl l2.off,a1,a2,by show p+i=p+1;omega,a4⟩
 obtain⟨d2,e,r1,r2,r3⟩:=h.m1;obtain⟨i,e1,e2⟩:=Vr g {d with arm:=1} p;rw[e]at e1 e2
 have e1:d2.ops=d.ops+i:=e1;exact⟨{d2 with ops:=p+i},e2,r1,r2,by show p+i=p+1;omega⟩
def St.wo{g:cU}{d:DS}{es:List (Φ)}{m:Option (Φ)}(h:St g d es m)(a:Int)(p:Nat):St g {d with arm:=a,ops:=p} es m:=by
 rcases h with ⟨h1,h2⟩|⟨⟨q,h1⟩,h2⟩|⟨h1,q,w,h2,h3⟩
 ·exact .inl ⟨h1.wd rfl h1.off,h2⟩
 ·exact .inr (.inl ⟨⟨q,h1.wo a p⟩,h2⟩)
 exact .inr (.inr ⟨h1,q,w,h2.sM rfl,h3⟩)
def iT.wd{n:Nat}{k:cN}{xs:List cD}{m:Option cD}(h:iT n k xs m){d':DS}(hR:d'.R=k.d.R)(ho:d'.off=k.d.off):iT n {k with d:=d'} xs m:=by
 have e:d'={k.d with arm:=d'.arm,ops:=d'.ops}:=by
  cases d';simp only at hR ho;subst hR ho;rfl
 rw[e];exact⟨h.st.wo _ _,h.may,h.run,h.len,h.KN⟩
def iU.wd{n:Nat}{k:cQ}{all:List cH}{tr:Nat}{I:List PF}{d0:DS}{f:Int}{lo m:Nat}(h:iU n k all tr I d0 f lo m){d':DS}(hR:d'.R=k.d.R):iU n {k with d:=d'} all tr I {d' with R:=d0.R} f lo m:=by
 have e:d'.R=I++d0.R++[]:=by rw[hR,h.p8];rfl
 refine⟨?_,h.cB,h.log.sM rfl,h.base,h.kL,h.image,h.uJ,h.sC,h.ts,h.file⟩;cases d';simp only at e;subst e;rfl
def sR.wd{n:Nat}{d:DS}{all:List cH}{t:Option cH}{tr:Nat}{I I':List PF}{d0:DS}{g:cU}{f:Int}{lo m:Nat}{nw:Int}(h:sR n d all t tr I I' d0 g f lo m nw){d':DS}(hR:d'.R=d.R):sR n d' all t tr I I' {d' with R:=d0.R} g f lo m nw:=by
 have e:d'.R=I'++d0.R++[]:=by rw[hR,h.p8];rfl
 refine⟨?_,h.cB,?_,h.base,h.f16,h.file,h.empty,h.kL,h.xE,h.uJ,h.sC⟩
 ·cases d';simp only at e;subst e;rfl
 rcases h.log with hl|⟨q,w,hT,hw⟩
 ·exact .inl (hl.sM rfl)
 exact .inr ⟨q,w,hT.sM rfl,hw⟩
def DS.Ok.wd{d d':DS}{N:Nat}(h:d.Ok N)(hR:d'.R=d.R)(a0:0<=d'.arm)(a1:d'.arm<=9223372036854775807):d'.Ok N:=⟨by rw[hR];exact h.sorted,by rw[hR];exact h.ids,by rw[hR];exact h.safe,by rw[hR];exact h.len,a0,a1⟩
def KV.wd{n tr N:Nat}{AL:List cH}{k:cQ}(h:KV n tr N AL k){d':DS}(hR:d'.R=k.d.R)(ho:d'.off=false)(a0:0<=d'.arm)(a1:d'.arm<=9223372036854775807):KV n tr N AL {k with d:=d'}:=by
 obtain⟨I,d0,f,lo,m,hL⟩:=h.live;exact⟨h.lZ,⟨I,_,f,lo,m,hL.wd hR⟩,ho,a0,⟨h.ok.g,h.ok.d.wd hR a0 a1,h.ok.rows,h.ok.len,h.ok.n1,h.ok.n8⟩⟩
def KD.wd{n tr N:Nat}{AL:List cH}{t:Option cH}{d d':DS}(h:KD n tr N AL t d)(hR:d'.R=d.R)(a0:0<=d'.arm)(a1:d'.arm<=9223372036854775807):KD n tr N AL t d':=by
 obtain⟨I,I',d0,g,f,lo,m,nw,hD⟩:=h.dead;exact⟨h.lZ,⟨I,I',_,g,f,lo,m,nw,hD.wd hR⟩,h.ok.wd hR a0 a1⟩
def Ds:∀(A B:List il) (L:List Rq),fT L (A++B)=(fT L A).bind λL'=>fT L' B
 | [],B,L=>rfl
 | n::A,B,L=>by
  rw[zzu];simp only[fT];cases oz L n with
  | none=>rfl
  | some L'=>exact Ds A B L'
def bZi{A B:List il}{L R:List Rq}(h:fT L (A++B)=some R):∃L',fT L A=some L'/\fT L' B=some R:=by
 rw[Ds]at h
 cases hA:fT L A with
 | none=>rw[hA]at h;cases h
 | some L'=>rw[hA]at h;exact⟨L',rfl,h⟩
structure Gv(n:Nat)(k k':cN)(xs:List cD)(x:cD)(L:List Rq)(e:Int):Prop where
 ops:k'.d.ops<=k.d.ops+3
 plan:∀f∈k'.plan,f∈k.plan
 pl:k'.plan.length<=k.plan.length
 arm:k.d.arm=0->k'.d.arm=0
 res:(e=0/\k'.d.off=false/\(∃c_,iT n k' c_ none/\c_.length<=xs.length+1)/\((k.aw<x.aw/\k'.tr=((fw k.ts x.ops).1,L,x.aw))\/(¬k.aw<x.aw/\k'.tr=k.tr))) \/
  (e=9/\k'.d.off=false/\(∃c_,iT n k' c_ none/\c_.length<=xs.length+1)/\((k.aw<x.aw/\k'.tr=((fw k.ts x.ops).1,L,x.aw))\/k'.tr=k.tr)) \/
  (e=8/\k'.d.off=true/\k.d.arm≠0/\(∃m',iT n k' xs m'/\∀y,m'=some y->y=x/\k.aw<x.aw)/\k'.tr=k.tr)
def aRq{n:Nat}{k:cN}{xs:List cD}(h:iT n k xs none)(ha:0<=k.d.arm)(ho:k.d.off=false)(hl:xs.length<=900)(dZ:∀f∈k.plan,iZ f=true){x:cD}{L:List Rq}(hm:ep x=true)(hf:k.aw<x.aw->fW n k.reqs x=some L):
  Gv n k (k.fP x).1 xs x L (k.fP x).2:=by
 have h1:¬(ep x=false\/(k.aw<x.aw/\fW k.ts.length k.reqs x=none)):=by
  rintro (h1|⟨h1,h2⟩)
  ·rw[hm]at h1;cases h1
  rw[h.len,hf h1]at h2;cases h2
 have hw:∀k0:cN,iT n k0 xs none->k0.d=k.d->k0.reqs=k.reqs->k0.aw=k.aw->k0.ts=k.ts->k.aw<x.aw->∀b:Int,(b=0\/b=9)->(∀f∈k0.plan,f∈k.plan)->k0.plan.length<=k.plan.length->Gv n k (k0.gu x L).1 xs x L (if (k0.gu x L).2=0 then b else (k0.gu x L).2):=by
  intro k0 h0 e1 e2 e3 e4 dd b hb nH pQ;rcases cLd h0 (by rw[e1];exact ha) (by rw[e1];exact ho) hl (L:=L) (by rw[e2];exact hf dd) (by rw[e3];exact dd) with ⟨w1,w2,w3,w4,w5,w6,w7⟩|⟨w1,w2,w3,w4,w5,w6,w7⟩
  ·rw[w1,zzc rfl];refine⟨by rw[e1]at w7;exact w7,by rw[w4];exact nH,by rw[w4];exact pQ,λa=>w6 (by rw[e1];exact a),?_⟩;rcases hb with rfl|rfl
   ·exact .inl ⟨rfl,w5,⟨_,w2,by rw[zza];exact zzi _⟩,.inl ⟨dd,by rw[w3,e4]⟩⟩
   exact .inr (.inl ⟨rfl,w5,⟨_,w2,by rw[zza];exact zzi _⟩,.inl ⟨dd,by rw[w3,e4]⟩⟩)
  rw[w1,zzb (by decide)];have A4:k0.tr=k.tr:=by unfold cN.tr;rw[e2,e3,e4]
  exact⟨by rw[e1]at w7;exact w7,by rw[w4];exact nH,by rw[w4];exact pQ,λa=>by rw[e1]at w6;exact absurd a w6,.inr (.inr ⟨rfl,w5,by rw[e1]at w6;exact w6,⟨_,w2,λy hy=>by cases hy;exact⟨rfl,dd⟩⟩,w3.trans A4⟩)⟩
 unfold cN.fP;rw[zzb h1,zzb (by rw[ho];decide)];simp only;cases hp:k.plan with
 | nil=>
  simp only;by_cases dd:k.aw<x.aw
  ·rw[zzc dd,h.len,hf dd];have:=hw k h rfl rfl rfl rfl dd 0 (.inl rfl) (λf hf=>hf) (zzi _);have e:(if (k.gu x L).2=0 then (0:Int) else (k.gu x L).2)=(k.gu x L).2:=by split<;>omega
   rw[e]at this
   exact this
  rw[zzb dd];exact⟨Nat.le_add_right _ _,λf hf=>hf,zzi _,id,.inl ⟨rfl,ho,⟨xs,h,Nat.le_succ _⟩,.inr ⟨dd,rfl⟩⟩⟩
 | cons f r=>
  simp only;have pO:iT n {k with plan:=r} xs none:=h.plan r;have rm:∀g∈r,g∈k.plan:=λg hg=>by rw[hp];exact .tail _ hg
  have hlen:r.length<=k.plan.length:=by rw[hp];simp
  have hid:Gv n k {k with plan:=r} xs x L 9:=⟨by show k.d.ops<=_;omega,rm,hlen,id,.inr (.inl ⟨rfl,ho,⟨xs,pO,by omega⟩,.inr rfl⟩)⟩;split
  ·by_cases dd:k.aw<x.aw
   ·rw[zzc dd,h.len,hf dd];exact hw {k with plan:=r} pO rfl rfl rfl rfl dd 9 (.inr rfl) rm hlen
   rw[zzb dd];exact hid
  by_cases h2:f.kind=2/\k.aw<x.aw
  ·rw[zzc h2];have xf:0<=f.keep:=by
    have:=dZ f (by rw[hp];exact .head _);unfold iZ at this;rw[zzy]at this
    omega
   obtain⟨j1,j2,j3,j4,j5⟩:=cB2 pO ha ho hl hm xf;rcases j5 with ⟨q1,q2,q3⟩|⟨q1,q2,q3⟩
   ·rw[q1,zzc rfl];exact⟨yyy j4 (by show k.d.ops+2<=k.d.ops+3;omega),by rw[j3];exact rm,by rw[j3];exact hlen,q3,.inr (.inl ⟨rfl,q2,⟨xs,j1,by omega⟩,.inr j2⟩)⟩
   rw[q1,zzb (by decide)];exact⟨yyy j4 (by show k.d.ops+2<=k.d.ops+3;omega),by rw[j3];exact rm,by rw[j3];exact hlen,λa=>absurd a q3,.inr (.inr ⟨rfl,q2,q3,⟨none,j1,λy hy=>by cases hy⟩,j2⟩)⟩
  rw[zzb h2];exact hid
def JJ:∀(n:Nat) (l:Ω),l.Nodup->(∀x∈l,1<=x/\x<=(n:Int))->l.length<=n
 | 0,l,_,h=>by
  cases l with
  | nil=>exact zzi _
  | cons x l=>have:=h x (.head _);omega
 | n+1,l,hd,h=>by
  by_cases hm:((n+1:Nat):Int)∈l
  ·have h1:=JJ n (l.erase ((n+1:Nat):Int)) (hd.erase _) λx hx=>by
    have h2:=hd.mem_erase_iff.1 hx;have:=h x h2.2;have:=h2.1;omega
   rw[List.length_erase_of_mem hm]at h1
   omega
  have:=JJ n l hd λx hx=>by
   have:=h x hx;have:x≠((n+1:Nat):Int):=λe=>hm (e▸hx);omega
  omega
def dA.Ok.len{d:dA}(h:d.Ok):d.l.length<=64:=by
 have:=JJ 64 (d.l.map Prod.fst) h.nd λx hx=>by
  obtain⟨m,hm,rfl⟩:=zzv.1 hx;have:=h.w m hm;omega
 rw[zzn]at this;exact this
def a_f:wE.Ok:=⟨by decide,by decide,by decide,by decide,λ_=>rfl,by simp,by simp⟩
def dA.Ok.add{d:dA}(h:d.Ok)(id w:Int):(d.add id w).Ok:=by
 unfold dA.add;split
 ·exact h
 rename_i hr;split
 ·exact h
 rename_i hf;have h1:=h.oI;refine⟨h.lV,by show d.at_<((d.l++[(id,w)]).length:Nat);rw[zza];simp;omega,h.FI,h.FJ,h.neg,λm hm=>?_,?_⟩
 ·rcases zz1.1 hm with hm|hm
  ·exact h.w m hm
  rw[zz3.1 hm];simp only;omega
 show ((d.l++[(id,w)]).map Prod.fst).Nodup;rw[zzs,ttb];refine⟨h.nd,by simp,λa ha b hb=>?_⟩;obtain⟨m,hm,rfl⟩:=zzv.1 ha;have hb:b=id:=by simpa using hb
 subst hb;have:=xxl.1 hf m hm;simpa using this
def dA.Ok.del{d:dA}(h:d.Ok)(id:Int):(d.del id).Ok:=by
 unfold dA.del;split
 ·exact h
 rename_i i hf;have hi:i<d.l.length:=(yyk.1 hf).1;have h0:=h.lV;have h1:=h.oI;have hl:(d.l.eraseIdx i).length=d.l.length-1:=by rw[uut,zzc hi]
 refine⟨?_,?_,?_,?_,λhn=>?_,λm hm=>h.w m (vva hm),?_⟩
 ·simp only;split<;>omega
 ·simp only[hl];split<;>omega
 ·simp only;split
  ·exact yyd _
  exact h.FI
 ·simp only;split
  ·decide
  exact h.FJ
 ·simp only at hn ⊢;split
  ·rfl
  split at hn
  ·omega
  exact h.neg hn
 simp only;exact h.nd.sublist ((List.eraseIdx_sublist _ _).map _)
def dA.Ok.pl{d:dA}(h:d.Ok)(dO:d.l≠[]):0<=d.place/\d.place<d.l.length/\d.ma∈d.l:=by
 have dZ:0<=d.place/\d.place<d.l.length:=by
  have:=h.neg;have:=h.lV;have:=h.oI;have:0<d.l.length:=xx2.2 dO;unfold dA.place;split
  ·split<;>omega
  omega
 refine⟨dZ.1,dZ.2,?_⟩;unfold dA.ma;rw[zzd (show d.place.toNat<d.l.length by omega)];exact zzg _
def dA.Ok.next{d:dA}(h:d.Ok):d.next.1.Ok:=by
 unfold dA.next;split
 ·exact h
 rename_i dO;obtain⟨h1,h2,h3⟩:=h.pl dO;have hw:=h.w _ h3;have rh:=h.FI;have vv:=h.FJ;refine⟨by simp only;omega,by simp only;omega,?_,?_,λhn=>?_,h.w,h.nd⟩
 ·simp only;split<;>omega
 ·simp only;split<;>omega
 simp only at hn;omega
def bZa{d:dA}(h:d.Ok)(dO:d.l≠[]):d.next.2=d.ma.1/\d.ma∈d.l:=by
 unfold dA.next;rw[zzb dO];exact⟨rfl,(h.pl dO).2.2⟩
def bZb(d:dA):d.next.1.l=d.l:=by
 unfold dA.next;split<;>rfl
def RV:∀(L:List Rq) {d:dA},d.Ok->(L.foldl (λd r=>d.del r.id) d).Ok
 | [],_,h=>h
 | r::L,_,h=>RV L (h.del r.id)
def PT:∀(L:List Rq) {d:dA},d.Ok->(L.foldl (λd r=>d.add r.id r.weight) d).Ok
 | [],_,h=>h
 | r::L,_,h=>PT L (h.add r.id r.weight)
def cw9{d:dA}(h:d.Ok)(L:List Rq):(mf d L).Ok:=PT _ (RV _ h)
def aW0(d:dA)(id:Int):∀m∈(d.del id).l,m∈d.l:=λm hm=>by
 unfold dA.del at hm;split at hm
 ·exact hm
 exact vva hm
def RW:∀(L:List Rq) (d:dA),∀m∈(L.foldl (λd r=>d.del r.id) d).l,m∈d.l
 | [],_,m,h=>h
 | r::L,d,m,h=>aW0 d r.id m (RW L (d.del r.id) m h)
def awj(d:dA)(id w:Int):∀m∈(d.add id w).l,m∈d.l\/m=(id,w):=λm hm=>by
 unfold dA.add at hm;split at hm
 ·exact .inl hm
 split at hm
 ·exact .inl hm
 rcases zz1.1 hm with hm|hm
 ·exact .inl hm
 exact .inr (zz3.1 hm)
def awk(d:dA)(id w:Int):∀m∈d.l,m∈(d.add id w).l:=λm hm=>by
 unfold dA.add;split
 ·exact hm
 split
 ·exact hm
 exact wwa _ hm
def PU:∀(L:List Rq) (d:dA),∀m∈(L.foldl (λd r=>d.add r.id r.weight) d).l,m∈d.l\/∃r∈L,m=(r.id,r.weight)
 | [],_,m,h=>.inl h
 | r::L,d,m,h=>by
  rcases PU L (d.add r.id r.weight) m h with h|⟨x,hx,e⟩
  ·rcases awj d r.id r.weight m h with h|h
   ·exact .inl h
   exact .inr ⟨r,.head _,h⟩
  exact .inr ⟨x,.tail _ hx,e⟩
def PV:∀(L:List Rq) (d:dA),∀m∈d.l,m∈(L.foldl (λd r=>d.add r.id r.weight) d).l
 | [],_,m,h=>h
 | r::L,d,m,h=>PV L (d.add r.id r.weight) m (awk d r.id r.weight m h)
def cxa(d:dA)(L:List Rq):∀m∈(mf d L).l,m∈d.l\/∃r∈iS L,m=(r.id,r.weight):=λm hm=>by
 rcases PU _ _ m hm with h|h
 ·exact .inl (RW _ _ m h)
 exact .inr h
def awi(d:dA){id w:Int}(h1:1<=id/\id<=64)(h2:1<=w/\w<=8):∃m∈(d.add id w).l,m.1=id:=by
 unfold dA.add;rw[zzb (by omega)];cases hf:A9 d id with
 | some i=>
  obtain⟨hi,hk,_⟩:=yyk.1 hf;exact⟨_,zzg hi,zzm hk⟩
 | none=>exact⟨(id,w),by simp,rfl⟩
def gg.at{L:List Rq}(h:gg L){r:Rq}(hr:r∈L):1<=r.id/\r.id<=L.length/\r.id<=64/\1<=r.weight/\r.weight<=8/\0<=r.table/\r.table<8/\0<=r.dz/\r.dz<=1099511627776:=by
 obtain⟨i,hi,rfl⟩:=yyi hr;obtain⟨⟨h1,h2,h3,h4,h5,h6,h7,h8,h9,vm,AB⟩,_⟩:=h.2 i hi;have:=h.1;exact⟨by omega,by omega,by omega,h4,h5,h2,h3,h8,h9⟩
def cw8{d:dA}{L:List Rq}(hL:gg L)(h:iS L≠[]):(mf d L).l≠[]:=by
 unfold mf;generalize (L.filter (·.done)).foldl (λd r=>d.del r.id) d=d1;have jW:∀r∈iS L,r∈L:=λr hr=>(xx6.1 hr).1;generalize iS L=O at *
 match O,h with
 | r::O,_=>
  have ha:=hL.at (jW r (.head _));obtain⟨m,hm,_⟩:=awi d1 (id:=r.id) (w:=r.weight) (by omega) (by omega);have:=PV O (d1.add r.id r.weight) m hm;intro e;rw[xx4]at e
  rw[e]at this
  cases this
structure fz.Good(p:fz)(N:Nat):Prop where
 reqs:gg p.m.reqs
 t1:1<=p.m.tables/\p.m.tables<=8
 lV:0<=p.m.at_/\p.m.at_<=1099511627776
 wn:p.m.cB.n<=64
 rows:p.m.cB.rows.length<=64
 wid:0<=p.m.cB.id/\p.m.cB.id<=64
 d:p.d.Ok
 ids:∀m∈p.d.l,m.1<=p.m.reqs.length
 n:1<=p.n/\p.n<=64
 src:ju p.k N
def fz.Good.row{p:fz}{N:Nat}(h:p.Good N):(mf p.d p.m.reqs).Ok/\∀m∈(mf p.d p.m.reqs).l,m.1<=p.m.reqs.length:=by
 refine⟨cw9 h.d _,λm hm=>?_⟩;rcases cxa _ _ m hm with hm|⟨r,hr,rfl⟩
 ·exact h.ids m hm
 exact (h.reqs.at (xx6.1 hr).1).2.1
def fz.Good.na{p:fz}{N:Nat}(h:p.Good N)(ho:iS p.m.reqs≠[]):∃r,uM p.m.reqs (mf p.d p.m.reqs).next.2=some r/\r∈p.m.reqs/\r.id=(mf p.d p.m.reqs).next.2:=by
 obtain⟨h1,h2⟩:=h.row;have dO:=cw8 (d:=p.d) h.reqs ho;obtain⟨e,hm⟩:=bZa h1 dO;have ha:=h1.w _ hm;have hb:=h2 _ hm;rw[e];generalize (mf p.d p.m.reqs).ma.1=id at *
 have dd:(id-1).toNat<p.m.reqs.length:=by omega
 refine⟨p.m.reqs[(id-1).toNat],?_,zzg _,?_⟩
 ·unfold uM;rw[zzb (by omega),zzd dd]
 have:=(h.reqs.2 _ dd).1.1;omega
def awd{L L':List Rq}{t w a:Int}(h:pw L t w a=some L'):L'.length=L.length+1:=by
 unfold pw at h;split at h
 ·cases h;simp
 cases h
def aI9{L L':List Rq}{id c:Int}{dn:Bool}(h:lW L id c dn=some L'):L'.length=L.length:=by
 unfold lW at h;split at h
 ·split at h
  ·split at h
   ·cases h
   cases h;exact yyh
  cases h
 cases h
def awe(m:dC)(s:Η)(aw:Int):m.reqs.length<=(m.accept s aw).1.length/\(gg m.reqs->gg (m.accept s aw).1):=by
 unfold dC.accept;split
 ·exact⟨zzi _,id⟩
 split
 ·exact⟨zzi _,id⟩
 split
 ·exact⟨zzi _,id⟩
 rename_i L hL;exact⟨by have:=awd hL;simp only;omega,λ_=>B2 hL⟩
def Hb(aw:Int):∀(l:Ψ) (m:dC),m.reqs.length<=(m.ff aw l).1.reqs.length/\(gg m.reqs->gg (m.ff aw l).1.reqs)/\(m.ff aw l).1.cB=m.cB/\(m.ff aw l).1.tables=m.tables/\(m.ff aw l).1.late=m.late/\(m.ff aw l).1.at_=m.at_
 | [],m=>⟨zzi _,id,rfl,rfl,rfl,rfl⟩
 | s::l,m=>by
  obtain⟨a,b⟩:=awe m s aw;obtain⟨c,d,e⟩:=Hb aw l {m with reqs:=(m.accept s aw).1};exact⟨yyy a c,λh=>d (b h),e⟩
def cBp{m:dC}{t:cH}(h:gg m.reqs)(hr:m.cB.rows.length<=64)(hn:m.cB.n<=64)(hi:0<=m.cB.id/\m.cB.id<=64)(ha:0<=m.at_/\m.at_<=1099511627776):
  m.reqs.length<=(m.take t).1.reqs.length/\gg (m.take t).1.reqs/\(m.take t).1.tables=m.tables/\(0<=(m.take t).1.at_/\(m.take t).1.at_<=1099511627776)/\(m.take t).1.cB.n<=64/\(m.take t).1.cB.rows.length<=64/\0<=(m.take t).1.cB.id/\(m.take t).1.cB.id<=64:=by
 have uE:m.reqs.length<=m.reqs.length/\gg m.reqs/\m.tables=m.tables/\(0<=m.at_/\m.at_<=1099511627776)/\m.cB.n<=64/\m.cB.rows.length<=64/\0<=m.cB.id/\m.cB.id<=64:=⟨zzi _,h,rfl,ha,hn,hr,hi⟩;unfold dC.take;split
 ·exact uE
 rename_i hm;obtain⟨m1,_⟩:=l_ (show eg t=true by cases hq:eg t with
  | true=>rfl
  | false=>exact absurd hq hm)
 split
 ·exact uE
 split
 ·unfold dC.Aj;simp only;obtain⟨a,b,c,d,_,f⟩:=Hb t.aw t.signals {m with at_:=t.aw};generalize ({m with at_:=t.aw}:dC).ff t.aw t.signals=y at *
  refine⟨a,b h,d,by rw[f];exact⟨by show 0<=t.aw;omega,by show t.aw<=_;omega⟩,?_⟩;rw[c];unfold dE.rH;simp only;split
  ·exact⟨hn,yyy (yym _ _) hr,hi⟩
  exact⟨hn,hr,hi⟩
 split
 ·unfold dC.high;simp only;have Fg:∀w o,m.cB.high t.mark t.aw=(w,o)->w.n<=64/\w.rows.length<=64/\0<=w.id/\w.id<=64:=λw o e=>by
   unfold dE.high at e;split at e
   ·cases e;exact⟨hn,hr,hi⟩
   cases e;exact⟨hn,zz4 _,yyd _,show (0:Int)<=64 by decide⟩
  split
  ·exact⟨zzi _,h,rfl,⟨by show 0<=t.aw;omega,by show t.aw<=_;omega⟩,hn,hr,hi⟩
  rename_i w x e;have hw:=Fg _ _ e;split
  ·exact⟨zzi _,h,rfl,⟨by show 0<=t.aw;omega,by show t.aw<=_;omega⟩,hw⟩
  rename_i L hL;exact⟨by have:=aI9 hL;simp only at this ⊢;omega,Ek hL,rfl,⟨by show 0<=t.aw;omega,by show t.aw<=_;omega⟩,hw⟩
 refine⟨zzi _,h,rfl,⟨by show 0<=t.aw;omega,by show t.aw<=_;omega⟩,?_⟩;show (m.cB.low t.mark).n<=64/\(m.cB.low t.mark).rows.length<=64/\0<=(m.cB.low t.mark).id/\(m.cB.low t.mark).id<=64;unfold dE.low;split<;>exact⟨hn,hr,hi⟩
def Ring(b cap:Nat)(L:Ψ):zC:=jF λc:Nat=>jF λfirst:Nat=>jF λA:Ψ=>
 zH (A.length=cap/\0<cap/\cap<=64/\first<cap/\L.length<=cap/\∀i,i<L.length->A[(first+i) % cap]?=L[i]?)
 [.pt b [.slice (some ⟨c,0,none⟩) cap cap,Γ first,Γ L.length] 188,.pt c (A.map .string) 9]
def Ring.open{W w:Ζ}{b cap:Nat}{L:Ψ}{l:Β}(h:SL W (.ob (Ring b cap L)::l) w):∃(c first:Nat) (A:Ψ),
  (A.length=cap/\0<cap/\cap<=64/\first<cap/\L.length<=cap/\∀i,i<L.length->A[(first+i) % cap]?=L[i]?) /\
  SL W (.pt b [.slice (some ⟨c,0,none⟩) cap cap,Γ first,Γ L.length] 188::.pt c (A.map .string) 9::l) w:=by
 simpa only[Ring,SL.ex,SL.fact,zzu,zzq] using h
def Ring.close{W w:Ζ}{b c first cap:Nat}{L A:Ψ}{l:Β}(hA:A.length=cap/\0<cap/\cap<=64/\first<cap/\L.length<=cap/\∀i,i<L.length->A[(first+i) % cap]?=L[i]?)
  (h:SL W (.pt b [.slice (some ⟨c,0,none⟩) cap cap,Γ first,Γ L.length] 188::.pt c (A.map .string) 9::l) w):SL W (.ob (Ring b cap L)::l) w:=by
 simp only[Ring,SL.ex,SL.fact,zzu,zzq];exact⟨c,first,A,hA,h⟩
def Vx{cap first i j:Nat}(hi:i<cap)(hj:j<cap)(h:(first+i) % cap=(first+j) % cap):i=j:=by
 have h1:=vv8 (first+i) cap;have h2:=vv8 (first+j) cap;rw[h]at h1
 rcases Nat.lt_trichotomy ((first+i) / cap) ((first+j) / cap) with hd|hd|hd
 ·have:=uuz cap hd;simp only[Nat.succ_eq_add_one,Nat.mul_add,vvs]at this;omega
 ·rw[hd]at h1;omega
 have:=uuz cap hd;simp only[Nat.succ_eq_add_one,Nat.mul_add,vvs]at this;omega
def ZK(b c cap first n i:Nat)(w9:0<cap)(oU:cap<=64)(hf:first<cap)(hi:i<=64):
  SP 223 [Δ b,Γ i] [.pt b [.slice (some ⟨c,0,none⟩) cap cap,Γ first,Γ n] 188]
   (cC (Γ (((first+i) % cap:Nat):Int)) [.pt b [.slice (some ⟨c,0,none⟩) cap cap,Γ first,Γ n] 188]):=by
 refine Enzz λW F w hS=>?_;apply cF5;delta M6 bU;refine Gn λw hS=>?_;(exact cA hS)
def yv(b cap:Nat)(L:Ψ):SP 52 [Δ b] [.ob (Ring b cap L)] (cC (Γ L.length) [.ob (Ring b cap L)]):=by
 refine Enzz λW F w hS=>?_;apply cJu;delta O_ bU;obtain⟨c,first,A,hA,hS⟩:=Ring.open hS;refine Gp ?_;have hS:=Ring.close hA hS;(exact cA hS)
def qd(b cap:Nat)(L:Ψ):SP 61 [Δ b] [.ob (Ring b cap L)] (cC (Γ cap) [.ob (Ring b cap L)]):=by
 refine Enzz λW F w hS=>?_;apply cJ2;delta Ph bU;obtain⟨c,first,A,hA,hS⟩:=Ring.open hS;refine Gp ?_;have hS:=Ring.close hA hS;(exact cA hS)
def YK(b cap:Nat)(L:Ψ)(s:Η):SP 165 [Δ b,.string s] [.ob (Ring b cap L)]
  (cC (.bool (decide (L.length<cap))) [.ob (Ring b cap (if L.length<cap then L++[s] else L))]):=by
 refine Enzz λW F w hS=>?_;apply cEm;delta Mb aI bU cV aR bV cw ai;obtain⟨c,first,A,hA,hS⟩:=Ring.open hS;obtain⟨h1,h2,h3,h4,h5,h6⟩:=hA;refine Gn λw hS=>?_;refine za (λh=>?_) (λh=>?_)
 ·have dd:¬L.length<cap:=by omega
  simp only[dd,vvo,ww7];have hS:=Ring.close ⟨h1,h2,h3,h4,h5,h6⟩ hS;(exact cA hS)
 have dd:L.length<cap:=by omega
 have hk:(first+L.length) % cap<cap:=vvi _ h2;simp only[dd,ww8,tti];refine Gn λw hS=>?_;refine Cg (ZK b c cap first L.length L.length h2 h3 h4 (by omega)) λw hS=>?_;refine zG hk ?_;refine ZA hS (cs:=A.map .string) Xu (u:=.string (A[(first+L.length) % cap]'(by omega))) ?_ rfl ?_
 ·simp[h1,hk]
 clear hS;intro w hS;refine Gn λw hS=>?_;have hS:=Ring.close (L:=L++[s]) (A:=A.set ((first+L.length) % cap) s) (b:=b) (c:=c) (first:=first) (cap:=cap) ⟨by simp[h1],h2,h3,h4,by simp;omega,λi hi=>?_⟩ (l:=F) (by simpa [vvh] using hS)
 ·(exact cA hS)
 by_cases he:i=L.length
 ·subst he;simp[h1,hk]
 have xe:i<L.length:=by simp at hi;omega
 rw[List.getElem?_set_ne (λe=>he (Vx (by omega) dd e.symm)),h6 i xe,zzt xe]
def Vz(n:Nat)(h1:1<=n)(h2:n<=64):SP 144 [Γ n] [] (λv post=>∃b:Nat,v= .tuple #[Δ b,Γ 0]/\post=[.ob (Ring b n [])]):=by
 refine Enzz λW F w hS=>?_;apply cDz;delta LJ aI ai cT cP bR;refine Gp ?_;refine za (λh=>by omega) (λ_=>?_);refine Gp ?_;refine za (λh=>by omega) (λ_=>?_);refine WE hS (zzi _) (by omega) (by omega) ?_;clear hS;intro c w hS;refine Gp ?_;refine⟨_,rfl,zE hS ?_⟩;clear hS;intro b w hS;have hS:=Ring.close (A:=List.replicate n ⟨#[]⟩) (L:=[]) (first:=0) (cap:=n) (b:=b) (c:=c) (l:=F) ⟨by simp,by omega,by omega,by omega,by simp,λi hi=>by simp at hi⟩ (by simpa [cK] using hS);exact⟨_,⟨b,rfl,rfl⟩,hS⟩
def V7(b cap:Nat):SP 104 [Δ b] [.ob (Ring b cap [])] (cC (.tuple #[.string ⟨#[]⟩,.bool false]) [.ob (Ring b cap [])]):=by
 refine Enzz λW F w hS=>?_;apply XE;delta GK aI bU ai;obtain⟨c,first,A,hA,hS⟩:=Ring.open hS;refine Gp ?_;refine za (λh=>?_) (λh=>absurd rfl h);have hS:=Ring.close hA hS;(exact cA hS)
def Tt{cap first:Nat}{s:Η}{L A:Ψ}(h4:first<cap)(h6:∀i,i<(s::L).length->A[(first+i) % cap]?=(s::L)[i]?):(A.map Value.string)[first]?=some (.string s):=by
 have h0:=h6 0 (by simp);simp only[xxg,ww1 h4,List.getElem?_cons_zero]at h0;simp[h0]
def V8(b cap:Nat)(s:Η)(L:Ψ):SP 104 [Δ b] [.ob (Ring b cap (s::L))] (cC (.tuple #[.string s,.bool true]) [.ob (Ring b cap (s::L))]):=by
 refine Enzz λW F w hS=>?_;apply XE;delta GK aI bU ai;obtain⟨c,first,A,hA,hS⟩:=Ring.open hS;obtain⟨h1,h2,h3,h4,h5,h6⟩:=hA;refine Gp ?_;refine za (λh=>by simp at h;omega) (λh=>?_);refine Gn λw hS=>?_;refine zG h4 ?_;refine zV hS (cs:=A.map .string) (.tl .hd) (v:=.string s) (by simpa using Tt h4 h6) ?_;have hS:=Ring.close ⟨h1,h2,h3,h4,h5,h6⟩ hS;(exact cA hS)
def b_5(b cap:Nat):SP 166 [Δ b] [.ob (Ring b cap [])] (cC (.tuple #[.string ⟨#[]⟩,.bool false]) [.ob (Ring b cap [])]):=by
 refine Enzz λW F w hS=>?_;apply XH;delta GN bU cV ai;refine Cg (V7 b cap) λw hS=>?_;(exact cA hS)
def V_(b cap:Nat)(s:Η)(L:Ψ):SP 166 [Δ b] [.ob (Ring b cap (s::L))] (cC (.tuple #[.string s,.bool true]) [.ob (Ring b cap L)]):=by
 refine Enzz λW F w hS=>?_;apply XH;delta GN bU cV ai;refine Cc (V8 b cap s L) ?_;clear hS;rintro v post ⟨rfl,rfl⟩ w hS;try simp only[app]at hS
 obtain⟨c,first,A,hA,hS⟩:=Ring.open hS;obtain⟨h1,h2,h3,h4,h5,h6⟩:=hA;simp only[zzh]at hS h5;refine Gn λw hS=>?_;refine zG h4 ?_;refine ZA hS (cs:=A.map .string) Xu (u:=.string s) (by simpa using Tt h4 h6) rfl ?_;clear hS;intro w hS;refine Cg (ZK b c cap first (L.length+1) 1 h2 h3 h4 (by omega)) λw hS=>?_;have hS:=Ring.close (L:=L) (A:=A.set first ⟨#[]⟩) (b:=b) (c:=c) (first:=(first+1) % cap) (cap:=cap) (l:=F) ⟨by simp[h1],h2,h3,vvi _ h2,by omega,λi hi=>?_⟩ (by simpa [vvh] using hS)
 ·(exact cA hS)
 have e1:((first+1) % cap+i) % cap=(first+(i+1)) % cap:=by
  rw[Nat.mod_add_mod];congr 1;omega
 have e2:first≠(first+(i+1)) % cap:=λe=>by
  have:=Vx (cap:=cap) (first:=first) (i:=0) (j:=i+1) h2 (by omega) (by rw[xxg,ww1 h4];exact e);omega
 rw[e1,List.getElem?_set_ne e2,h6 (i+1) (by simp;omega),List.getElem?_cons_succ]
def Gate(g b cap out:Nat)(L:Ψ):zC:=zH (L.length+out<=cap/\cap<=64) [.pt g [Δ b,Γ out] 125,.ob (Ring b cap L)]
def Gate.open{W w:Ζ}{g b cap out:Nat}{L:Ψ}{l:Β}(h:SL W (.ob (Gate g b cap out L)::l) w):(L.length+out<=cap/\cap<=64) /\
  SL W (.pt g [Δ b,Γ out] 125::.ob (Ring b cap L)::l) w:=by
 simpa only[Gate,SL.fact,zzu,zzq] using h
def Gate.close{W w:Ζ}{g b cap out:Nat}{L:Ψ}{l:Β}(hA:L.length+out<=cap/\cap<=64)
  (h:SL W (.pt g [Δ b,Γ out] 125::.ob (Ring b cap L)::l) w):SL W (.ob (Gate g b cap out L)::l) w:=by
 simp only[Gate,SL.fact,zzu,zzq];exact⟨hA,h⟩
def bF0(n:Nat)(h1:1<=n)(h2:n<=64):SP 145 [Γ n] [] (λv post=>∃g b:Nat,v= .tuple #[Δ g,Γ 0]/\post=[.ob (Gate g b n 0 [])]):=by
 refine Enzz λW F w hS=>?_;apply cD0;delta LK aI ai cT;refine Cc (Vz n h1 h2) ?_;clear hS;rintro v post ⟨b,rfl,rfl⟩ w hS;(try simp only[app]at hS);refine Gp ?_
 refine za (λh1=>absurd rfl h1) (λh1=>?_);refine Gp ?_;refine⟨_,rfl,zE hS ?_⟩;clear hS;intro g w hS;have hS:=Gate.close (out:=0) ⟨by simp,h2⟩ hS;exact⟨_,⟨g,b,rfl,rfl⟩,hS⟩
def zI(g b cap out:Nat)(L:Ψ):SP 54 [Δ g] [.ob (Gate g b cap out L)] (cC (Γ ((cap-L.length-out:Nat):Int)) [.ob (Gate g b cap out L)]):=by
 refine Enzz λW F w hS=>?_;apply cJv;delta Pa bU aR bV;obtain⟨hA,hS⟩:=Gate.open hS;refine Gn λw hS=>?_;refine Cg (qd b cap L) λw hS=>?_;refine Cg (yv b cap L) λw hS=>?_;have hS:=Gate.close (l:=F) hA (by exact aW hS);rw[show (cap:Int)-(L.length:Int)-(out:Int)=((cap-L.length-out:Nat):Int) by omega];(exact cA hS)
def bF5(g b cap out:Nat)(L:Ψ)(s:Η)(h:L.length+out<cap):SP 228 [Δ g,.string s] [.ob (Gate g b cap out L)] (cC (.bool true) [.ob (Gate g b cap out (L++[s]))]):=by
 refine Enzz λW F w hS=>?_;apply cGa;delta Na aI bU cw ai;refine Cg (zI g b cap out L) λw hS=>?_;refine za (λh1=>?_) (λh1=>by omega);obtain⟨hA,hS⟩:=Gate.open hS;refine Gp ?_;refine Cc (YK b cap L s) ?_;clear hS;rintro v post ⟨rfl,rfl⟩ w hS;try simp only[app]at hS
 have dd:L.length<cap:=by omega
 simp only[dd,ww8]at hS;simp only[dd,tti];have hS:=Gate.close (l:=F) (g:=g) (b:=b) (out:=out) (cap:=cap) (L:=L++[s]) ⟨by simp;omega,hA.2⟩ (by exact aW hS);(exact cA hS)
def bF3(g b cap out:Nat):SP 299 [Δ g] [.ob (Gate g b cap out [])] (cC (.tuple #[.string ⟨#[]⟩,.bool false]) [.ob (Gate g b cap out [])]):=by
 refine Enzz λW F w hS=>?_;apply XJ;delta GP bU cV ai;obtain⟨hA,hS⟩:=Gate.open hS;refine Gp ?_;refine Cg (b_5 b cap) λw hS=>?_;have hS:=Gate.close (l:=F) hA (by exact aW hS);(exact cA hS)
def bF4(g b cap out:Nat)(s:Η)(L:Ψ):SP 299 [Δ g] [.ob (Gate g b cap out (s::L))] (cC (.tuple #[.string s,.bool true]) [.ob (Gate g b cap (out+1) L)]):=by
 refine Enzz λW F w hS=>?_;apply XJ;delta GP bU cV ai;obtain⟨hA,hS⟩:=Gate.open hS;simp only[zzh]at hA;refine Gp ?_;refine Cg (V_ b cap s L) λw hS=>?_;have hS:=Gate.close (l:=F) (g:=g) (b:=b) (out:=out+1) (cap:=cap) (L:=L) ⟨by omega,hA.2⟩ (by exact aW hS);(exact cA hS)
def od(n:Int)(out:Nat):Nat:=(min (max n 0) (out:Int)).toNat
def bFx(n:Int)(out:Nat):min (max n 0) (out:Int)=(od n out:Int):=by unfold od;omega
def SJ(n:Int)(out:Nat):od n out<=out:=by unfold od;omega
def Qu(n:Int)(g b cap out:Nat)(L:Ψ):SP 239 [Δ g,Γ n] [.ob (Gate g b cap out L)] (cC (Γ (od n out:Int)) [.ob (Gate g b cap (out-od n out) L)]):=by
 refine Enzz λW F w hS=>?_;apply cGl;delta Nn bU cV ai;obtain⟨hA,hS⟩:=Gate.open hS;have hg:=SJ n out;refine Gn λw hS=>?_;rw[bFx]at hS ⊢
 rw[show (out:Int)-(od n out:Int)=((out-od n out:Nat):Int) by omega]at hS
 have hS:=Gate.close (l:=F) (g:=g) (b:=b) (cap:=cap) (L:=L) (out:=out-od n out) ⟨by omega,hA.2⟩ (by exact aW hS);(exact cA hS)
def bF2(g b cap out:Nat)(L:Ψ):SP 53 [Δ g] [.ob (Gate g b cap out L)] (cC (Γ out) [.ob (Gate g b cap out L)]):=by
 refine Enzz λW F w hS=>?_;apply XN;delta GV bU;obtain⟨hA,hS⟩:=Gate.open hS;refine Gp ?_;have hS:=Gate.close (l:=F) hA (by exact aW hS);(exact cA hS)
abbrev p2(b m j:Int):Prop:=1<=b/\b<=1073741824/\b<=m/\m<=1073741824/\0<=j/\j<=1073741824
def wD(k:Nat)(b m:Int):Int:=min (b*2 ^ k) m
def Am(k b m:Int):Int:=if p2 b m 0 then wD k.toNat b m else 0
def rL(k b m j draw:Int):Int:=if p2 b m j then Am k b m+max draw 0 % (j+1) else 0
def J7(b:Int)(hb:0<=b){i k:Nat}(h:i<=k):b*2 ^ i<=b*2 ^ k:=
 Int.mul_le_mul_of_nonneg_left (by
  have:=vvy (by decide:0<2) h;have h1:((2:Int) ^ i)=((2 ^ i:Nat):Int):=by simp
  have h2:((2:Int) ^ k)=((2 ^ k:Nat):Int):=by simp
  rw[h1,h2];omega) hb
def RY{k:Nat}{b m:Int}(hb:1<=b){i:Nat}(hi:i<=k)(h:m<=b*2 ^ i):wD k b m=m:=by
 have:=J7 b (by omega) hi;unfold wD;exact Int.min_eq_right (by omega)
def y0(b m j:Int):SP 94 [Γ b,Γ m,Γ j] [] (cC (.bool (decide (p2 b m j))) []):=by
 refine Enzz λW F w hS=>?_;apply cKp;delta PE aI cw ai;have hF:∀{w:Ζ},¬p2 b m j->SL W F w->∃post,cC (.bool (decide (p2 b m j))) [] (.bool false) post/\SL W (app post F) w:=λh hS=>⟨_,⟨by rw[zzz h],rfl⟩,hS⟩;(repeat (first|refine Gp ?_|refine Gw λw hS=>?_|refine za (λ_=>hF (by omega) hS) (λ_=>?_)|refine za (λ_=>?_) (λ_=>hF (by omega) hS)))
 have e:decide (j<=1073741824)=decide (p2 b m j):=by rw[yyg];omega
 rw[e];exact⟨_,⟨rfl,rfl⟩,hS⟩
def aW2{k:Nat}{b m:Int}:wD k b m<=m:=Int.min_le_right _ _
def RZ{k b m:Int}:0<=Am k b m/\Am k b m<=1073741824:=by
 unfold Am;split
 ·rename_i h;have h1:=@aW2 k.toNat b m;have h2:=J7 b (by omega) (zz4 k.toNat);rw[Int.pow_zero,Int.mul_one]at h2
  refine⟨?_,by omega⟩;unfold wD;exact Int.le_min.2 ⟨by omega,by omega⟩
 omega
def czh{a:Int}{n:Nat}{K:Ε->Prop}(hn:n<=30)(hr : -9223372036854775808<=a*2 ^ n/\a*2 ^ n<=9223372036854775807)(h:K (Γ (a*2 ^ n))):zc .shl (Γ a) (Γ (n:Int)) K:=by
 refine⟨Γ (a*2 ^ n),?_,h⟩;have xm:min n 64=n:=xxn (by omega);show (if ((n:Nat):Int)<0 then none else some (Γ (IntKind.i64.wrap (a*2 ^ (min ((n:Nat):Int).toNat 64)))))=_;rw[zzb (by omega),zzw,xm,wwe _ hr]
def czj{a:Int}{n:Nat}{K:Ε->Prop}(hn:n<=30)(h:K (Γ (a / 2 ^ n))):zc .shr (Γ a) (Γ (n:Int)) K:=by
 refine⟨Γ (a / 2 ^ n),?_,h⟩;have xm:min n 64=n:=xxn (by omega);have hp:(0:Int)<2 ^ n:=Int.pow_pos (by decide);show (if ((n:Nat):Int)<0 then none else some (Γ (a.fdiv (2 ^ (min ((n:Nat):Int).toNat 64)))))=_;rw[zzb (by omega),zzw,xm,vvu _ (by omega)]
def Qp(k b m:Int):SP 375 [Γ k,Γ b,Γ m] [] (cC (Γ (Am k b m)) []):=by
 refine Enzz λW F w hS=>?_;apply cJb;delta OS aI cL ai;refine Gp ?_;refine Cc (y0 b m 0) ?_;clear hS;rintro v post ⟨rfl,rfl⟩ w hS;try simp only[app]at hS
 unfold Am;by_cases hm:p2 b m 0
 ·rw[zzc hm,zzl hm];obtain⟨h1,h2,h3,h4,_⟩:=hm;refine Gp ?_;refine zp ?_;refine Gp ?_;have ek:max k 0=(k.toNat:Int):=by omega
  rw[ek];generalize k.toNat=n at *
  refine za (λhk=>?_) (λhk=>?_)
  ·have h5:(1073741824:Int)<=b*2 ^ 30:=by
    have:(1:Int)*2 ^ 30<=b*2 ^ 30:=Int.mul_le_mul_of_nonneg_right h1 (by decide);omega
   rw[RY h1 (i:=30) (by omega) (by omega)];exact⟨_,⟨rfl,rfl⟩,hS⟩
  have hp:(0:Int)<2 ^ n:=Int.pow_pos (by decide);refine czj (by omega) ?_;refine bY (λhg=>?_) (λhg=>?_)
  ·have:m<b*2 ^ n:=(Int.ediv_lt_iff_lt_mul hp).1 hg;rw[RY h1 (zzi n) (by omega)];exact⟨_,⟨rfl,rfl⟩,hS⟩
  have hle:b*2 ^ n<=m:=(Int.le_ediv_iff_mul_le hp).1 (by omega);have h0:=J7 b (by omega) (zz4 n);rw[Int.pow_zero,Int.mul_one]at h0
  refine czh (by omega) (by omega) ?_;have e:wD n b m=b*2 ^ n:=by unfold wD;exact Int.min_eq_left hle
  rw[e];exact⟨_,⟨rfl,rfl⟩,hS⟩
 rw[zzb hm,zzz hm];refine Gp ?_;refine zq ?_;exact⟨_,⟨rfl,rfl⟩,hS⟩
def XT{k b m j draw:Int}:0<=rL k b m j draw/\rL k b m j draw<=2147483648:=by
 unfold rL;split
 ·rename_i h;obtain⟨_,_,_,_,h5,h6⟩:=h;have h1:=@RZ k b m;have h2:=ww6 (max draw 0) (b:=j+1) (by omega);have h3:=vv9 (max draw 0) (b:=j+1) (by omega);omega
 omega
def cKz(k b m j draw:Int):SP 345 [Γ k,Γ b,Γ m,Γ j,Γ draw] [] (cC (Γ (rL k b m j draw)) []):=by
 refine Enzz λW F w hS=>?_;apply cIw;delta OH cL ai;refine Cc (y0 b m j) ?_;clear hS;rintro v post ⟨rfl,rfl⟩ w hS;try simp only[app]at hS
 unfold rL;by_cases hm:p2 b m j
 ·rw[zzc hm,zzl hm];obtain⟨h1,h2,h3,h4,h5,h6⟩:=hm;refine Gp ?_;refine zp ?_;refine Gn λw hS=>?_;refine ZL (by omega) ?_;rw[xxt (by omega)];have h7:=ww6 (max draw 0) (b:=j+1) (by omega);have h8:=vv9 (max draw 0) (b:=j+1) (by omega);have h9:=@RZ k b m;generalize max draw 0 % (j+1)=r at *
  refine Cg (Qp k b m) λw hS=>?_;(exact cA hS)
 rw[zzb hm,zzz hm];refine Gp ?_;refine zq ?_;exact⟨_,⟨rfl,rfl⟩,hS⟩
def rW(now:Int):Int:=max 0 (min now 1125899906842624)
def Rm(now:Int):0<=rW now/\rW now<=1125899906842624:=by unfold rW;omega
abbrev rtc(b m j f u:Int):Ξ:=[Γ b,Γ m,Γ j,Γ f,Γ u]
abbrev ki(p:Nat)(b m j f u:Int):Μ:=.pt p (rtc b m j f u) 197
def cB9(b m j:Int):SP 146 [Γ b,Γ m,Γ j] [] (λv post=>if p2 b m j then ∃p:Nat,v= .tuple #[Δ p,Γ 0]/\post=[ki p b m j 0 0] else v= .tuple #[.pointer none,Γ 1]/\post=[]):=by
 refine Enzz λW F w hS=>?_;apply cD1;delta LL cL ai cT;refine Cc (y0 b m j) ?_;clear hS;rintro v post ⟨rfl,rfl⟩ w hS;try simp only[app]at hS
 by_cases hm:p2 b m j
 ·rw[zzl hm];refine Gp ?_;refine zp ?_;refine Gp ?_;refine⟨_,rfl,zE hS λp w hS=>?_⟩;exact⟨[ki p b m j 0 0],(zzc hm).mpr ⟨p,rfl,rfl⟩,hS⟩
 rw[zzz hm];refine Gp ?_;refine zq ?_;exact⟨[],(zzb hm).mpr ⟨rfl,rfl⟩,hS⟩
def cCm(b m j k draw:Int):SP 302 [agg [Γ b,Γ m,Γ j],Γ k,Γ draw] [] (cC (Γ (rL k b m j draw)) []):=by
 refine Enzz λW F w hS=>?_;apply cHy;delta N_ a_;refine⟨_,rfl,zE hS λp w hS=>?_⟩;refine Gp ?_;refine Cg (cKz k b m j draw) λw hS=>?_;(exact cA hS)
def Q6(p:Nat)(b m j f u now draw:Int)(hf:0<=f/\f<=1000000000):SP 241 [Δ p,Γ now,Γ draw] [ki p b m j f u] (cC (Γ (rW now+rL (f+1) b m j draw)) [ki p b m j (f+1) (rW now+rL (f+1) b m j draw)]):=by
 refine Enzz λW F w hS=>?_;apply cGn;delta Np bU cV bV ai;have h1:=Rm now;have h2:=@XT (f+1) b m j draw;have e:min (max now 0) 1125899906842624=rW now:=by unfold rW;omega
 refine Gn λw hS=>?_;rw[e];refine yH (vs:=[Γ b,Γ m,Γ j]) hS Xh rfl (λi v h=>?_) ?_
 ·match i,h with
  | 0,h=>exact h
  | 1,h=>exact h
  | 2,h=>exact h
  | i+3,h=>simp at h
 refine Gp ?_;refine Cg (cCm b m j (f+1) draw) λw hS=>?_;(exact cA hS)
def Q4(p:Nat)(b m j f u:Int):SP 240 [Δ p] [ki p b m j f u] (cC (.tuple #[]) [ki p b m j 0 0]):=by
 refine Enzz λW F w hS=>?_;apply cGm;delta No cV ai;refine Gn λw hS=>?_;(exact cA hS)
def qV(p:Nat)(b m j f u now:Int):SP 107 [Δ p,Γ now] [ki p b m j f u] (cC (.bool (decide (u<=now))) [ki p b m j f u]):=by
 refine Enzz λW F w hS=>?_;apply cC6;delta Lf bU;refine Gp ?_;(exact cA hS)
def qU(p:Nat)(b m j f u:Int):SP 57 [Δ p] [ki p b m j f u] (cC (Γ f) [ki p b m j f u]):=by
 refine Enzz λW F w hS=>?_;apply cJy;delta Pd bU;refine Gp ?_;(exact cA hS)
def ZN(p:Nat)(b m j f u:Int):SP 58 [Δ p] [ki p b m j f u] (cC (Γ u) [ki p b m j f u]):=by
 refine Enzz λW F w hS=>?_;apply cJz;delta Pe bU;refine Gp ?_;(exact cA hS)
def nK:cD:=⟨0,[],[]⟩
def jn(a x:cD):cD:=⟨x.aw,a.ops++x.ops,a.notes++x.notes⟩
def jZ(l:List cD):cD:=l.foldl jn nK
structure uW(n:Nat)(x:cD):Prop where
 may:ep x=true
 cM:sJ n x=true
 ops:x.ops.length<=64
 iN:x.notes.length<=4
def fH:Int->List cD->Prop
 | _,[]=>True
 | b,x::l=>b<x.aw/\fH x.aw l
def fH.mono{b c:Int}(h:c<=b):∀{l:List cD},fH b l->fH c l
 | [],_=>trivial
 | _::_,⟨h1,h2⟩=>⟨by omega,h2⟩
def iM(b:Int)(l:List cD):Int:=l.foldl (λ_ x=>x.aw) b
def bW9(b:Int)(l:List cD)(x:cD):iM b (l++[x])=x.aw:=by simp[iM]
def Jt(b:Int)(l l':List cD):iM b (l++l')=iM (iM b l) l':=by simp[iM]
def fH.append{l':List cD}:∀{l:List cD} {b:Int},fH b (l++l')↔fH b l/\fH (iM b l) l'
 | [],b=>⟨λh=>⟨trivial,h⟩,λh=>h.2⟩
 | x::l,b=>by
  show b<x.aw/\fH x.aw (l++l')↔(b<x.aw/\fH x.aw l)/\fH (iM x.aw l) l';rw[fH.append (l:=l) (b:=x.aw)];exact⟨λ⟨a,b,c⟩=>⟨⟨a,b⟩,c⟩,λ⟨⟨a,b⟩,c⟩=>⟨a,b,c⟩⟩
def fH.last{b:Int}:∀{l:List cD},fH b l->b<=iM b l:=λ{l}=>by
 induction l generalizing b with
 | nil=>intro _;exact yyd _
 | cons x l ih=>rintro ⟨h1,h2⟩;have:=ih h2;show b<=iM x.aw l;omega
def fH.snoc{b:Int}{l:List cD}{x:cD}(h:fH b l)(hx:iM b l<x.aw):fH b (l++[x]):=fH.append.2 ⟨h,hx,trivial⟩
structure nh(n:Nat)(a:cD)(k:Nat):Prop where
 l0:0<=a.aw
 l1:a.aw<=1099511627776
 pos:0<k->1<=a.aw
 iN:a.notes.length<=4*k
 JM:∀m∈a.notes,jg m a.aw=true
 len:a.ops.length<=64*k
 ops:∀o∈a.ops,kO o a.aw=true
 m_:∀o∈a.ops,o.table<(n:Int)
def bX9{o:gl}{l l':Int}(h:kO o l=true)(hl:l<=l'):kO o l'=true:=by
 unfold kO at *
 rw[zzy]at *
 exact⟨h.1,by omega,h.2.2⟩
def bX8{m:il}{l l':Int}(h:jg m l=true)(hl:l<=l'):jg m l'=true:=by
 unfold jg at *
 rw[zzy]at *
 obtain⟨h1,h2,⟨a1,a2,a3,a4,a5,a6,a7,a8⟩|h3⟩:=h
 ·exact⟨h1,h2,.inl ⟨a1,a2,a3,a4,a5,a6,by omega,a8⟩⟩
 exact⟨h1,h2,.inr h3⟩
def uW.iff{n:Nat}{x:cD}(h:uW n x):(1<=x.aw/\x.aw<=1099511627776)/\(∀o∈x.ops,kO o x.aw=true)/\(∀m∈x.notes,jg m x.aw=true)/\∀o∈x.ops,o.table<(n:Int):=by
 obtain⟨⟨h1,h2,_⟩,h3,h4⟩:=oy.1 h.may;have ht:=h.cM;unfold sJ at ht;rw[zz6]at ht
 exact⟨⟨h1,h2⟩,h3,h4,λo ho=>zzm (ht o ho)⟩
def nh.zero(n:Nat):nh n nK 0:=⟨yyd _,by show (0:Int)<=_;decide,λh=>by omega,zzi _,λo h=>(by cases h),zzi _,λo h=>(by cases h),λo h=>(by cases h)⟩
def nh.step{n:Nat}{a x:cD}{k:Nat}(h:nh n a k)(hx:uW n x)(hl:a.aw<x.aw):nh n (jn a x) (k+1):=by
 obtain⟨⟨h1,h2⟩,h3,uj,h4⟩:=hx.iff;have h5:=hx.ops;have h6:=h.len;have h7:=hx.iN;have h8:=h.iN;refine⟨by show 0<=x.aw;omega,h2,λ_=>h1,by show (a.notes++x.notes).length<=_;rw[zza];omega,λm hm=>?_,by show (a.ops++x.ops).length<=_;rw[zza];omega,λo ho=>?_,λo ho=>?_⟩
 ·rcases zz1.1 hm with hm|hm
  ·exact bX8 (h.JM m hm) (by show a.aw<=x.aw;omega)
  exact uj m hm
 ·rcases zz1.1 ho with ho|ho
  ·exact bX9 (h.ops o ho) (by show a.aw<=x.aw;omega)
  exact h3 o ho
 rcases zz1.1 ho with ho|ho
 ·exact h.m_ o ho
 exact h4 o ho
def bWr(l:List cD)(x:cD):jZ (l++[x])=jn (jZ l) x:=by simp[jZ]
def bWs{l:List cD}{i:Nat}(h:i<l.length):jZ (l.take (i+1))=jn (jZ (l.take i)) l[i]:=by
 rw[zze h,bWr]
def nh.fold{n:Nat}:∀(l:List cD) {a:cD} {k:Nat},nh n a k->(∀x∈l,uW n x)->fH a.aw l->nh n (l.foldl jn a) (k+l.length)
 | [],a,k,h,_,_=>h
 | x::l,a,k,h,hx,⟨C2,xx⟩=>by
  have:=nh.fold l (h.step (hx x (.head _)) C2) (λy hy=>hx y (.tail _ hy)) xx;rw[zzh,show k+(l.length+1)=k+1+l.length by omega];exact this
def Dg{n:Nat}{l:List cD}(h:∀x∈l,uW n x)(hr:fH 0 l):nh n (jZ l) l.length:=by
 have:=nh.fold (n:=n) l (nh.zero n) h hr;rw[yye]at this
 exact this
def U0(l:List cD):(jZ l).aw=iM 0 l:=by
 suffices h:∀(l:List cD) (a:cD),(l.foldl jn a).aw=iM a.aw l from h l nK
 intro l;induction l with
 | nil=>intro a;rfl
 | cons x l ih=>intro a;exact ih (jn a x)
def nh.may{n k:Nat}{a:cD}(h:nh n a k)(hk:0<k)(HZ:k<=64):ep a=true/\sJ n a=true:=by
 have h1:=h.pos hk;have h2:=h.l1;have h3:=h.len;have h4:=h.iN;refine⟨oy.2 ⟨⟨h1,h2,by omega,by omega⟩,h.ops,h.JM⟩,?_⟩;unfold sJ;rw[zz6];exact λo ho=>zzl (h.m_ o ho)
structure fo where
 k:cN
 L:List cD
 out:Nat
 fR:Int
 eK:Int
 held:cD
 n:Nat
structure dU where
 cap:Nat
 cJ:Nat
 b:Int
 m:Int
 j:Int
def fo.ready(s:fo)(now:Int):Bool:=if 0<s.n then decide (s.eK<=now) else decide (0<s.L.length)
def fo.hold(s:fo)(cJ:Nat):fo:=if s.n=0 then {s with L:=s.L.drop cJ,out:=s.out+min cJ s.L.length,held:=jZ (s.L.take cJ),n:=min cJ s.L.length} else s
def fo.hand(c:dU)(s:fo)(now draw:Int):fo × Int × Int:=
 if (s.k.fP s.held).2=0 then ({s with k:=(s.k.fP s.held).1,out:=s.out-od s.n s.out,fR:=0,eK:=0,held:=nK,n:=0},6,0)
 else if (s.k.fP s.held).2=9 then ({s with k:=(s.k.fP s.held).1,fR:=s.fR+1,eK:=rW now+rL (s.fR+1) c.b c.m c.j draw},7,0)
 else ({s with k:=(s.k.fP s.held).1},0,(s.k.fP s.held).2)
def fo.step(c:dU)(s:fo)(now draw:Int):fo × Int × Int:=if s.ready now=true then (s.hold c.cJ).hand c now draw else (s,0,0)
structure pq(c:dU)(cM:Nat)(s:fo)(f:Nat):Prop where
 Ah:1<=c.cap
 cap:c.cap<=64
 vK:1<=c.cJ
 cJ:c.cJ<=64
 it:∀x∈s.L,uW cM x
 jP:fH 0 s.L
 room:s.L.length+s.out<=c.cap
 out:s.out=s.n
 held:(s.n=0/\s.held=nK)\/(0<s.n/\nh cM s.held s.n)
 f0:0<=s.fR
 f1:s.fR<=f
def pq.mono{c:dU}{cM f f':Nat}{s:fo}(h:pq c cM s f)(hf:f<=f'):pq c cM s f':=⟨h.Ah,h.cap,h.vK,h.cJ,h.it,h.jP,h.room,h.out,h.held,h.f0,by have:=h.f1;omega⟩
def fH.take{b:Int}{l:List cD}(h:fH b l)(i:Nat):fH b (l.take i):=(fH.append.1 ((yyl i l).symm▸h:fH b (l.take i++l.drop i))).1
def fH.drop{b:Int}{l:List cD}(h:fH b l)(i:Nat):fH b (l.drop i):=by
 have:=fH.append.1 ((yyl i l).symm▸h:fH b (l.take i++l.drop i));exact this.2.mono this.1.last
def pq.hold{c:dU}{cM f:Nat}{s:fo}(h:pq c cM s f){now:Int}(hr:s.ready now=true):pq c cM (s.hold c.cJ) f/\0<(s.hold c.cJ).n:=by
 have h1:=h.room;have h2:=h.out;have h3:=h.cap;have h4:=h.vK;unfold fo.hold;by_cases hn:s.n=0
 ·rw[zzc hn];unfold fo.ready at hr;rw[zzb (by omega),zzy]at hr
  have hj:=Dg (n:=cM) (l:=s.L.take c.cJ) (λx hx=>h.it x (yyo hx)) (h.jP.take _);rw[zzf]at hj
  refine⟨⟨h.Ah,h.cap,h.vK,h.cJ,λx hx=>h.it x (vvt hx),h.jP.drop _,?_,?_,.inr ⟨?_,hj⟩,h.f0,h.f1⟩,?_⟩
  ·show (s.L.drop c.cJ).length+(s.out+min c.cJ s.L.length)<=c.cap;rw[zzr];omega
  ·show s.out+min c.cJ s.L.length=min c.cJ s.L.length;omega
  ·show 0<min c.cJ s.L.length;omega
  show 0<min c.cJ s.L.length;omega
 rw[zzb hn];exact⟨h,by omega⟩
structure dI where
 tables:Int
 late:Int
 size:Int
 queue:Int
 chunk:Int
 batch:Int
 base:Int
 cJ:Int
 sy:Int
 every:Int
def lY(c:dI):Ξ:=[Γ c.tables,Γ c.late,Γ c.size,Γ c.queue,Γ c.chunk,Γ c.batch,Γ c.base,Γ c.cJ,Γ c.sy,Γ c.every]
def a_z(c:dI):∀v∈lY c,v.oneCell'=true:=by simp[lY,Value.oneCell']
def t_(j:Nat):Int:=([64,128,256,1024]:Ω)[j]!
def aI2{j:Nat}(h:j<4):([Γ 64,Γ 128,Γ 256,Γ 1024]:Ξ)[0+j*1]?=some (Γ (t_ j)):=by
 match j,h with
 | 0,_=>rfl
 | 1,_=>rfl
 | 2,_=>rfl
 | 3,_=>rfl
def aI3{j:Nat}(h:j<4):64<=t_ j/\t_ j<=1024:=by
 match j,h with
 | 0,_=>decide
 | 1,_=>decide
 | 2,_=>decide
 | 3,_=>decide
def B8(c:dI):dI:=
 ⟨1+(md c.tables 4:Int),(md c.late (2 ^ (1+md c.tables 4)):Int),t_ (md c.size 4),1+(md c.queue 5:Int),1+(md c.chunk 4:Int),1+(md c.batch 4:Int),1+(md c.base 4:Int),1+(md c.base 4:Int)+(md c.cJ 12:Int),(md c.sy 4:Int),1+(md c.every 8:Int)⟩
def QV{a:Int}{k:IntKind}{n:Nat}{K:Ε->Prop}(hn:n<=60)(hr : -9223372036854775808<=a*2 ^ n/\a*2 ^ n<=9223372036854775807)(h:K (Γ (a*2 ^ n))):zc .shl (Γ a) (.int k (n:Int)) K:=by
 refine⟨Γ (a*2 ^ n),?_,h⟩;have xm:min n 64=n:=xxn (by omega);show (if ((n:Nat):Int)<0 then none else some (Γ (IntKind.i64.wrap (a*2 ^ (min ((n:Nat):Int).toNat 64)))))=_;rw[zzb (by omega),zzw,xm,wwe _ hr]
def cxl{j:IntKind}{n:Nat}{K:Ε->Prop}(hr:n<=9223372036854775807)(h:K (.int .u64 (n:Int))):zL .u64 (.int j (n:Int)) K:=zW (by rw[show IntKind.u64.wrap (n:Int)=n by rw[wwz];omega];exact h)
def mz(v n:Int):Int:=(md v n.toNat:Int)
def bYx(v n:Int)(h:0<n/\n<=9223372036854775807):SP 15 [Γ v,Γ n] [] (cC (Γ (mz v n)) []):=by
 have:=yl v n.toNat (by omega) (by omega);rw[show ((n.toNat:Nat):Int)=n by omega]at this
 exact this
def cx0{b o len cap sz:Nat}{k:IntKind}{j:Int}{K:Ε->Prop}(h0:0<=j)(hj:j<len)(h:K (.pointer (some ⟨b,o+j.toNat*sz,none⟩))):zk sz (.slice (some ⟨b,o,none⟩) len cap) (.int k j) K:=by
 obtain⟨m,rfl⟩:∃m:Nat,j=m:=⟨j.toNat,by omega⟩;rw[zzw]at h
 exact zG (by omega) h
def aI1{j:Int}(h0:0<=j)(h:j<4):([Γ 64,Γ 128,Γ 256,Γ 1024]:Ξ)[0+j.toNat*1]?=some (Γ (t_ j.toNat)):=aI2 (by omega)
set_option maxHeartbeats 4000000 in
def qi(c:dI):SP 7 [agg (lY c)] [] (cC (agg (lY (B8 c))) []):=by
 intro W F w hS;apply vc7;delta Pq a_ aR uX G4 G5 Ea G6 G7 G8 G9 G' ai ig;(try simp only[app]at hS);refine zw hS λcb w hS=>?_;unfold lY at hS;refine Gb λxb w hS=>?_;obtain⟨ct,cl,cs,cq,cc,tY,Ai,cm,cj,ce⟩:=c;simp only at hS;have h1:=ie ct 4 (by decide);have h2:=ie cs 4 (by decide);have h3:=ie cq 5 (by decide);have h4:=ie cc 4 (by decide);have h5:=ie tY 4 (by decide);have h6:=ie Ai 4 (by decide);have h7:=ie cm 12 (by decide);have h8:=ie cj 4 (by decide);have h9:=ie ce 8 (by decide);have g1:0<=mz ct 4/\mz ct 4<4:=⟨vvn _,by show (md ct 4:Int)<4;omega⟩;have g2:0<=mz cs 4:=vvn _;have SB:mz cs 4<((4:Nat):Int):=by show (md cs 4:Int)<4;omega
 have bFp:mz cs 4<4:=SB;have g3:0<=mz cq 5/\mz cq 5<5:=⟨vvn _,by show (md cq 5:Int)<5;omega⟩;have g4:0<=mz cc 4/\mz cc 4<4:=⟨vvn _,by show (md cc 4:Int)<4;omega⟩;have g5:0<=mz tY 4/\mz tY 4<4:=⟨vvn _,by show (md tY 4:Int)<4;omega⟩;refine⟨λus w=>∃yb:Nat,us=[Δ yb]/\SL W (.pt yb [Γ (1+mz ct 4),Γ 0,Γ (t_ (mz cs 4).toNat),Γ (1+mz cq 5),Γ (1+mz cc 4),Γ (1+mz tY 4),Γ 0,Γ 0,Γ 0,Γ 0] 23 ::
   .pt xb [Γ 0,Γ 0,Γ 0,Γ 0,Γ 0,Γ 0,Γ 0,Γ 0,Γ 0,Γ 0] 23::.pt cb [Γ ct,Γ cl,Γ cs,Γ cq,Γ cc,Γ tY,Γ Ai,Γ cm,Γ cj,Γ ce] 23::F) w,?_,?_⟩
 ·repeat' (first
   | refine Gp ?_
   | refine Gw λw hS=>?_
   | refine Gb λb w hS=>?_
   | ((with_reducible refine yI (bYx _ _ (by decide)) hS (.nil) ?_);clear hS;(rintro v post ⟨rfl,rfl⟩ w hS);(try simp only[app]at hS))
   | (with_reducible refine cx0 (by assumption) (by assumption) ?_)
   | (with_reducible refine zV hS (t:=3) Xh (aI1 (by assumption) (by assumption)) ?_)
   | with_reducible refine And.intro ?_ ?_
   | exact⟨_,rfl,aW hS⟩)
 clear hS;rintro _ w ⟨yb,cO,hS⟩;cases cO;clear g1 g2 SB bFp g3 g4 g5;have hS:SL W (.pt yb [Γ (1+(md ct 4:Int)),Γ 0,Γ (t_ (md cs 4)),Γ (1+(md cq 5:Int)),Γ (1+(md cc 4:Int)),Γ (1+(md tY 4:Int)),Γ 0,Γ 0,Γ 0,Γ 0] 23::_) w:=hS;refine Gp ?_;rw[show (1:Int)+(md ct 4:Int)=((1+md ct 4:Nat):Int) by omega]at hS ⊢
 refine cxl (by omega) ?_;have hp:2 ^ (1+md ct 4)<=16:=vvy (by decide) (show 1+md ct 4<=4 by omega);have vA:0<2 ^ (1+md ct 4):=Nat.pow_pos (by decide);have T5:(1:Int)*2 ^ (1+md ct 4)=((2 ^ (1+md ct 4):Nat):Int):=by simp
 refine QV (by omega) (by rw[T5];omega) ?_;rw[T5];have mw:=ie cl (2 ^ (1+md ct 4)) vA;have e:B8 ⟨ct,cl,cs,cq,cc,tY,Ai,cm,cj,ce⟩=⟨((1+md ct 4:Nat):Int),(md cl (2 ^ (1+md ct 4)):Int),t_ (md cs 4),1+(md cq 5:Int),1+(md cc 4:Int),1+(md tY 4:Int),1+(md Ai 4:Int),1+(md Ai 4:Int)+(md cm 12:Int),(md cj 4:Int),1+(md ce 8:Int)⟩:=by
  unfold B8;simp only;rw[show (1:Int)+(md ct 4:Int)=((1+md ct 4:Nat):Int) by omega]
 rw[e];generalize hP:2 ^ (1+md ct 4)=P at *
 refine Cg (yl cl P vA (by omega)) λw hS=>?_;refine Cg (zO Ai 4 (by decide) (by decide)) λw hS=>?_;refine Cg (zO cm 12 (by decide) (by decide)) λw hS=>?_;refine Cg (zO cj 4 (by decide) (by decide)) λw hS=>?_;refine Cg (zO ce 8 (by decide) (by decide)) λw hS=>?_;(exact cA hS)
structure g_ where
 kind:Int
 n:Int
 sg:Ψ
 l:List eh
 ft:fQ
 keep:Ω
instance (a b:fQ):Decidable (a=b):=decidable_of_iff (a.kind=b.kind/\a.keep=b.keep) (by obtain⟨a1,a2⟩:=a;obtain⟨b1,b2⟩:=b;simp)
def VU{α β:Type}(f:α->β):∀l:List α,(l.map λs=>[f s]).flatten=l.map f
 | []=>rfl
 | a::l=>by rw[zzo,zz5,VU f l];rfl
def ku:fQ:=⟨0,0⟩
structure nu where
 kind:Int
 n:Int
 sv:Ε
 cv:Ε
 ft:fQ
 kv:Ε
def jU(x:nu):Ξ:=[Γ x.kind,Γ x.n,x.sv,x.cv,Γ x.ft.kind,Γ x.ft.keep,x.kv]
def Cf(x:nu):(jU x).length=7:=rfl
structure kT(H:bw)(x:nu)(s:g_):Prop where
 kind:x.kind=s.kind
 n:x.n=s.n
 ft:x.ft=s.ft
 sv:dx H 1 x.sv s.sg.length (s.sg.map Value.string)
 cv:dx H 4 x.cv s.l.length (s.l.map fN).flatten
 kv:dx H 1 x.kv s.keep.length (s.keep.map (Value.int .i64))
def kT.mono{H H':bw}(hh:H.le H'){x:nu}{s:g_}(h:kT H x s):kT H' x s:=⟨h.kind,h.n,h.ft,h.sv.mono hh,h.cv.mono hh,h.kv.mono hh⟩
def D0(H:bw)(v:Ε)(l:List g_):Prop:=∃xs:List nu,xs.length=l.length/\dx H 7 v l.length (xs.map jU).flatten/\∀i (h:i<l.length) (h':i<xs.length),kT H xs[i] l[i]
def bWv(l:Ω):Bool:=l.all λk=>decide (0<=k/\k<=2147483647)
def bYb(s:g_):Bool:=
 decide ((1<=s.kind/\s.kind<=8)/\(0<=s.n/\s.n<=1125899906842624)/\(s.n=0\/s.kind=2\/s.kind=4\/s.kind=5\/s.kind=7)/\(s.ft=ku\/s.kind=3)/\(s.sg.length=0\/s.kind=1)/\(s.l.length=0\/s.kind=1)/\(s.keep.length=0\/s.kind=8)/\(s.kind=3->iZ s.ft=true/\s.ft.keep<=2147483647)/\s.keep.length<=64) && eg ⟨1,1,s.l,s.sg,0⟩ && bWv s.keep
def bYc(l:List g_):Bool:=l.all bYb && decide (l.length<=1000)
def WR(x:(Int × List g_) × cY):Prop:=(x.2.bad=false/\x.2.l=[])/\bYc x.1.2=true
instance (x:(Int × List g_) × cY):Decidable (WR x):=by unfold WR;infer_instance
