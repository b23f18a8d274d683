/- Part. -/
import Derived.Test.YtmkllimamejcgaaGreatJ9
import Derived.Test.YtmkllimamejcgaaGreatQVcI
import Derived.Lib.Overlaps
import Derived.Lib.AppendZerosOnto
import Derived.Test.YtmkllimamejcgaaGreatQVcX
import Derived.Test.YtmkllimamejcgaaGreatQVcA
import Derived.Test.YtmkllimamejcgaaGreatQVcC
import Derived.Test.YtmkllimamejcgaaGreatQVcT
import Derived.Test.YtmkllimamejcgaaGreatQVcN
namespace Go.Proofs.YtmkllimamejcgaaGreat
set_option linter.all false
set_option maxRecDepth 100000
open Go.RowKit
def wwa:=@Tryz.underlying67
def ttb:=@List.all_eq_false
def uu8:=@Tryz.underlying336
def wwm:=@run_equalIn_int
def wwh:=@List.length_eq_zero_iff
def vv8:=@List.flatMap_append
def ttc:=@List.nodup_append
def uuu:=@List.length_eraseIdx
def uu0:=@Nat.mul_le_mul_left
def vvs:=@Int.natCast_nonneg
def lX(b:Nat)(cs:Ξ)(t:Ι):zB:=λh=>h=bw.one b (.cells cs.toArray t (0,0))
section
variable {W w:Ζ} {l l':Β} {P:Program}
def lX.oQ{b:Nat}{cs:Ξ}{t:Ι}(h:SL W l w)(m:Has (.ob (lX b cs t)) l):w.heap[b]?=some (.cells cs.toArray t (0,0)):=by
 obtain⟨k,s,x⟩:=h.out;obtain⟨h1,e,le⟩:=m.heap s;have e:h1=bw.one b (.cells cs.toArray t (0,0)):=e;subst e;exact x b _ (le b _ (by simp[bw.one]))
def lX.cell{b o:Nat}{cs:Ξ}{t:Ι}{v:Ε}(h:SL W l w)(m:Has (.ob (lX b cs t)) l)(hv:cs[o]?=some v):w.cell? ⟨b,o,none⟩=some v:=by
 simp[World.cell?,lX.oQ h m,hv]
def czx{z cells:Ξ}{ps:List (Nat × Nat × Ε)}{e:Ι}{n:Nat}{K:Ε->Ζ->Prop}(hS:SL W l w)(hc:iz z ps=some cells)
  (h:∀b w',SL W (.ob (lX b cells e)::l) w'->K (.slice (some ⟨b,0,none⟩) n n) w'):zn z ps e n w K:=⟨cells,hc,h _ _ (hS.alloc (c:=.ob (lX w.heap.size cells e)) rfl)⟩
def Y0{dT sT ty elem tt:Ι}{b o HO R3 m Ku WI sz:Nat}{a:Addr}{cs cd:Ξ}{K:Ε->Ζ->Prop}(hS:SL W l w)(hu:P.underlying dT=some (.slice elem))(hs:(P.info? elem).map (·.size)=some sz)
  (hm:Nat.min Ku HO=m) (hl:cs.length=m*sz) (gU:∀j v,cs[j]?=some v->w.cell? (a.add j)=some v) (u:gh (.pt b cd tt) (.pt b (cd.take o++cs++cd.drop (o+cs.length)) tt) l l') (ho:o+cs.length<=cd.length) (h1:∀v∈cs,v.oneCell'=true)
  (h:∀v w',SL W l' w'->K v w'):zR P (Builtin.copy_ #[dT,sT] ty #[.slice (some ⟨b,o,none⟩) HO R3,.slice (some a) Ku WI]) w K:=by
 have rn:=ww9 (P:=P) w a cs gU;have il:∀j,j<cs.length->∃v,cd[o+j]?=some v:=λj hj=>⟨_,zzc (by omega)⟩;have fS:=run_storeCells_cells (P:=P) b o cs 0 w (λj hj=>by obtain⟨v,hv⟩:=il j hj;rw[xxn,hS.cell u.has hv];rfl) (λj hj=>by obtain⟨v,hv⟩:=il j hj;rw[xxn];exact hS.frozen u.has hv) h1;simp only[xxn]at fS;have hr:(Builtin.copy_ #[dT,sT] ty #[.slice (some ⟨b,o,none⟩) HO R3,.slice (some a) Ku WI]).run P w= .ok (goInt m) (w.setCells b o cs):=by
  cases hq:P.info? elem with
  | none=>simp[hq]at hs
  | some i=>
   have hi:i.size=sz:=by simpa [hq] using hs
   simp[Builtin.copy_,zzz hu,Builtin.lenOf,Builtin.firstCells,sizeOf,typeInfo,hq,hi,hm,<- hl,rn,fS]
 exact⟨_,_,hr,h _ _ (SL.Xq hS u ho)⟩
def czy{ty t e:Ι}{a:Option Addr}{n c:Nat}{K:Ε->Prop}(ht:P.underlying t=some (.slice e))(h:K (Γ c)):ff P (Builtin.cap_ #[t] ty #[.slice a n c]) w K:=
 ⟨_,by simp[Builtin.cap_,zzz ht,goInt],h⟩
end
def Tryz.bXx:(Tryz.prog.info? 66).map (λi=>(i.zero.map (λz=>z.cells.toList),i.size,i.bytes))=some (some [Γ 0,.string ⟨#[]⟩],2,24):=by kernel_rfl
def Tryz.cMz:(Tryz.prog.info? 66).map (λi=>i.zero)=some (some (.agg #[Γ 0,.string ⟨#[]⟩])):=by kernel_rfl
def cBk(w:Ζ):(sizeOf 66).run Tryz.prog w= .ok 2 w:=by kernel_rfl
def cn9{W w:Ζ}{l:Β}{vb b o m vc lb cb:Nat}{cv cs:Ξ}{K:Ε->Ζ->Prop}(hS:SL W l w)(h1:Has (.ob (lX vb cv 66)) l)(h2:Has (.pt b cs 66) l)(dQ:vb≠b)(gz:cs.length≠0)
  (h:K (.bool false) w):q7 Tryz.prog 366 [.slice (some ⟨vb,0,none⟩) m vc,.slice (some ⟨b,o,none⟩) lb cb] w K:=by
 have e1:=lX.oQ hS h1;obtain⟨f,hf,e2⟩:=hS.oQ h2;have hsa:w.shape? vb=some (66,cv.length):=by simp[World.shape?,e1]
 have hsb:w.shape? b=some (66,cs.length):=by simp[World.shape?,e2]
 have hz:∀x:Addr,x.block=vb->w.frozen? x=false:=λx hx=>by simp only[World.frozen?,hx,e1];simp
 have hr:=Go.Lib.run_overlaps_apart (P:=Tryz.prog) w 67 4 66 wwa 2 cBk ⟨vb,0,none⟩ ⟨b,o,none⟩ m vc lb cb dQ 66 66 cv.length cs.length hsa hsb gz (hz _ rfl) (hz _ rfl);refine⟨.bool false,w,?_,h⟩;have:=run_callFunc_extern Tryz.func366 (by kernel_rfl) (by kernel_rfl) (by kernel_rfl) (e:=Extern.SlicesOverlaps.overlaps #[67,67] #[4]) (by kernel_rfl) #[.slice (some ⟨vb,0,none⟩) m vc,.slice (some ⟨b,o,none⟩) lb cb] w;rw[this,hr];rfl
def lX.ne{W w:Ζ}{l:Β}{b vb:Nat}{cs cv:Ξ}{t t':Ι}(h:SL W (.pt b cs t::.ob (lX vb cv t')::l) w):vb≠b:=by
 rintro rfl;obtain⟨k,⟨h1,h2,s,⟨f,_,rfl⟩,h3,h4,s',e,r⟩,m⟩:=h.out;have e:h3=bw.one vb (.cells cv.toArray t' (0,0)):=e;subst e;rcases s vb with ⟨a,_⟩|⟨a,_⟩
 ·simp[bw.one]at a
 rcases s' vb with ⟨c,_⟩|⟨_,c⟩
 ·simp[bw.one]at c
 rw[a]at c;simp[bw.one]at c
def Ko(A E x:Ξ):(A++E).take A.length++x++(A++E).drop (A.length+x.length)=A++x++E.drop x.length:=by
 rw[ww0,<- vvb,wwz]
def cw5(A E D:Ξ)(k:Nat)(hk:k<=E.length):(A++E).take (A.length+k)++D++(A++E).drop (A.length+k+D.length)=A++(E.take k++D++E.drop (k+D.length)):=by
 rw[xxy,vvh,<- vvb (l:=A++E),wwz];simp
def qz(v:Ε)(n i vb:Nat)(cells x:Ξ)(hi:i<=n)(hx:x.length=2)(gF:∀v∈cells,v.oneCell'=true)(nQ:∀v∈x,v.oneCell'=true)(hn:n<=1000000):
  SP 321 [v,Γ (i:Int),.slice (some ⟨vb,0,none⟩) 1 1] [.ob (bR v 66 2 n cells),.ob (lX vb x 66)] (λu post=>post=[.ob (bR u 66 2 (n+1) (cells.take (i*2)++x++cells.drop (i*2)))]):=by
 refine Enzz λW F w hS=>?_;apply cJi;delta OF aI cL ai cQ;have gU:∀{l:Β} {w:Ζ},SL W l w->Has (.ob (lX vb x 66)) l->∀j u,x[j]?=some u->w.cell? ((⟨vb,0,none⟩:Addr).add j)=some u:=λh m j u e=>by
  rw[yyd,yye];exact lX.cell h m e
 have gG:i=n->zx 2 24 [Γ 0,.string ⟨#[]⟩] 66 v (.slice (some ⟨vb,0,none⟩) 1 1) w λu w=>∃post,(post=[.ob (bR u 66 2 (n+1) (cells.take (i*2)++x++cells.drop (i*2)))])/\SL W (app post F) w:=λe=>by
  subst e;obtain⟨_,_,_,hlen,_⟩:=bR.at hS Xh;refine zI (n:=i) (m:=1) hS Xr ⟨rfl,hx,gU hS Xh⟩ (by omega) rfl nQ (by omega) (by omega) ?_;clear hS;intro u w hS;rw[zz6 (by omega),yy6 (by omega),zz1];exact⟨_,rfl,aW hS⟩
 rcases bR.open hS with ⟨⟨a,rfl⟩,rfl,rfl,_⟩|⟨b,cap,rest,rfl,o_,hlen,jP,Th⟩
 ·refine⟨a,0,0,i,0,0,rfl,rfl,rfl,⟨_,rfl⟩,hi,zzj _,zzj _,?_⟩;refine ye ?_;refine Gp ?_;refine za (λh=>by omega) (λ_=>?_);refine ye ?_;refine Gp ?_;exact za (λh=>gG (by omega)) (λh=>by omega)
 refine⟨_,n,cap,i,n,cap,rfl,rfl,rfl,⟨_,rfl⟩,hi,o_,zzj _,?_⟩;refine ye ?_;refine Gp ?_;refine za (λh=>by omega) (λ_=>?_);refine ye ?_;refine Gp ?_;refine za (λh=>gG (by omega)) (λdQ=>?_);clear gG hS;have hS:=Th;clear Th;have jZ:i<n:=by omega
 have hvb:=lX.ne hS;refine Gp ?_;refine czy wwa ?_;refine Gp ?_;obtain⟨A,hA⟩:∃A,A=cells.take (i*2):=⟨_,rfl⟩;obtain⟨D,hD⟩:∃D,D=cells.drop (i*2):=⟨_,rfl⟩;have Fi:cells=A++D:=by rw[hA,hD,yyk]
 have su:A.length=i*2:=by rw[hA,zzg];omega
 have E_:D.length=(n-i)*2:=by rw[hD,zzq];omega
 have Tb:∀v∈D,v.oneCell'=true:=λv hv=>gF v (by rw[Fi];exact xxl _ hv);rw[<- hA,<- hD];have fX:(Tryz.prog.info? 66).map (·.size)=some 2:=by kernel_rfl
 refine za (λhg=>?_) (λhg=>?_)
 ·
  have Tz:cap=n:=by omega
  subst Tz;refine⟨_,cap,cap,0,i,cap,rfl,rfl,⟨_,rfl⟩,rfl,by omega,by omega,by omega,?_⟩;rw[zzb (show ¬cap=0 by omega)];simp only[yyh,yyd,uuj,xxn,wwv];refine Gp ?_;rw[show (((cap+1:Nat):Int)-(i:Int))=((cap+1-i:Nat):Int) by omega];cases hq:Tryz.prog.info? 66 with
  | none=>rw[hq]at fX;cases fX
  | some ti=>
   have hI:=Tryz.bXx;rw[hq]at hI
   have hZ:=Tryz.cMz;rw[hq]at hZ
   simp only[yyh,tta,wwi]at hI hZ;obtain⟨_,h2,h3⟩:=hI;have hold:(Builtin.firstCells ti.size i (.slice (some ⟨b,0,none⟩) i cap)).run Tryz.prog w.drew= .ok A.toArray w.drew:=by
    have hl:=ww9 (P:=Tryz.prog) w.drew ⟨b,0,none⟩ A λj u hj=>by
     rw[yyd,yye];refine hS.drew.cell .hd ?_;rw[Fi,zzk,zzs (zzf.1 hj).1];exact hj
    rw[su]at hl
    rw[h2];simp[Builtin.firstCells,hl]
   have pf:Builtin.nextslicecap (i+(cap+1-i)) cap*ti.bytes<=281474976710656:=growslice_fits (by omega) (by rw[h3];omega);have xM:=Go.Lib.run_append_grow_zeros (P:=Tryz.prog) w 67 3 67 66 ti _ .i64 .i64 wwa yyc hq hZ (some ⟨b,0,none⟩) i cap A hold (cap+1-i) (by omega) (by omega) (by omega) (by omega) (by rw[h3];omega) pf;refine⟨_,_,xM,?_⟩;generalize TA:grownCap w (i+(cap+1-i)) cap 66=cp;have xx:cap+1<=cp:=by
    have:=grownCap_ge w (i+(cap+1-i)) cap 66;omega
   have hz:∀k,Builtin.zeroCells (Value.cells (.agg #[Γ 0,.string ⟨#[]⟩])) k=(cK [Γ 0,.string ⟨#[]⟩] k).toArray:=λk=>by
    rw[<- La (Value.cells (.agg #[Γ 0,.string ⟨#[]⟩])) [Γ 0,.string ⟨#[]⟩] rfl k,Array.toArray_toList]
   rw[hz,hz];obtain⟨E,hE⟩:∃E:Ξ,E=cK [Γ 0,.string ⟨#[]⟩] (cap+1-i)++cK [Γ 0,.string ⟨#[]⟩] (cp-(i+(cap+1-i))):=⟨_,rfl⟩;have hEl:E.length=(cp-i)*2:=by rw[hE,zza,lV,lV];simp;omega
   have e2:A.toArray++(cK [Γ 0,.string ⟨#[]⟩] (cap+1-i)).toArray++(cK [Γ 0,.string ⟨#[]⟩] (cp-(i+(cap+1-i)))).toArray=(A++E).toArray:=by rw[hE];simp
   rw[e2];have hS:=SL.new (cs:=A++E) (t:=66) hS.drew;clear xM hold hz e2 hE;have FH:w.heap.size=w.drew.heap.size:=rfl;rw[FH];generalize w.drew.heap.size=nb at *
   generalize (w.drew.alloc (.cells (A++E).toArray 66))=w at *
   have ei:i+(cap+1-i)=cap+1:=by omega
   rw[ei];refine⟨_,cap+1,cp,i,cap+1,cp,rfl,rfl,rfl,⟨_,rfl⟩,by omega,xx,zzj _,?_⟩;rw[zzb (show ¬cp=i by omega)];simp only[yyh,yyd,yye];have e3:=Ko A E x;rw[su]at e3
   refine Y0 (tt:=66) (l':=.pt nb (A++x++E.drop x.length) 66::.pt b (cells++rest) 66::.ob (lX vb x 66)::F) hS wwa fX (m:=1) (sz:=2) (xxu (by omega)) (by omega) (gU hS Xh) (by rw[e3];exact gh.hd) (by rw[zza];omega) nQ ?_;clear hS e3;intro _ w hS;refine Gn λw hS=>?_;refine⟨_,cap+1,cp,i+1,cap+1,cp,rfl,rfl,rfl,⟨_,rfl⟩,by omega,xx,zzj _,?_⟩;rw[zzb (show ¬cp=i+1 by omega)];refine⟨_,cap,cap,i,cap,cap,rfl,rfl,rfl,⟨_,rfl⟩,by omega,zzj _,zzj _,?_⟩;rw[zzb (show ¬cap=i by omega)];simp only[yyh,yyd,yye];have e4:=Ko (A++x) (E.drop x.length) D;have e5:(A++x).length=(i+1)*2:=by rw[zza];omega
   rw[e5]at e4
   have Tc:(E.drop x.length).length=E.length-2:=by rw[zzq,hx]
   refine Y0 (tt:=66) (l':=.pt nb (A++x++D++(E.drop x.length).drop D.length) 66::.pt b (cells++rest) 66::.ob (lX vb x 66)::F) hS wwa fX (m:=cap-i) (sz:=2) (xxu (by omega)) E_ (λj u hj=>?_) (by rw[e4];exact gh.hd) (by rw[zza,e5,Tc];omega) Tb ?_
   ·rw[yyd];refine hS.cell (.tl .hd) ?_;rw[Fi,zzk,yyb (by omega),su,wwf,zzs (zzf.1 hj).1];exact hj
   clear hS e4;intro _ w hS;refine⟨_,rfl,SL.b_ (bR.mk (sz:=2) (n:=cap+1) (cap:=cp) (cells:=A++x++D) (rest:=(E.drop x.length).drop D.length) xx ?_ ?_ hS) Xi⟩
   ·rw[zza,e5];omega
   rw[zzq,Tc];omega

 have Bd:n+1<=cap:=by omega
 clear hg;have uJ:2<=rest.length:=by rw[jP];omega
 refine Gp ?_;refine⟨_,n,cap,0,n+1,cap,rfl,rfl,⟨_,rfl⟩,rfl,by omega,by omega,by omega,?_⟩;rw[zzb (show ¬cap=0 by omega)];simp only[yyh,yyd,uuj,xxn,wwv];refine Gp ?_;refine⟨_,n+1,cap,i+1,n+1,cap,rfl,rfl,rfl,⟨_,rfl⟩,by omega,by omega,by omega,?_⟩;rw[zzb (show ¬cap=i+1 by omega)];simp only[yyh,yyd,yye];refine cn9 hS Xh Xh hvb (by rw[zza];omega) ?_;refine⟨_,rfl,?_⟩;refine zq ?_;refine Gn λw hS=>?_;refine⟨_,n+1,cap,i+1,n+1,cap,rfl,rfl,rfl,⟨_,rfl⟩,by omega,by omega,by omega,?_⟩;rw[zzb (show ¬cap=i+1 by omega)];refine⟨_,n+1,cap,i,n+1,cap,rfl,rfl,rfl,⟨_,rfl⟩,by omega,by omega,by omega,?_⟩;rw[zzb (show ¬cap=i by omega)];simp only[yyh,yyd,yye];obtain⟨E,hE⟩:∃E,E=D++rest:=⟨_,rfl⟩;have hEl:E.length=(cap-i)*2:=by rw[hE,zza];omega
 have hAE:cells++rest=A++E:=by rw[Fi,hE,zzk]
 rw[hAE]at hS
 have e3:=cw5 A E D 2 (by omega);rw[su,show i*2+2=(i+1)*2 by omega]at e3
 refine Y0 (tt:=66) (l':=.pt b (A++(E.take 2++D++E.drop (2+D.length))) 66::.ob (lX vb x 66)::F) hS wwa fX (m:=n-i) (sz:=2) (by simp only[Nat.min_def];split<;>omega) E_ (λj u hj=>?_) (by rw[e3];exact gh.hd) (by rw[zza];omega) Tb ?_
 ·rw[yyd];refine hS.cell .hd ?_;rw[yyb (by omega),su,wwf,hE,zzs (zzf.1 hj).1];exact hj
 clear hS e3;intro _ w hS;refine⟨_,n+1,cap,i,n+1,cap,rfl,rfl,rfl,⟨_,rfl⟩,by omega,by omega,by omega,?_⟩;rw[zzb (show ¬cap=i by omega)];simp only[yyh,yyd,yye];have e4:=Ko A (E.take 2++D++E.drop (2+D.length)) x;rw[su,hx]at e4
 have FM:(E.take 2).length=2:=by rw[zzg];omega
 have e5:(E.take 2++D++E.drop (2+D.length)).drop 2=D++E.drop (2+D.length):=by
  rw[zzk];have:=wwz (l₁:=E.take 2) (l₂:=D++E.drop (2+D.length))
  rwa [FM]at this
 rw[e5]at e4
 refine Y0 (tt:=66) (l':=.pt b (A++x++(D++E.drop (2+D.length))) 66::.ob (lX vb x 66)::F) hS wwa fX (m:=1) (sz:=2) (xxu (by omega)) (by omega) (gU hS Xh) (by rw[hx,e4];exact gh.hd) (by rw[zza,zza,zza,FM,zzq];omega) nQ ?_;clear hS e4 e5;intro _ w hS;rw[<- zzk (A++x)]at hS
 refine⟨_,rfl,SL.b_ (bR.mk (sz:=2) (n:=n+1) (cap:=cap) (cells:=A++x++D) (rest:=E.drop (2+D.length)) Bd ?_ ?_ hS) Xi⟩
 ·rw[zza,zza];omega
 rw[zzq];omega
abbrev cG(b:Nat):Ε:=Δ b
def cAt{W w:Ζ}{l:Β}{α:Type}{enc:α->Ξ}{v u:Ε}{t:Ι}{sz j i:Nat}{k:IntKind}{xs:List α}{y:α}{K:Ζ->Prop}(hS:SL W (.ob (bR v t sz xs.length (xs.map enc).flatten)::l) w)(hn:∀x,(enc x).length=sz)
  (hj:j<xs.length) (hi:i<sz) (hy:(enc xs[j]).set i u=enc y) (h1:u.oneCell'=true) (hK:∀w',SL W (.ob (bR v t sz (xs.set j y).length ((xs.set j y).map enc).flatten)::l) w'->K w'):zk sz v (.int k (j:Int)) λp=>zl i p λq=>eH q u w K:=by
 rcases bR.open hS with ⟨_,h0,_⟩|⟨b,cap,rest,rfl,hc,hlen,jP,hS⟩
 ·omega
 have de:j*sz+i<xs.length*sz:=by
  have:(j+1)*sz<=xs.length*sz:=yyy _ hj;rw[yyx]at this;omega
 refine zF hj (yK ?_);rw[yye];refine Zz hS .hd (zzc (by rw[zza];omega)) h1 λw' hS=>hK w' ?_;rw[wwy _ _ (by omega),Ii hn xs j i hj y u hi hy]at hS
 have hl:(xs.set j y).length=xs.length:=yyj;rw[hl];refine bR.mk hc ?_ jP hS;rw[oV hn,hl]
def cAy{W w:Ζ}{l:Β}{v:Ε}{t:Ι}{sz n k:Nat}{kk:IntKind}{cells:Ξ}{K:Ε->Prop}(h:SL W l w)(mm:Has (.ob (bR v t sz n cells)) l)(hk:k<=n)
  (hK:∀A c,n-k<=c->(∀m c' w' l',m<=n-k->SL W l' w'->Has (.ob (bR v t sz n cells)) l'->kJ w' sz (.slice A m c') m ((cells.drop (k*sz)).take (m*sz)))->K (.slice A (n-k) c)):fp sz v (some (.int kk (k:Int))) none none K:=by
 obtain⟨a,cap,rfl,hl,_⟩:=bR.at h mm;have o_:n<=cap:=by
  obtain⟨l2,r⟩:=mm.rem;rcases bR.open (h.perm r.perm) with ⟨⟨a',e⟩,rfl,rfl,_⟩|⟨b,Ez,rest,e,hc,_⟩
  ·cases e;omega
  cases e;exact hc
 refine⟨a,n,cap,k,n,cap,rfl,rfl,rfl,⟨kk,rfl⟩,hk,o_,zzj _,hK _ _ (by omega) λm c' w' l' hm h' m'=>?_⟩;obtain⟨a',Ez,e,_,hx⟩:=bR.at h' m';cases e;have pd:((cells.drop (k*sz)).take (m*sz)).length=m*sz:=by
  have:(k+m)*sz<=n*sz:=yyy _ (by omega);rw[yyx]at this
  rw[zzg,zzq,hl];omega
 rcases yyu m with rfl|T2
 ·have:(cells.drop (k*sz)).take (0*sz)=[]:=by simp
  rw[this];generalize (if cap=k then a else a.map (·.add (k*sz)))=A;cases A with
  | none=>exact⟨rfl,rfl⟩
  | some p=>exact⟨rfl,by simp,λj v e=>by simp at e⟩
 obtain⟨b,rfl,h3⟩:=hx 0 (by omega);rw[zzb (show ¬cap=k by omega)];refine⟨rfl,pd,λj v e=>?_⟩;show w'.cell? (((⟨b,0,none⟩:Addr).add (k*sz)).add j)=some v;rw[yyd,yyd];refine h3 _ v ?_;rw[uud]at e
 split at e
 ·rw[wws]at e
  rw[yye];exact e
 cases e
abbrev fH(v:Ε)(l:List Row):Μ:=.ob (bR v 66 2 l.length (l.map eh).flatten)
def SN{z v:Ε}(h:v.oneCell'=true):iz (cK [z] 1) [(0,1,v)]=some [v]:=by simp[iz,cK,By h]
def vo(r:Row):∀v∈eh r,v.oneCell'=true:=by simp[eh,Value.oneCell']
def EN(k:Int)(v:Η):eh ⟨k,v⟩=[Γ k,.string v]:=rfl
def ez(x:Nat × List Row):zB:=jK λv:Ε=>zG True [.pt x.1 [v] 305,fH v x.2]
def ez.iff{W w:Ζ}{b:Nat}{C:List Row}{l:Β}:SL W (.ob (ez (b,C))::l) w↔∃v,SL W (.pt b [v] 305::fH v C::l) w:=by
 unfold ez;simp only[SL.ex,SL.fact,zzv,zzr,uut]
def ez.put{W w:Ζ}{b:Nat}{C:List Row}{v:Ε}{l F:Β}(hS:SL W l w)(p:gC [.pt b [v] 305,fH v C] l F):SL W (.ob (ez (b,C))::F) w:=ez.iff.2 ⟨v,hS.pick p⟩
def qD(a:Int):SP 304 [Γ a] [] (cE (.bool false) []):=by
 refine Enzz λW F w hS=>?_;apply XU;unfold G9;refine Gp ?_;rw[show decide (a≠a)=false by simp];(exact cC hS)
def pG(a b:Int):Int:=if a<b then -1 else if b<a then 1 else 0
def RN{a b:Int}:pG a b<0↔a<b:=by unfold pG;split<;>(try split)<;>omega
def aWs{a b:Int}:pG a b=0↔a=b:=by unfold pG;split<;>(try split)<;>omega
def aWu(a b:Int):SP 246 [Γ a,Γ b] [] (cE (Γ (pG a b)) []):=by
 refine Enzz λW F w hS=>?_;apply XS;delta G7 aI ai;refine Cg (qD a) λw hS=>?_;refine Cg (qD b) λw hS=>?_;refine za (λh=>?_) (λh=>?_)
 ·rw[show pG a b = -1 by unfold pG;rw[zzd h]];(exact cC hS)
 refine bZ (λh2=>?_) (λh2=>?_)
 ·rw[show pG a b=1 by unfold pG;rw[zzb h,zzd h2]];(exact cC hS)
 rw[show pG a b=0 by unfold pG;rw[zzb h,zzb h2]];(exact cC hS)
def Ys(r:Row)(key:Int):SP 332 [agg (eh r),Γ key] [] (cE (Γ (pG r.key key)) []):=by
 obtain⟨rk,rv⟩:=r;refine Enzz λW F w hS=>?_;apply cJu;delta OQ a_;refine zw hS λxb w hS=>?_;rw[EN]at hS
 refine Gp ?_;refine Cg (aWu rk key) λw hS=>?_;(exact cC hS)
def cAd{i j:Nat}{K:Ε->Prop}(h:i+j<=1000000000)(k:K (Γ (((i+j) / 2:Nat):Int))):zc .add (Γ i) (Γ j) λa=>zK .u64 a λb=>zc .shr b (.int .u64 1) λc=>zK .i64 c K:=by
 refine Zy (by omega) (zW ?_);rw[ww7,show ((i+j:Nat):Int) % 18446744073709551616=((i+j:Nat):Int) by omega];have e:((i+j:Nat):Int).fdiv (2 ^ (min (1:Int).toNat IntKind.u64.bits))=(((i+j) / 2:Nat):Int):=by
  rw[show (min (1:Int).toNat IntKind.u64.bits)=1 by decide,vvy _ (by decide)];omega
 refine⟨_,by simp only[jA];rw[zzb (by decide)],?_⟩;rw[e];exact yy (by omega) k
def aRl(v:Ε)(C:List Row)(key:Int)(hs:gg C)(hn:C.length<=1000000):
  SP 331 [v,Γ key,.func (.func 332) #[] #[]] [fH v C] (λu post=>∃i,AtR C key i/\u= .tuple #[Γ (i:Nat),.bool (lN C key i)]/\post=[fH v C]):=by
 refine Enzz λW F w hS=>?_;apply cJt;delta OP aI ai;refine zu hS Xh ?_;refine⟨λus w=>∃i j:Nat,us=[Γ i,Γ j]/\i<=j/\j<=C.length/\(∀k (h:k<C.length),k<i->C[k].key<key)/\(∀h:j<C.length,key<=C[j].key)/\SL W (fH v C::F) w,
  λus _=>match us with|[.int _ i,.int _ j]=>(j-i).toNat|_=>0,⟨0,C.length,rfl,by omega,by omega,λk h hk=>by omega,λh=>by omega,hS⟩,?_⟩
 clear hS;rintro v9 v10 w ⟨i,j,cP,sD,hj,TZ,Fy,hS⟩;cases cP;refine DU ?_;refine za (λh=>?_) (λh=>?_)
 ·refine cAd (by omega) ?_;generalize hm:(i+j) / 2=m;have nO:i<=m/\m<j:=by omega
  clear hm;have mg:m<C.length:=by omega
  refine zT hS Xh jk (x:=C[m]) (by simp[mg]) mg ?_;refine⟨332,#[],#[],rfl,by decide,?_⟩;refine Cg (Ys C[m] key) λw hS=>?_;refine za (λh1=>?_) (λh1=>?_)
  ·have h1:=RN.1 h1;refine Gp ?_;refine⟨⟨m+1,j,rfl,by omega,hj,λk hk hkm=>?_,Fy,hS⟩,by dsimp only;omega⟩;rcases xx4 k m with h2|h2
   ·have:=xxr.1 hs k m hk mg h2;omega
   obtain rfl:k=m:=by omega
   exact h1
  have h1:¬C[m].key<key:=λh2=>h1 (RN.2 h2);exact⟨⟨i,m,rfl,nO.1,by omega,TZ,λ_=>by omega,hS⟩,by dsimp only;omega⟩
 obtain rfl:i=j:=by omega
 have hA:AtR C key i:=⟨hj,TZ,Fy⟩;refine bZ (λh1=>?_) (λh1=>?_)
 ·have cz:i<C.length:=by omega
  refine zT hS Xh jk (x:=C[i]) (by simp[cz]) cz ?_;refine⟨332,#[],#[],rfl,by decide,?_⟩;refine Cg (Ys C[i] key) λw hS=>?_;have e:decide (pG C[i].key key=0)=lN C key i:=by
   unfold lN;rw[yyi,aWs];exact⟨λh=>⟨cz,h⟩,λ⟨_,h⟩=>h⟩
  rw[e];exact⟨_,⟨i,hA,rfl,rfl⟩,hS⟩
 have e:lN C key i=false:=zz2 λ⟨h,_⟩=>h1 (by omega);rw[<- e];exact⟨_,⟨i,hA,rfl,rfl⟩,hS⟩
def qt(v:Ε)(n i:Nat)(cells:Ξ)(hi:i<n)(gF:∀v∈cells,v.oneCell'=true)(hb:n*24<=140737488355328)(hn:n<=140737488355328):
  SP 335 [v,Γ (i:Int),Γ ((i+1:Nat):Int)] [.ob (bR v 66 2 n cells)] (λu post=>post=[.ob (bR u 66 2 (n-1) (cells.take (i*2)++cells.drop ((i+1)*2)))]):=
 HT (z:=[Γ 0,.string ⟨#[]⟩]) (zv:=.agg #[Γ 0,.string ⟨#[]⟩]) (λv0 v1 v2 w R h=>cJx v0 v1 v2 w R h) wwa (λw=>by kernel_rfl) rfl rfl (by simp[Value.oneCell']) v n i cells hi gF hb hn
def RJ(v:Ε)(C:List Row)(hn:C.length<=1000000):SP 103 [v] [fH v C] (λu post=>post=[fH u C,fH v C]):=
 aWp (λv0 w R h=>K2 v0 w R h) rfl (by decide) (tR vo C) (oV jk C) (by omega) (by omega)
section
variable (b:Nat) (C:List Row) (key:Int) (hs:gg C) (hn:C.length<=1000000)
include hs hn
def yM(v:Ε):SP 282 [cG b,Γ key] [.pt b [v] 305,fH v C] (λu post=>∃i,AtR C key i/\u= .tuple #[Γ (i:Nat),.bool (lN C key i)]/\post=[.pt b [v] 305,fH v C]):=by
 refine Enzz λW F w hS=>?_;apply cIp;delta N_ bU;refine Gp ?_;refine Cc (aRl v C key hs hn) ?_;clear hS;rintro u post ⟨i,hA,rfl,rfl⟩ w hS;(try simp only[app]at hS);refine Gp ?_
 exact⟨_,⟨i,hA,rfl,rfl⟩,aW hS⟩
def YB(val:Η):SP 268 [cG b,Γ key,.string val] [.ob (ez (b,C))] (λu post=>(∃q,u= .bool q)/\post=[.ob (ez (b,gV C ⟨key,val⟩))]):=by
 refine Enzz λW F w hS=>?_;apply cIa;delta NW bU cV bY ai cQ;obtain⟨v,hS⟩:=ez.iff.1 hS;refine Cc (yM b C key hs hn v) ?_;clear hS;rintro u post ⟨i,hA,rfl,rfl⟩ w hS;(try simp only[app]at hS);refine Gp ?_
 have hi:=hA.ins val;have hle:=hA.le;cases hk:lN C key i with
 | true=>
  rw[hk,zzd rfl]at hi
  obtain⟨cz,_⟩:=zzp hk;refine zq ?_;refine Gp ?_;refine cAt (enc:=eh) (y:=⟨key,val⟩) (Has.front hS (l2:=.pt b [v] 305::F) Xr) jk cz (by decide) ?_ rfl λw hS=>?_
  ·obtain⟨_,e⟩:=zzp hk;rw[<- e];rfl
  rw[hi];exact⟨_,⟨⟨_,rfl⟩,rfl⟩,ez.iff.2 ⟨v,aW hS⟩⟩
 | false=>
  rw[hk,zzb (by decide)]at hi
  refine zp ?_;(repeat refine Gp ?_)
  refine czx hS (SM (cs:=eh ⟨key,val⟩) rfl rfl) λvb w hS=>?_;refine Cc (qz v C.length i vb (C.map eh).flatten (eh ⟨key,val⟩) hle rfl (tR vo _) (vo _) hn) ?_;clear hS;rintro u post rfl w hS;try simp only[app]at hS
  have h1:=bR.one hS;refine Gn λw hS=>?_;have e:((C.map eh).flatten.take (i*2)++eh ⟨key,val⟩++(C.map eh).flatten.drop (i*2))=((gV C ⟨key,val⟩).map eh).flatten:=by
   rw[hi,uo jk,vr jk];simp
  have hl:C.length+1=(gV C ⟨key,val⟩).length:=by rw[hi];simp;omega
  rw[e,hl]at hS
  exact⟨_,⟨⟨_,rfl⟩,rfl⟩,ez.iff.2 ⟨u,aW hS⟩⟩
def bXj:SP 290 [cG b,Γ key] [.ob (ez (b,C))] (λu post=>(∃q,u= .bool q)/\post=[.ob (ez (b,jW C key))]):=by
 refine Enzz λW F w hS=>?_;apply cIx;delta Oh bU cV ai;obtain⟨v,hS⟩:=ez.iff.1 hS;refine Cc (yM b C key hs hn v) ?_;clear hS;rintro u post ⟨i,hA,rfl,rfl⟩ w hS;(try simp only[app]at hS);refine Gp ?_
 have hi:=hA.del hs;have hle:=hA.le;cases hk:lN C key i with
 | true=>
  rw[hk,zzd rfl]at hi
  obtain⟨cz,_⟩:=zzp hk;refine zq ?_;refine Gp ?_;refine Cc (qt v C.length i (C.map eh).flatten cz (tR vo _) (by omega) (by omega)) ?_;clear hS;rintro u post rfl w hS;try simp only[app]at hS
  have h1:=bR.one hS;refine Gn λw hS=>?_;have e:((C.map eh).flatten.take (i*2)++(C.map eh).flatten.drop ((i+1)*2))=((jW C key).map eh).flatten:=by
   rw[hi,uo jk,vr jk];simp
  have hl:C.length-1=(jW C key).length:=by rw[hi,zza,zzg,zzq];omega
  rw[e,hl]at hS
  exact⟨_,⟨⟨_,rfl⟩,rfl⟩,ez.iff.2 ⟨u,aW hS⟩⟩
 | false=>
  rw[hk,zzb (by decide)]at hi
  refine zp ?_;rw[hi];exact⟨_,⟨⟨_,rfl⟩,rfl⟩,ez.iff.2 ⟨v,aW hS⟩⟩
def S0(o:Option Η):Ε:=.tuple #[.string (o.getD emp),.bool o.isSome]
def bXo:SP 214 [cG b,Γ key] [.ob (ez (b,C))] (cE (S0 (eZ C key)) [.ob (ez (b,C))]):=by
 refine Enzz λW F w hS=>?_;apply cG7;delta Nh bU a_ cL;obtain⟨v,hS⟩:=ez.iff.1 hS;refine Cc (yM b C key hs hn v) ?_;clear hS;rintro u post ⟨i,hA,rfl,rfl⟩ w hS;(try simp only[app]at hS);refine Gp ?_
 obtain⟨C3,uC⟩:=hA.get hs;cases hk:lN C key i with
 | true=>
  obtain⟨cz,e⟩:=zzp hk;refine zp ?_;refine Gp ?_;refine yi hS Xh jk (x:=C[i]) (by simp[cz]) cz (i:=1) rfl ?_;rw[uC cz e];exact⟨_,⟨rfl,rfl⟩,ez.iff.2 ⟨v,aW hS⟩⟩
 | false=>
  refine zq ?_;have e:eZ C key=none:=by
   rw[hk]at C3
   cases hg:eZ C key with
   | none=>rfl
   | some x=>rw[hg]at C3;cases C3
  rw[e];exact⟨_,⟨rfl,rfl⟩,ez.iff.2 ⟨v,aW hS⟩⟩
def qx(n:Int)(h1 : -1000000<=n)(h2:n<=9000000000000000000):SP 298 [cG b,Γ key,Γ n] [.ob (ez (b,C))] (λu post=>post=[fH u (od C key n),.ob (ez (b,C))]):=by
 refine Enzz λW F w hS=>?_;apply cI5;delta Ot bU ai;obtain⟨v,hS⟩:=ez.iff.1 hS;refine Cc (yM b C key hs hn v) ?_;clear hS;rintro u post ⟨i,hA,rfl,rfl⟩ w hS;(try simp only[app]at hS);refine Gp ?_
 have ha:=hA.after hs n;have hle:=hA.le;obtain⟨k,hk⟩:∃k,k=if lN C key i=true then i+1 else i:=⟨_,rfl⟩
 rw[<- hk]at ha
 have mf:k<=C.length:=by
  rw[hk];split
  ·rename_i h;obtain⟨cz,_⟩:=zzp h;omega
  exact hle
 refine⟨λus w=>us=[Γ (k:Nat)]/\SL W (.pt b [v] 305::fH v C::F) w,?_,?_⟩
 ·cases hq:lN C key i with
  | true=>
   refine zq ?_;refine Gp ?_;exact⟨by rw[hk,hq,zzd rfl],aW hS⟩
  | false=>
   refine zp ?_;exact⟨by rw[hk,hq,zzb (by decide)],aW hS⟩
 clear hS;rintro v7 w ⟨cP,hS⟩;cases cP;refine Gp ?_;refine cAy hS Xh mf λA c hc gU=>?_;refine Gp ?_;obtain⟨m,hm⟩:∃m,m=min n.toNat (C.length-k):=⟨_,rfl⟩;have em:max (min n ((C.length-k:Nat):Int)) 0=((m:Nat):Int):=by omega
 rw[em];refine⟨A,C.length-k,c,0,m,c,rfl,rfl,⟨_,rfl⟩,rfl,zz9 _,by omega,zzj _,?_⟩;have eA:(if c=0 then A else A.map (·.add (0*2)))=A:=by
  split
  ·rfl
  cases A<;>simp[Addr.add]
 rw[eA,wwv,wwv];have ecs:((C.map eh).flatten.drop (k*2)).take (m*2)=((od C key n).map eh).flatten:=by
  rw[vr jk,uo jk,ha];congr 2;rcases xx4 n.toNat (C.length-k) with h|h
  ·congr 1;omega
  rw[zz6 (by rw[zzq];omega),zz6 (by rw[zzq];omega)]
 have el:m=(od C key n).length:=by rw[ha,zzg,zzq];omega
 have Jq:∀v0 w R,Cb 2 24 [Γ 0,.string ⟨#[]⟩] 66 66 v0 w R->aF 103 [v0] w R:=λv0 w R h=>K2 v0 w R h;refine Jq _ _ _ (HI (sz:=2) (hU:=24) (z:=[Γ 0,.string ⟨#[]⟩]) (t:=66) (ts:=66) (n:=m) (cs:=((od C key n).map eh).flatten) ⟨A,c,rfl⟩ (λw' d h=>?_) (by rw[oV jk,<- el]) rfl (by decide) (tR vo _) (by omega) (by omega) hS λu w hS=>?_)
 ·rw[<- ecs];exact gU m c w' _ (by omega) h (.tl Xh)
 rw[el]at hS
 exact⟨_,rfl,SL.b_ (ez.put hS Xp) Xi⟩
end
def bXh(b:Nat)(C:List Row)(hn:C.length<=1000000):SP 135 [cG b] [.ob (ez (b,C))] (λu post=>post=[fH u C,.ob (ez (b,C))]):=by
 refine Enzz λW F w hS=>?_;apply cE1;delta LV bU;obtain⟨v,hS⟩:=ez.iff.1 hS;refine Gp ?_;refine Cc (RJ v C hn) ?_;clear hS;rintro u post rfl w hS;try simp only[app]at hS
 exact⟨_,rfl,SL.b_ (ez.put hS Xp) Xi⟩
def Yz(b:Nat)(C:List Row):SP 186 [cG b] [.ob (ez (b,C))] (cE (Γ (C.length:Nat)) [.ob (ez (b,C))]):=by
 refine Enzz λW F w hS=>?_;apply cGi;delta MQ bU;obtain⟨v,hS⟩:=ez.iff.1 hS;refine Gp ?_;refine zu hS Xh ?_;exact⟨_,⟨rfl,rfl⟩,ez.iff.2 ⟨v,aW hS⟩⟩
def YA(H:bw)(v:Ε)(l:List Row)(hv:dq H 2 v l.length (l.map eh).flatten)(hl:l.length<=100000):SP 194 [v] [.mem H] (λu post=>∃b,u=cG b/\post=[.ob (ez (b,nW [] l)),.mem H]):=by
 refine Enzz λW F w hS=>?_;apply cGn;delta MW aI a_ ai cQ bI;refine Gp ?_;refine zw hS λxb w hS=>?_;have hS:SL W (fH Θ []::_) _:=bR.nil hS;have hS:SL W (.ob (ez (xb,[]))::.mem H::F) _:=ez.iff.2 ⟨_,aW hS⟩;refine zo hv ?_;refine⟨λus w=>∃i:Nat,us=[Γ i]/\i<=l.length/\SL W (.ob (ez (xb,nW [] (l.take i)))::.mem H::F) w,λus _=>match us with|[.int _ i]=>(l.length-i).toNat|_=>0,⟨0,rfl,by omega,hS⟩,?_⟩;clear hS;rintro v10 w ⟨i,cP,hi,hS⟩;cases cP;refine bZ (λh=>?_) (λh=>?_)
 ·have cz:i<l.length:=by omega
  have hp:=cw3 cz [];have fS:=Wp (l.take i) (C:=[]) List.Pairwise.nil;have A6:=Wo (l.take i) [];rw[zzg,yym]at A6
  refine zD hS Xh jk hv (x:=l[i]) (by simp[cz]) cz ?_;generalize l[i]=r at *
  have hP:(nW [] (l.take i)).length<=1000000:=by omega
  clear A6;generalize nW [] (l.take i)=P at *
  obtain⟨rk,rv⟩:=r;rw[EN];refine Gm λb w hS=>?_;refine Cc (YB xb P rk fS hP rv) ?_;clear hS;rintro u post ⟨⟨q,rfl⟩,rfl⟩ w hS;(try simp only[app]at hS);refine Gp ?_
  rw[<- hp]at hS
  exact⟨⟨i+1,rfl,by omega,aW hS⟩,by dsimp only;omega⟩
 obtain rfl:i=l.length:=by omega
 rw[zz4]at hS
 exact⟨_,⟨xb,rfl,rfl⟩,aW hS⟩
def sm(p:Nat × List Row):Ξ:=[cG p.1]
def vn(p:Nat × List Row):(sm p).length=1:=rfl
abbrev jx(v:Ε)(L:List (Nat × List Row)):Μ:=.ob (bR v 238 1 L.length (L.map sm).flatten)
def dN(sp:Nat)(ts:List (List Row)):zB:=jK λx:Ε × List (Nat × List Row)=>zG (x.2.map Prod.snd=ts) [.pt sp [x.1] 241,jx x.1 x.2,.ob (ze ez x.2)]
def dN.iff{W w:Ζ}{sp:Nat}{ts:List (List Row)}{l:Β}:SL W (.ob (dN sp ts)::l) w↔∃v L,L.map Prod.snd=ts/\SL W (.pt sp [v] 241::jx v L::.ob (ze ez L)::l) w:=by
 unfold dN;simp only[SL.ex,SL.fact,zzv,zzr];exact⟨λ⟨x,h1,h2⟩=>⟨x.1,x.2,h1,h2⟩,λ⟨v,L,h1,h2⟩=>⟨(v,L),h1,h2⟩⟩
def dN.put{W w:Ζ}{sp:Nat}{v:Ε}{L:List (Nat × List Row)}{ts:List (List Row)}{l F:Β}(hL:L.map Prod.snd=ts)(hS:SL W l w)(p:gC [.pt sp [v] 241,jx v L,.ob (ze ez L)] l F):SL W (.ob (dN sp ts)::F) w:=dN.iff.2 ⟨v,L,hL,hS.pick p⟩
def tU{L:List (Nat × List Row)}{ts:List (List Row)}(h:L.map Prod.snd=ts):L.length=ts.length:=by rw[<- h,zzn]
def Ab{L:List (Nat × List Row)}{ts:List (List Row)}(h:L.map Prod.snd=ts){i:Nat}(hi:i<ts.length):∃b,L[i]?=some (b,ts[i]):=by
 subst h;have hl:i<L.length:=by simpa using hi
 exact⟨L[i].1,by rw[zzc hl];simp⟩
def W8{L:List (Nat × List Row)}{ts:List (List Row)}(h:L.map Prod.snd=ts)(i:Nat)(b:Nat)(C:List Row):(L.set i (b,C)).map Prod.snd=ts.set i C:=by
 rw[<- h,vvo]
def one_set{L:List (Nat × List Row)}{i b:Nat}{C D:List Row}(h:L[i]?=some (b,C)):(L.set i (b,D)).map sm=L.map sm:=by
 refine xxw (by simp) λj h1 h2=>?_;simp only[zzn,yyj]at h1;rw[xx5,xx5,xxp];split
 ·rename_i e;subst e;rw[zzc h1]at h
  rw[wwc h];rfl
 rfl
def jx.set{W w:Ζ}{v:Ε}{L:List (Nat × List Row)}{i b:Nat}{C D:List Row}{l:Β}(h:L[i]?=some (b,C))(hS:SL W (jx v L::l) w):SL W (jx v (L.set i (b,D))::l) w:=by
 have e:=one_set (D:=D) h;have e2:(L.set i (b,D)).length=L.length:=yyj;unfold jx;rw[e,e2];exact hS
section
variable (sp:Nat) (ts:List (List Row))
def yr:SP 110 [cG sp] [.ob (dN sp ts)] (cE (Γ (ts.length:Nat)) [.ob (dN sp ts)]):=by
 refine Enzz λW F w hS=>?_;apply cEl;delta LD bU;obtain⟨v,L,hL,hS⟩:=dN.iff.1 hS;rw[<- tU hL];refine Gp ?_;refine zu hS Xh ?_;exact⟨_,⟨rfl,rfl⟩,SL.b_ (dN.put hL hS Xp) Xi⟩
def yt(t:Int):SP 134 [cG sp,Γ t] [.ob (dN sp ts)] (cE (.bool (decide (0<=t/\t<ts.length))) [.ob (dN sp ts)]):=by
 refine Enzz λW F w hS=>?_;apply cE0;delta LU aI bU bY ai;obtain⟨v,L,hL,hS⟩:=dN.iff.1 hS;have hl:=tU hL;refine bZ (λh=>?_) (λh=>?_)
 ·refine Gp ?_;refine zu hS Xh ?_;refine Gp ?_;rw[show decide (0<=t/\t<(ts.length:Int))=decide (t<(L.length:Int)) from yyi.2 ⟨λh=>by omega,λh=>by omega⟩];exact⟨_,⟨rfl,rfl⟩,SL.b_ (dN.put hL hS Xp) Xi⟩
 rw[show decide (0<=t/\t<(ts.length:Int))=false from zz2 λh=>by omega];exact⟨_,⟨rfl,rfl⟩,SL.b_ (dN.put hL hS Xp) Xi⟩
def DZ{ts:List (List Row)}{t:Int}(h:¬(0<=t/\t<ts.length)):ib ts t=[]:=by
 unfold ib;split
 ·rfl
 rw[yys (by omega)];rfl
def cDv(t:Int)(hn:∀C∈ts,C.length<=1000000):SP 84 [cG sp,Γ t] [.ob (dN sp ts)] (λu post=>post=[fH u (ib ts t),.ob (dN sp ts)]):=by
 refine Enzz λW F w hS=>?_;apply cLt;delta PV bU a_ cL bI;refine Cg (yt sp ts t) λw hS=>?_;refine zt (λh=>?_) (λh=>?_)
 ·rw[DZ (yy0 h)];exact⟨_,rfl,bR.nil hS⟩
 obtain⟨h0,h1⟩:=zzp h;obtain⟨t,rfl⟩:∃n:Nat,t=n:=⟨t.toNat,by omega⟩;have ht:t<ts.length:=by omega
 rw[nY ts t ht];obtain⟨v,L,hL,hS⟩:=dN.iff.1 hS;obtain⟨b,hb⟩:=Ab hL ht;have hl:=tU hL;refine Gp ?_;refine yi hS Xh vn hb (by omega) (i:=0) rfl ?_;have hS:=ze.take (SL.b_ hS (t:=.ob (ze ez L)::.pt sp [v] 241::jx v L::F) Xi) hb;refine Cc (bXh b ts[t] (hn _ (zzh ht))) ?_;clear hS;rintro u post rfl w hS;try simp only[app]at hS
 have hS:=ze.back (SL.b_ hS (t:=.ob (ez (b,ts[t]))::.ob (ze ez (L.eraseIdx t))::fH u ts[t]::.pt sp [v] 241::jx v L::F) Xi) hb;exact⟨_,rfl,SL.b_ (dN.put hL hS Xp) Xi⟩
def qV(t key n:Int)(hn:∀C∈ts,C.length<=1000000)(hs:∀C∈ts,gg C)(h1 : -1000000<=n)(h2:n<=9000000000000000000):SP 234 [cG sp,Γ t,Γ key,Γ n] [.ob (dN sp ts)] (λu post=>post=[fH u (od (ib ts t) key n),.ob (dN sp ts)]):=by
 refine Enzz λW F w hS=>?_;apply cHr;delta NC bU a_ cL bI;refine Cg (yt sp ts t) λw hS=>?_;refine zt (λh=>?_) (λh=>?_)
 ·rw[DZ (yy0 h),show od [] key n=[] by simp[od]];exact⟨_,rfl,bR.nil hS⟩
 obtain⟨h0,h3⟩:=zzp h;obtain⟨t,rfl⟩:∃n:Nat,t=n:=⟨t.toNat,by omega⟩;have ht:t<ts.length:=by omega
 rw[nY ts t ht];obtain⟨v,L,hL,hS⟩:=dN.iff.1 hS;obtain⟨b,hb⟩:=Ab hL ht;have hl:=tU hL;refine Gp ?_;refine yi hS Xh vn hb (by omega) (i:=0) rfl ?_;have hS:=ze.take (SL.b_ hS (t:=.ob (ze ez L)::.pt sp [v] 241::jx v L::F) Xi) hb;refine Cc (qx b ts[t] key (hs _ (zzh ht)) (hn _ (zzh ht)) n h1 h2) ?_;clear hS;rintro u post rfl w hS;try simp only[app]at hS
 have hS:=ze.back (SL.b_ hS (t:=.ob (ez (b,ts[t]))::.ob (ze ez (L.eraseIdx t))::fH u (od ts[t] key n)::.pt sp [v] 241::jx v L::F) Xi) hb;exact⟨_,rfl,SL.b_ (dN.put hL hS Xp) Xi⟩
end
def B8(n:Int)(u:Ε)(post:Β):Prop:=if n<1\/8<n then u= .tuple #[.pointer none,Γ 1]/\post=[] else ∃sp,u= .tuple #[cG sp,Γ 0]/\post=[.ob (dN sp (List.replicate n.toNat []))]
def Q5(n:Int):SP 137 [Γ n] [] (B8 n):=by
 refine Enzz λW F w hS=>?_;apply cE3;delta LX aI cV aR bV ai cT bI;refine Gp ?_;refine za (λh=>⟨[],by unfold B8;rw[zzd (.inl h)];exact⟨rfl,rfl⟩,hS⟩) (λh1=>?_);refine Gp ?_;refine za (λh=>⟨[],by unfold B8;rw[zzd (.inr h)];exact⟨rfl,rfl⟩,hS⟩) (λh2=>?_);refine Gp ?_;refine zw hS λsp w hS=>?_;have hS:SL W (jx Θ []::_) _:=bR.nil hS;have hS:SL W (.ob (ze ez [])::_) _:=ze.nil hS;refine⟨λus w=>∃(i:Nat) (v:Ε) (L:List (Nat × List Row)),us=[Γ i]/\i<=n/\L.map Prod.snd=List.replicate i []/\SL W (.pt sp [v] 241::jx v L::.ob (ze ez L)::F) w,
  λus _=>match us with|[.int _ i]=>(n-i).toNat|_=>0,⟨0,_,[],rfl,by omega,rfl,aW hS⟩,?_⟩
 clear hS;rintro KY w ⟨i,v,L,cP,hi,hL,hS⟩;cases cP;have hl:=tU hL;rw[xxm]at hl
 refine bZ (λh=>?_) (λh=>?_)
 ·refine Gn λw hS=>?_;have hS:=SL.JT hS;refine Cc (YA bw.emp Θ [] (dq.nil _ _) (by decide)) ?_;clear hS;rintro u post ⟨xb,rfl,rfl⟩ w hS;refine Gm λb w hS=>?_;refine yx (n:=L.length) (xs:=L) (y:=(xb,[])) (enc:=sm) hS Xr Xh vn (λx=>by simp[sm,Value.oneCell']) rfl (by omega) (by omega) λu w hS=>?_;have rF:=bR.one hS;refine Gn λw hS=>?_;refine⟨⟨i+1,u,L++[(xb,[])],rfl,by omega,by rw[zzt,hL,List.replicate_succ'];rfl,?_⟩,by dsimp only;omega⟩;have hS:=hS.p8 (x:=(xb,([]:List Row)));rw[show nW [] []=[] from rfl]at hS
  have hS:=ze.snoc (SL.b_ hS (t:=.ob (ze ez L)::.ob (ez (xb,[]))::.pt sp [u] 241::jx u (L++[(xb,[])])::F) Xi);exact aW hS
 refine⟨[.ob (dN sp (List.replicate n.toNat []))],?_,SL.b_ (dN.put (ts:=List.replicate n.toNat []) (by rw[hL];congr 1;omega) hS Xp) Xi⟩;unfold B8;rw[zzb (by omega)];exact⟨sp,rfl,rfl⟩
def aId{ts:List (List Row)}(h:∀C∈ts,gg C){c:ep}(ht:ij ts.length c=true):∀C∈kr ts c,gg C:=λC hC=>by
 rcases JU hC with hC|rfl
 ·exact h C hC
 have h1:=h _ (DY (zzp ht));unfold lz;split
 ·exact Xe h1 _
 exact KA h1 _
def Et:∀{l:List ep} {ts:List (List Row)},(∀C∈ts,gg C)->(∀c∈l,ij ts.length c=true)->∀C∈fV ts l,gg C
 | [],ts,h,_=>h
 | c::l,ts,h,h2=>by
  show ∀C∈fV (kr ts c) l,gg C;refine Et (aId h (h2 c (.head _))) λx hx=>?_;rw[wD];exact h2 x (.tail _ hx)
def cC4(b:Nat)(C D:List Row)(c:ep)(hs:gg C)(hn:C.length<=1000000):SP 222 [agg (sm (b,D)),agg (fR c)] [.ob (ez (b,C))] (λ_ post=>post=[.ob (ez (b,lz C c))]):=by
 refine Enzz λW F w hS=>?_;apply cHf;delta Nq a_;refine zw hS λxb w hS=>?_;refine zw hS λyb w hS=>?_;unfold fR sm at hS;obtain⟨ct,ck,cg,cv⟩:=c;refine Gp ?_;cases cg with
 | true=>
  refine zq ?_;refine Gp ?_;refine Cc (bXj b C ck hs hn) ?_;clear hS;rintro u post ⟨⟨q,rfl⟩,rfl⟩ w hS;try simp only[app]at hS
  have hS:SL W (.ob (ez (b,lz C ⟨ct,ck,true,cv⟩))::_::_::F) _:=hS;exact⟨_,rfl,aW hS⟩
 | false=>
  refine zp ?_;refine Gp ?_;refine Cc (YB b C ck hs hn cv) ?_;clear hS;rintro u post ⟨⟨q,rfl⟩,rfl⟩ w hS;try simp only[app]at hS
  have hS:SL W (.ob (ez (b,lz C ⟨ct,ck,false,cv⟩))::_::_::F) _:=hS;exact⟨_,rfl,aW hS⟩
section
variable (sp:Nat) (ts:List (List Row)) (H:bw) (v:Ε) (l:List ep) (hv:dq H 4 v l.length (l.map fR).flatten) (hl:l.length<=140737488351232)
include hv hl
def YS:SP 213 [cG sp,v] [.ob (dN sp ts),.mem H] (cE (.bool (l.all (ij ts.length))) [.ob (dN sp ts),.mem H]):=by
 refine Enzz λW F w hS=>?_;apply cG6;delta Ng aI a_ cL bY ai cQ;refine zo hv ?_;refine⟨λus w=>∃i:Nat,us=[Γ i]/\i<=l.length/\(∀j (h:j<l.length),j<i->ij ts.length l[j]=true)/\SL W (.ob (dN sp ts)::.mem H::F) w,λus _=>match us with|[.int _ i]=>(l.length-i).toNat|_=>0,⟨0,rfl,by omega,λj h hj=>by omega,hS⟩,?_⟩;clear hS;rintro v9 w ⟨i,cP,hi,eF,hS⟩;cases cP;refine bZ (λh=>?_) (λh=>?_)
 ·have cz:i<l.length:=by omega
  refine zD hS Xh te hv (x:=l[i]) (by simp[cz]) cz ?_;have hq:ij ts.length l[i]=decide (0<=l[i].table/\l[i].table<(ts.length:Int)):=rfl;have hf:ij ts.length l[i]=false->l.all (ij ts.length)=false:=λh=>ttb.2 ⟨_,zzh cz,by rw[h];decide⟩;have IB:ij ts.length l[i]=true->∀j (h:j<l.length),j<i+1->ij ts.length l[j]=true:=λh j hj i_=>by
   by_cases e:j=i
   ·subst e;exact h
   exact eF j hj (by omega)
  clear eF;generalize l[i]=c at *
  obtain⟨ct,ck,cg,cv⟩:=c;refine Gm λb w hS=>?_;refine Cg (yt sp ts ct) λw hS=>?_;refine zt (λhb=>?_) (λhb=>?_)
  ·rw[hf (by rw[hq];exact hb)];(exact cC hS)
  refine Gp ?_;refine⟨⟨i+1,rfl,by omega,IB (by rw[hq];exact hb),aW hS⟩,by dsimp only;omega⟩
 rw[show l.all (ij ts.length)=true from zz3.2 λc hc=>by
  obtain⟨j,hj,rfl⟩:=yyl hc;exact eF j hj (by omega)]
 (exact cC hS)
def ZL(hs:∀C∈ts,gg C)(N:Nat)(hn:∀C∈ts,C.length<=N)(hN:N+l.length<=1000000):SP 164 [cG sp,v] [.ob (dN sp ts),.mem H] (cE (.bool (l.all (ij ts.length))) [.ob (dN sp (if l.all (ij ts.length)=true then fV ts l else ts)),.mem H]):=by
 refine Enzz λW F w hS=>?_;apply cFw;delta Mu aI bU a_ cL bY ai cQ;refine Cg (YS sp ts H v l hv hl) λw hS=>?_;cases ha:l.all (ij ts.length) with
 | false=>
  refine zq ?_;rw[zzb (by decide)];(exact cC hS)
 | true=>
  refine zp ?_;rw[zzd rfl];have ha:=zz3.1 ha;refine zo hv ?_;refine⟨λus w=>∃i:Nat,us=[Γ i]/\i<=l.length/\SL W (.ob (dN sp (fV ts (l.take i)))::.mem H::F) w,λus _=>match us with|[.int _ i]=>(l.length-i).toNat|_=>0,⟨0,rfl,by omega,hS⟩,?_⟩;clear hS;rintro GL w ⟨i,cP,hi,hS⟩;cases cP;refine bZ (λh=>?_) (λh=>?_)
  ·have cz:i<l.length:=by omega
   have fS:fV ts (l.take (i+1))=kr (fV ts (l.take i)) l[i]:=by rw[zze cz,Rk]
   have jZ:=ha _ (zzh cz);have vz:=ud ts (l.take i);have tq:=Et (l:=l.take i) hs λc hc=>ha c (yyr hc);have xj:=Es N (l:=l.take i) hn λc hc=>ha c (yyr hc);have mh:(l.take i).length<=l.length:=by rw[zzg];omega
   generalize fV ts (l.take i)=T at *
   refine zD hS Xh te hv (x:=l[i]) (by simp[cz]) cz ?_;generalize l[i]=c at *
   obtain⟨ct,ck,cg,cv⟩:=c;obtain⟨h0,h1⟩:0<=ct/\ct<(ts.length:Int):=zzp jZ;obtain⟨t,rfl⟩:∃n:Nat,ct=n:=⟨ct.toNat,by omega⟩;have ht:t<T.length:=by omega
   have uM:T[t]∈T:=zzh ht;obtain⟨pv,L,hL,hS⟩:=dN.iff.1 hS;obtain⟨b0,hb⟩:=Ab hL ht;have Iy:=tU hL;refine Gm λb w hS=>?_;refine zT hS Xh vn hb (by omega) ?_;refine Gp ?_;have hS:=ze.take (SL.b_ hS (t:=.ob (ze ez L)::.pt sp [pv] 241::jx pv L::.mem H::F) Xi) hb;refine Cc (cC4 b0 T[t] T[t] ⟨t,ck,cg,cv⟩ (tq _ uM) (by have:=xj _ uM;omega)) ?_;clear hS;rintro u post rfl w hS;(try simp only[app]at hS);refine Gp ?_
   have hS:=ze.put hS (by omega);have hS:=jx.set (D:=lz T[t] ⟨t,ck,cg,cv⟩) hb (SL.b_ hS (t:=jx pv L::.ob (ze ez (L.set t (b0,lz T[t] ⟨t,ck,cg,cv⟩)))::.pt sp [pv] 241::.mem H::F) Xi);refine⟨⟨i+1,rfl,by omega,?_⟩,by dsimp only;omega⟩;rw[fS];refine SL.b_ (dN.put (ts:=kr T ⟨t,ck,cg,cv⟩) ?_ hS Xp) Xi;rw[W8 hL t b0];unfold kr;rw[nY T t ht];rfl
  obtain rfl:i=l.length:=by omega
  rw[zz4]at hS
  (exact cC hS)
end
structure B6{κ:Type}[DecidableEq κ](P:Program)(kt:Ι)(key:κ->Ε):Prop where
 wide:∃fs,P.underlying kt=some (.struct fs)
 check:∀(k:κ) (em:Bool) (w:Ζ),(Instr.checkKey em 10000 kt (key k)).run P w= .ok () w
 eq:∀(a b:κ) (w:Ζ),(Op.equal kt (key a) (key b)).run P w= .ok (decide (a=b)) w
 stays:∀(k:κ) (w:Ζ),(Instr.keyThatStays (key k) (key k)).run P w= .ok (key k) w
 inj:∀{a b:κ},key a=key b->a=b
section
variable {W w:Ζ} {l l':Β} {κ α:Type} [DecidableEq κ] {key:κ->Ε} {val:α->Ε} {b:Nat} {m:List (κ × α)} {P:Program} {t kt et:Ι} {z:Ε} {k:κ}
def ES(ok:B6 P kt key)(k:κ)(es:List MapEntry):(Instr.findKey kt (key k) es).run P w=(Instr.findAsking kt (key k) es).run P w:=by
 obtain⟨fs,hd⟩:=ok.wide;cases es with
 | nil=>simp[Instr.findKey,zzz hd,Result.andThen,Instr.findNow,Instr.findAsking]
 | cons e es=>simp[Instr.findKey,zzz hd,Result.andThen,Instr.findNow,Instr.sameNow]
def Ig(ok:B6 P kt key)(k:κ):∀(es:List MapEntry) (m:List (κ × α)) (i:Nat),es.map kv=m.map (kw key val) ->
  ((Instr.findAsking kt (key k) es i).run P w= .ok none w/\fO m k=none/\(∀v,gI m k v=m++[(k,v)])/\∀x∈es,x.key≠key k) \/
  ∃j e a,(Instr.findAsking kt (key k) es i).run P w= .ok (some (i+j,val a)) w/\es[j]?=some e/\e.key=key k/\fO m k=some a /\
   (∀v,(es.modify j λe=>{e with key:=key k,val:=val v}).map kv=(gI m k v).map (kw key val))
 | [],[],_,_=>.inl ⟨rfl,rfl,λ_=>rfl,by simp⟩
 | [],_::_,_,h=>by simp at h
 | _::_,[],_,h=>by simp at h
 | e::es,p::m,i,h=>by
  simp only[zzo,List.cons.injEq]at h;obtain⟨h1,h2⟩:=h;obtain⟨x,y⟩:=p;simp only[kv,kw,wwi]at h1;obtain⟨oY,AU⟩:=h1;have hq:=ok.eq k x w;by_cases hx:x=k
  ·subst hx;rw[zzm rfl]at hq
   refine .inr ⟨0,e,y,by simp[Instr.findAsking,oY,hq,AU,Result.andThen],rfl,oY,by simp[fO],?_⟩;intro v;simp[gI,kv,kw];exact h2
  rw[zz2 (λh=>hx h.symm)]at hq
  rcases Ig ok k es m (i+1) h2 with ⟨a1,a2,a3,a5⟩|⟨j,e',a,a1,a2,a3,a4,a5⟩
  ·refine .inl ⟨by simp[Instr.findAsking,oY,hq,a1,Result.andThen],by simp[fO,hx,a2],λv=>by simp[gI,hx,a3],?_⟩;intro z hz;rcases zz0.1 hz with rfl|hz
   ·rw[oY];exact λq=>hx (ok.inj q)
   exact a5 z hz
  refine .inr ⟨j+1,e',a,by simp[Instr.findAsking,oY,hq,a1,Result.andThen];omega,by simpa using a2,a3,by simp[fO,hx,a4],?_⟩;intro v;simp[gI,hx,kv,kw,oY,AU];exact a5 v
def cAl{K:Ε->Prop}(hS:SL W l w)(hm:Has (.ob (eE key val b m)) l)(ok:B6 P kt key)(ht:P.underlying t=some (.map kt et))(hz:∀w,(zeroValue et).run P w= .ok z w)
  (h:K (.tuple #[((fO m k).map val).getD z,.bool (fO m k).isSome])):ff P (Instr.lookup t (.map (some b)) (key k) true) w K:=by
 obtain⟨es,c,e1,e2,hb⟩:=hS.xW hm;rcases Ig (w:=w) ok k es m 0 e1 with ⟨a1,a2,_,_⟩|⟨j,e,a,a1,_,_,a4,_⟩
 ·refine⟨_,?_,h⟩;simp[Instr.lookup,zzz ht,yy1 hb,ok.check,ES ok,a1,hz,Result.andThen,a2]
 refine⟨_,?_,h⟩;simp[Instr.lookup,zzz ht,yy1 hb,ok.check,ES ok,a1,Result.andThen,a4]
def cAm{v:α}{K:Ε->Ζ->Prop}(hS:SL W l w)(u:gh (.ob (eE key val b m)) (.ob (eE key val b (gI m k v))) l l')(ok:B6 P kt key)(ht:P.underlying t=some (.map kt et))
  (h:∀u w',SL W l' w'->K u w'):zR P (do Instr.mapUpdate t (.map (some b)) (key k) (val v);pure undef) w K:=by
 obtain⟨es,c,e1,e2,hb⟩:=hS.xW u.has;rcases Ig (w:=w) ok k es m 0 e1 with ⟨a1,_,a3,a5⟩|⟨j,e,a,a1,a2,a3,_,a5⟩
 ·refine⟨undef,{w with heap:=w.heap.setIfInBounds b (.map (es++[({key:=key k,val:=val v,born:=c}:MapEntry)]).toArray (c+1))},?_,h _ _ (hS.Bu u hb (by rw[a3];simp[e1,kv,kw]) ?_)⟩
  ·simp[Instr.mapUpdate,zzz ht,yy1 hb,ok.check,ES ok,a1,wwl _ hb,Result.andThen]
  have:=MapKept.stamped_push e2 (key:=key k) (val:=val v) (by simpa using a5);simpa using this
 refine⟨undef,{w with heap:=w.heap.setIfInBounds b (.map (es.modify j λe=>{e with key:=key k,val:=val v}).toArray c)},?_,h _ _ (hS.Bu u hb (a5 v) ?_)⟩
 ·have hj:es.toArray[j]?=some e:=by simpa using a2
  simp[Instr.mapUpdate,zzz ht,yy1 hb,ok.check,ES ok,a1,a2,a3,ok.stays,wwl _ hb,Result.andThen]
 have xA:∀e',es.toArray[j]?=some e'->({e' with key:=key k,val:=val v}:MapEntry).key=e'.key:=λe' mc=>by
  have:es[j]?=some e':=by simpa using mc
  rw[a2]at this;cases this;exact a3.symm
 have:=MapKept.stamped_modify e2 j (λe=>{e with key:=key k,val:=val v}) (λ_ _=>rfl) (λe' _ mc=>xA e' mc);simpa using this
end
def Cw(p:Int × Int):Ξ:=[Γ p.1,Γ p.2]
def lR(p:Int × Int):Ε:=agg (Cw p)
def bFq(a b:Int × Int)(w:Ζ):(Op.equal 336 (lR a) (lR b)).run Tryz.prog w= .ok (decide (a=b)) w:=by
 refine Gt uu8 (by kernel_rfl) ?_;obtain⟨k1,v1⟩:=a;obtain⟨k2,v2⟩:=b;simp[Cw,Op.eqFields,part,wwm (h:=yy4),wwm (h:=yyc),Result.andThen];by_cases h0:k1=k2<;>by_cases h1:v1=v2<;>simp[*]
def Wh:B6 Tryz.prog 336 lR where
 wide:=⟨_,uu8⟩
 check:=λk em w=>by
  obtain⟨a,b⟩:=k;have h1:(Instr.checkKey em 9999 3 (Γ a)).run Tryz.prog w= .ok () w:=xxk (k:=Γ a) yyc (pg .i64 |>.is a) em 9998;have h2:(Instr.checkKey em 9999 2 (Γ b)).run Tryz.prog w= .ok () w:=xxk (k:=Γ b) yy4 (pg .i64 |>.is b) em 9998;show (Instr.checkKey em (9999+1) _ _).run Tryz.prog w=_;unfold Instr.checkKey;simp[lR,Cw,zzz uu8,part,h1,h2,Result.andThen]
 eq:=bFq
 stays:=λk w=>by
  have:Instr.sameBits 10000 (lR k) (lR k)=true:=by simp[lR,Cw,Instr.sameBits]
  simp[Instr.keyThatStays,this]
 inj:=λ{a b} h=>by
  obtain⟨a1,a2⟩:=a;obtain⟨b1,b2⟩:=b;simp[lR,Cw]at h
  rw[h.1,h.2]
def cA5{W w:Ζ}{l:Β}{α:Type}{enc:α->Ξ}{v:Ε}{t:Ι}{sz j:Nat}{k:IntKind}{xs:List α}{y:α}{K:Ζ->Prop}(hS:SL W (.ob (bR v t sz xs.length (xs.map enc).flatten)::l) w)(hn:∀x,(enc x).length=sz)
  (hj:j<xs.length) (h1:∀v∈enc y,v.oneCell'=true) (hK:∀w',SL W (.ob (bR v t sz (xs.set j y).length ((xs.set j y).map enc).flatten)::l) w'->K w'):zk sz v (.int k (j:Int)) λq=>zj sz q (agg (enc y)) w K:=by
 rcases bR.open hS with ⟨_,h0,_⟩|⟨b,cap,rest,rfl,hc,hlen,jP,hS⟩
 ·omega
 have de:j*sz+sz<=xs.length*sz:=by
  have:(j+1)*sz<=xs.length*sz:=yyy _ hj
  rwa [yyx,wwx]at this
 refine zF hj ?_;rw[yye];refine Ye hS .hd (hn y) (by rw[zza];omega) h1 λw' hS=>hK w' ?_;have e:((xs.map enc).flatten++rest).take (j*sz)++enc y++((xs.map enc).flatten++rest).drop (j*sz+sz)=((xs.set j y).map enc).flatten++rest:=by
  rw[xxf (by omega),xxg (by omega),uo hn,show j*sz+sz=(j+1)*sz by rw[yyx,wwx],vr hn,xxh,zzd hj];simp
 rw[e]at hS
 have hl:(xs.set j y).length=xs.length:=yyj;rw[hl];exact bR.mk hc (by rw[oV hn,hl]) jP hS
def cDk(sp:Nat)(ts:List (List Row))(H:bw)(v:Ε)(t:Nat)(l:List Row)(ht:t<ts.length)(hv:dq H 2 v l.length (l.map eh).flatten)(hs:gg l)(hl:l.length<=100000):
  SP 199 [cG sp,Γ (t:Int),v] [.ob (dN sp ts),.mem H] (cE (.bool true) [.ob (dN sp (ts.set t l)),.mem H]):=by
 refine Enzz λW F w hS=>?_;apply cGs;delta M1 aR bV cT;refine Cg (yt sp ts t) λw hS=>?_;refine za (λ_=>?_) (λh=>by omega);obtain⟨pv,L,hL,hS⟩:=dN.iff.1 hS;have hl2:=tU hL;obtain⟨b0,hb⟩:=Ab hL ht;refine Gn λw hS=>?_;refine Cc (YA H v l hv hl) ?_;clear hS;rintro u post ⟨xb,rfl,rfl⟩ w hS;try simp only[app]at hS
 rw[cw2 hs]at hS
 refine Gp ?_;refine cA5 (enc:=sm) (y:=(xb,l)) (SL.b_ hS (t:=jx pv L::.ob (ze ez L)::.ob (ez (xb,l))::.pt sp [pv] 241::.mem H::F) Xi) vn (by omega) (by simp[sm,Value.oneCell']) λw hS=>?_;have hS:=ze.take (SL.b_ hS (t:=.ob (ze ez L)::.ob (ez (xb,l))::.pt sp [pv] 241::jx pv (L.set t (xb,l))::.mem H::F) Xi) hb;have hS:=ze.put (SL.b_ hS (t:=.ob (ez (xb,l))::.ob (ze ez (L.eraseIdx t))::.pt sp [pv] 241::jx pv (L.set t (xb,l))::.mem H::F) Xi) (by omega);have hS:=dN.put (W8 hL t xb l) hS Xp;refine Cg (yt sp (ts.set t l) t) λw hS=>?_;rw[show decide (0<=(t:Int)/\(t:Int)<((ts.set t l).length:Int))=true from zzm (by rw[yyj];omega)];(exact cC hS)
def UT:∀{C:List Row},gg C->∀(k:Int) (v:Η),(gV C ⟨k,v⟩).length=C.length+if (eZ C k).isSome=true then 0 else 1
 | [],_,k,v=>by simp[gV,eZ]
 | x::C,h,k,v=>by
  unfold gg at h;rw[yyg]at h
  unfold gV;by_cases h1:x.key<k
  ·have hg:eZ (x::C) k=eZ C k:=by unfold eZ;rw[xxv];simp[show ¬x.key=k by omega]
   rw[zzd h1,zzi,UT (C:=C) h.2 k v,zzi,hg];omega
  rw[zzb h1];by_cases h2:x.key=k
  ·have hg:(eZ (x::C) k).isSome=true:=by unfold eZ;rw[xxv];simp[h2]
   rw[zzd h2,hg];simp
  have hg:eZ (x::C) k=none:=by
   unfold eZ;have:(x::C).find? (λc=>decide (c.key=k))=none:=by
    rw[uu5];intro y hy;rcases zz0.1 hy with rfl|hy
    ·simpa using h2
    have:=h.1 y hy;simp;omega
   rw[this];rfl
  rw[zzb h2,hg];simp
def Se:∀(C:List Row) (k:Int),((jW C k).length:Int)=C.length-if (eZ C k).isSome=true then 1 else 0
 | [],k=>by simp[jW,eZ]
 | x::C,k=>by
  unfold jW;by_cases h:x.key=k
  ·have hg:(eZ (x::C) k).isSome=true:=by unfold eZ;rw[xxv];simp[h]
   rw[zzd h,hg];simp
  have hg:eZ (x::C) k=eZ C k:=by unfold eZ;rw[xxv];simp[h]
  rw[zzb h,hg,zzi,zzi];have:=Se C k;omega
def czj{C:List Row}(h:gg C)(c:ep):((lz C c).length:Int)=C.length+(if (eZ C c.key).isSome=true then (if c.gone=true then -1 else 0) else (if c.gone=true then 0 else 1)):=by
 unfold lz;cases c.gone with
 | true=>
  rw[zzd rfl,Se];split<;>simp<;>omega
 | false=>
  rw[zzb (by decide)];have:=UT h c.key c.val;rw[this];split<;>simp
def czk{C:List Row}(h:gg C)(c:ep)(k:Int):(eZ (lz C c) k).isSome=if c.key=k then !c.gone else (eZ C k).isSome:=by
 unfold lz;cases hg:c.gone with
 | true=>
  rw[zzd rfl,S2 h];split<;>rfl
 | false=>
  rw[zzb (by decide),S3];split<;>rfl
def B7(ts T:List (List Row))(m:List ((Int × Int) × Bool)):Prop:=∀p:Int × Int,match fO m p with
 | none=>eZ (ib T p.1) p.2=eZ (ib ts p.1) p.2
 | some b=>(eZ (ib T p.1) p.2).isSome=b
def bZ7{κ α:Type}[DecidableEq κ](m:List (κ × α))(k:κ)(v:α)(k':κ):fO (gI m k v) k'=if k=k' then some v else fO m k':=by
 induction m with
 | nil=>simp[gI,fO]
 | cons p m ih=>
  unfold gI;by_cases h:p.1=k
  ·rw[zzd h];by_cases h1:k=k'
   ·simp[fO,h1]
   simp[fO,h1,show ¬p.1=k' by rw[h];exact h1]
  rw[zzb h];by_cases h1:p.1=k'
  ·have:¬k=k':=λe=>h (by rw[h1,e]);simp[fO,h1,this]
  simp only[fO,zzb h1];exact ih
def cCt{T:List (List Row)}{c:ep}(hc:ij T.length c=true)(t:Int):ib (kr T c) t=if t=c.table then lz (ib T c.table) c else ib T t:=by
 obtain⟨h0,h1⟩:=zzp hc;unfold kr;by_cases ht:0<=t/\t<(T.length:Int)
 ·obtain⟨n,rfl⟩:∃n:Nat,t=n:=⟨t.toNat,by omega⟩;have hn:n<T.length:=by omega
  rw[nY _ n (by rw[yyj];exact hn),xxp];by_cases e:c.table.toNat=n
  ·rw[zzd e,zzd (by omega)]
  rw[zzb e,zzb (by omega),nY T n hn]
 rw[DZ (by rw[yyj];exact ht),zzb (by omega),DZ ht]
def B7.step{ts T:List (List Row)}{m:List ((Int × Int) × Bool)}(h:B7 ts T m)(hs:∀C∈T,gg C){c:ep}(hc:ij T.length c=true):B7 ts (kr T c) (gI m (c.table,c.key) (!c.gone)):=by
 have Uo:=hs _ (DY (zzp hc));rintro ⟨t,k⟩;rw[bZ7];have hk:=h (t,k);simp only at hk ⊢;rw[cCt hc];by_cases e:(c.table,c.key)=(t,k)
 ·rw[zzd e];simp only[wwi]at e;rw[zzd e.1.symm,czk Uo,zzd e.2]
 rw[zzb e];simp only[wwi,not_and]at e;by_cases e1:t=c.table
 ·rw[zzd e1];have e2:=e e1.symm;subst e1;have hg:eZ (lz (ib T c.table) c) k=eZ (ib T c.table) k:=by
   unfold lz;split
   ·rw[S2 Uo,zzb e2]
   rw[S3,zzb e2]
  rw[hg];exact hk
 rw[zzb e1];exact hk
def ku(T:List (List Row)):Ξ:=T.map λC=>Γ (C.length:Nat)
def aWv(T:List (List Row)):(ku T).length=T.length:=by simp[ku]
def RO{T:List (List Row)}{c:ep}{t:Nat}(ht:c.table=t)(h:t<T.length):ku (kr T c)=(ku T).set t (Γ ((lz T[t] c).length:Nat)):=by
 unfold ku kr;rw[vvo,ht,zzy,nY T t h]
def aWw{T:List (List Row)}{c:ep}{t:Nat}(ht:c.table=t)(h:t<T.length)(hl:(lz T[t] c).length=T[t].length):ku (kr T c)=ku T:=by
 rw[RO ht h,hl];unfold ku;rw[<- vvo (f:=λC:List Row=>Γ (C.length:Nat)) (a:=T[t]),uuq]
def HJ{T:List (List Row)}{t:Nat}(h:t<T.length):(ku T)[t]?=some (Γ (T[t].length:Nat)):=by simp[ku,h]
def Y5{W w:Ζ}{l:Β}{v u:Ε}{t:Ι}{n j:Nat}{k:IntKind}{cells:Ξ}{K:Ζ->Prop}(hS:SL W (.ob (bR v t 1 n cells)::l) w)(hj:j<n)(h1:u.oneCell'=true)
  (hK:∀w',SL W (.ob (bR v t 1 n (cells.set j u))::l) w'->K w'):zk 1 v (.int k (j:Int)) λq=>eH q u w K:=by
 rcases bR.open hS with ⟨_,h0,_⟩|⟨b,cap,rest,rfl,hc,hlen,jP,hS⟩
 ·omega
 refine zF hj ?_;rw[yye,vvw];refine Zz hS .hd (zzc (by rw[zza];omega)) h1 λw' hS=>hK w' ?_;rw[wwy _ _ (by omega)]at hS
 exact bR.mk hc (by rw[yyj];exact hlen) jP hS
def Sv(t k:Int)(g:Bool)(v:Η):fR ⟨t,k,g,v⟩=[Γ t,Γ k,.bool g,.string v]:=rfl
def Q9(sp:Nat)(ts:List (List Row))(H:bw)(v:Ε)(l:List ep)(hv:dq H 4 v l.length (l.map fR).flatten)(hl:l.length<=140737488351232)(hs:∀C∈ts,gg C)(hn:∀C∈ts,C.length<=1000000)(hl6:l.length<=1000000)(Ds:ts.length<=1000):
  SP 161 [cG sp,v] [.ob (dN sp ts),.mem H] (cE (.bool (k_ ts l)) [.ob (dN sp ts),.mem H]):=by
 refine Enzz λW F w hS=>?_;apply cFt;delta Mr aI bU a_ cL bY Au ai cT cQ;refine Cg (YS sp ts H v l hv hl) λw hS=>?_;cases ha:l.all (ij ts.length) with
 | false=>
  refine zq ?_;rw[show k_ ts l=false by unfold k_;rw[ha];rfl];(exact cC hS)
 | true=>
  refine zp ?_;have hF:k_ ts l=(fV ts l).all λC=>decide (C.length<=1000):=by unfold k_;rw[ha];rfl
  have ha:=zz3.1 ha;obtain⟨pv,L,hL,hS⟩:=dN.iff.1 hS;have Iy:=tU hL;refine Gp ?_;refine zu hS Xh ?_;refine WQ hS (zzj _) (by omega) (by omega) λnb w hS=>?_;have hS:=bR.full (sz:=1) (n:=L.length) (by rw[lV];rfl) hS;refine Gp ?_;refine zu hS Xh ?_;refine⟨λus w=>∃(i:Nat) (cells:Ξ),us=[Γ i]/\i<=L.length/\cells.length=L.length/\(∀j (h:j<ts.length),j<i->cells[j]?=some (Γ (ts[j].length:Nat)))/\SL W (.ob (bR (.slice (some ⟨nb,0,none⟩) L.length L.length) 3 1 L.length cells)::.pt sp [pv] 241::jx pv L::.ob (ze ez L)::.mem H::F) w,
   λus _=>match us with|[.int _ i]=>(L.length-i).toNat|_=>0,⟨0,cK [Γ 0] L.length,rfl,by omega,by rw[lV];exact vvw _,λj h hj=>by omega,aW hS⟩,?_⟩
  clear hS;rintro v31 w ⟨i,cells,cP,hi,mZ,gz,hS⟩;cases cP;refine bZ (λh=>?_) (λh=>?_)
  ·have cz:i<ts.length:=by omega
   obtain⟨b0,hb⟩:=Ab hL cz;refine zT hS Xh vn hb (by omega) ?_;unfold sm;refine Gm λb w hS=>?_;have hS:=ze.take (SL.b_ hS (t:=.ob (ze ez L)::.ob (bR (.slice (some ⟨nb,0,none⟩) L.length L.length) 3 1 L.length cells)::.pt sp [pv] 241::jx pv L::.mem H::F) Xi) hb;refine Cc (Yz b0 ts[i]) ?_;clear hS;rintro u post ⟨rfl,rfl⟩ w hS;try simp only[app]at hS
   have hS:=ze.back hS hb;refine Y5 (SL.b_ hS (t:=.ob (bR (.slice (some ⟨nb,0,none⟩) L.length L.length) 3 1 L.length cells)::.pt sp [pv] 241::jx pv L::.ob (ze ez L)::.mem H::F) Xi) (by omega) rfl λw hS=>?_;refine Gp ?_;refine⟨⟨i+1,_,rfl,by omega,by rw[yyj];exact mZ,λj hj i_=>?_,hS⟩,by dsimp only;omega⟩;rw[List.getElem?_set];by_cases e:i=j
   ·subst e;rw[zzd rfl,zzd (by omega)]
   rw[zzb e];exact gz j hj (by omega)
  obtain rfl:i=L.length:=by omega
  have Fj:cells=ku ts:=by
   refine uum λj=>?_;rcases xx4 j ts.length with hj|hj
   ·rw[gz j hj (by omega),HJ hj]
   rw[yys (by omega),yys (by rw[aWv];omega)]
  subst Fj;clear gz mZ;have hS:=dN.put hL hS Xp;clear hL;refine zo hv ?_;have hS:=hS.JP (key:=lR) (val:=Value.bool);generalize w.heap.size=mb at *
  generalize w.alloc (.map #[] 0)=w at *
  rw[show ku ts=ku (fV ts (l.take 0)) from rfl]at hS
  refine⟨λus w=>∃(i:Nat) (m:List ((Int × Int) × Bool)),us=[Γ i]/\i<=l.length/\B7 ts (fV ts (l.take i)) m/\SL W (.ob (dN sp ts)::.ob (eE lR Value.bool mb m)::.ob (bR (.slice (some ⟨nb,0,none⟩) L.length L.length) 3 1 L.length (ku (fV ts (l.take i))))::.mem H::F) w,
   λus _=>match us with|[.int _ i]=>(l.length-i).toNat|_=>0,⟨0,[],rfl,by omega,λp=>rfl,aW hS⟩,?_⟩
  clear hS;rintro v46 w ⟨i,m,cP,hi,hM,hS⟩;cases cP;refine bZ (λh=>?_) (λh=>?_)
  ·have cz:i<l.length:=by omega
   have fS:fV ts (l.take (i+1))=kr (fV ts (l.take i)) l[i]:=by rw[zze cz,Rk]
   have jZ:=ha _ (zzh cz);have vz:=ud ts (l.take i);have tq:=Et (l:=l.take i) hs λc hc=>ha c (yyr hc);have xj:=Es 1000000 (l:=l.take i) hn λc hc=>ha c (yyr hc);have mh:(l.take i).length<=l.length:=by rw[zzg];omega
   generalize fV ts (l.take i)=T at *
   refine zD hS Xh te hv (x:=l[i]) (by simp[cz]) cz ?_;generalize l[i]=c at *
   obtain⟨ct,ck,cg,cv⟩:=c;obtain⟨h0,h1⟩:0<=ct/\ct<(ts.length:Int):=zzp jZ;obtain⟨t,rfl⟩:∃n:Nat,ct=n:=⟨ct.toNat,by omega⟩;have ht:t<T.length:=by omega
   have gM:t<ts.length:=by omega
   have uM:T[t]∈T:=zzh ht;have de:=xj _ uM;have tn:=hM (t,ck);have uw:=hM.step tq (c:=⟨t,ck,cg,cv⟩) (by rw[vz];exact jZ);have sy:=czj (tq _ uM) ⟨t,ck,cg,cv⟩;simp only at tn uw sy;rw[nY T t ht,nY ts t gM]at tn
   rw[<- fS]at uw
   clear hM;rw[Sv];refine Gb λcb w hS=>?_;refine Gb λpb w hS=>?_;refine cAl (key:=lR) (val:=Value.bool) (z:=.bool false) (k:=((t:Int),ck)) hS Xh Wh Tryz.underlying334 (λw=>by kernel_rfl) ?_;refine Gp ?_;refine⟨λus w=>us=[.bool (eZ T[t] ck).isSome]/\SL W (.pt pb [Γ t,Γ ck] 336::.pt cb [Γ t,Γ ck,.bool cg,.string cv] 56::.ob (dN sp ts)::.ob (eE lR Value.bool mb m)::.ob (bR (.slice (some ⟨nb,0,none⟩) L.length L.length) 3 1 L.length (ku T))::.mem H::F) w,?_,?_⟩
   ·cases A9:fO m ((t:Int),ck) with
    | none=>
     rw[A9]at tn
     refine z7 (zq ?_);have tn:eZ T[t] ck=eZ ts[t] ck:=tn;obtain⟨pv,L2,hL,hS⟩:=dN.iff.1 (SL.b_ hS (t:=.ob (dN sp ts)::.pt pb [Γ t,Γ ck] 336::.pt cb [Γ t,Γ ck,.bool cg,.string cv] 56::.ob (eE lR Value.bool mb m)::.ob (bR (.slice (some ⟨nb,0,none⟩) L.length L.length) 3 1 L.length (ku T))::.mem H::F) Xi);obtain⟨b0,hb⟩:=Ab hL gM;have cN2:=tU hL;refine Gn λw hS=>?_;refine yi hS Xh vn hb (by omega) (i:=0) rfl ?_;refine Gp ?_;have hS:=ze.take (SL.b_ hS (t:=.ob (ze ez L2)::.pt sp [pv] 241::jx pv L2::.pt pb [Γ t,Γ ck] 336::.pt cb [Γ t,Γ ck,.bool cg,.string cv] 56::.ob (eE lR Value.bool mb m)::.ob (bR (.slice (some ⟨nb,0,none⟩) L.length L.length) 3 1 L.length (ku T))::.mem H::F) Xi) hb;refine Cc (bXo b0 ts[t] ck (hs _ (zzh gM)) (hn _ (zzh gM))) ?_;clear hS;rintro u post ⟨rfl,rfl⟩ w hS;try simp only[app]at hS
     have hS:=dN.put hL (ze.back hS hb) Xp;unfold S0;refine Gp ?_;exact⟨by rw[tn],aW hS⟩
    | some q=>
     rw[A9]at tn
     have tn:(eZ T[t] ck).isSome=q:=tn;refine z7 (zp ?_);exact⟨by rw[tn];rfl,aW hS⟩
   clear hS;rintro v12 w ⟨cP,hS⟩;cases cP;refine Gp ?_;refine cAm (key:=lR) (val:=Value.bool) (k:=((t:Int),ck)) (v:=!cg) hS Xu Wh Tryz.underlying334 λ_ w hS=>?_;have gH:∀{w:Ζ} {cells:Ξ},cells=ku (fV ts (l.take (i+1)))->SL W (.ob (bR (.slice (some ⟨nb,0,none⟩) L.length L.length) 3 1 L.length cells)::.ob (dN sp ts)::.ob (eE lR Value.bool mb (gI m ((t:Int),ck) (!cg)))::.mem H::F) w ->
     ∃(i':Nat) (m':List ((Int × Int) × Bool)),[Γ ((i+1:Nat):Int)]=[Γ i']/\i'<=l.length/\B7 ts (fV ts (l.take i')) m'/\SL W (.ob (dN sp ts)::.ob (eE lR Value.bool mb m')::.ob (bR (.slice (some ⟨nb,0,none⟩) L.length L.length) 3 1 L.length (ku (fV ts (l.take i'))))::.mem H::F) w:=λe hS=>by
    subst e;exact⟨i+1,_,rfl,by omega,uw,aW hS⟩
   have Tv:=HJ ht;have rm:=RO (T:=T) (c:=⟨t,ck,cg,cv⟩) rfl ht;have uL:=aWw (T:=T) (c:=⟨t,ck,cg,cv⟩) rfl ht;rw[<- fS]at rm uL
   refine⟨λus w=>us=[.bool ((eZ T[t] ck).isSome && cg)]/\SL W (.pt cb [Γ t,Γ ck,.bool cg,.string cv] 56::.ob (dN sp ts)::.ob (eE lR Value.bool mb (gI m ((t:Int),ck) (!cg)))::.ob (bR (.slice (some ⟨nb,0,none⟩) L.length L.length) 3 1 L.length (ku T))::.mem H::F) w,?_,?_⟩
   ·cases (eZ T[t] ck).isSome with
    | false=>
     refine Gp ?_;exact⟨rfl,aW hS⟩
    | true=>
     refine Gp ?_;exact⟨by simp,aW hS⟩
   clear hS;rintro v83 w ⟨cP,hS⟩;cases cP;cases hw:(eZ T[t] ck).isSome<;>cases cg<;>rw[hw]at sy
   ·refine zp (z7 (zq ?_));refine Gp ?_;refine zq ?_;refine Gp ?_;refine yh hS Xh (by omega) Tv ?_;refine Gp ?_;refine Y5 (SL.b_ hS (t:=.ob (bR (.slice (some ⟨nb,0,none⟩) L.length L.length) 3 1 L.length (ku T))::.ob (dN sp ts)::.ob (eE lR Value.bool mb (gI m ((t:Int),ck) (!false)))::.mem H::F) Xi) (by omega) rfl λw hS=>?_;refine Gp ?_;exact⟨gH (by rw[rm];congr 2;simp at sy;omega) hS,by dsimp only;omega⟩
   ·refine zp (z7 (zq ?_));refine Gp ?_;refine zp ?_;refine Gp ?_;exact⟨gH (uL (by simp at sy;omega)).symm (aW hS),by dsimp only;omega⟩
   ·refine zp (z7 (zp ?_));refine Gp ?_;exact⟨gH (uL (by simp at sy;omega)).symm (aW hS),by dsimp only;omega⟩
   refine zq ?_;refine Gp ?_;refine yh hS Xh (by omega) Tv ?_;refine Gp ?_;refine Y5 (SL.b_ hS (t:=.ob (bR (.slice (some ⟨nb,0,none⟩) L.length L.length) 3 1 L.length (ku T))::.ob (dN sp ts)::.ob (eE lR Value.bool mb (gI m ((t:Int),ck) (!true)))::.mem H::F) Xi) (by omega) rfl λw hS=>?_;refine Gp ?_;exact⟨gH (by rw[rm];congr 2;simp at sy;omega) hS,by dsimp only;omega⟩
  obtain rfl:i=l.length:=by omega
  rw[zz4]at hS
  have vz:=ud ts l;generalize fV ts l=T at *
  refine Gp ?_;refine⟨λus w=>∃j:Nat,us=[Γ j]/\j<=T.length/\(∀k (h:k<T.length),k<j->T[k].length<=1000)/\SL W (.ob (dN sp ts)::.ob (bR (.slice (some ⟨nb,0,none⟩) L.length L.length) 3 1 L.length (ku T))::.mem H::F) w,
   λus _=>match us with|[.int _ i]=>(T.length-i).toNat|_=>0,⟨0,rfl,by omega,λk h hk=>by omega,aW hS⟩,?_⟩
  clear hS;rintro cPl w ⟨j,cP,hj,eF,hS⟩;cases cP;refine bZ (λh=>?_) (λh=>?_)
  ·have gS:j<T.length:=by omega
   refine yh hS Xh (by omega) (HJ gS) ?_;refine bZ (λh2=>?_) (λh2=>?_)
   ·rw[hF,show (T.all λC=>decide (C.length<=1000))=false from ttb.2 ⟨_,zzh gS,by simp;omega⟩];(exact cC hS)
   refine Gp ?_;refine⟨⟨j+1,rfl,by omega,λk hk IZ=>?_,hS⟩,by dsimp only;omega⟩;by_cases e:k=j
   ·subst e;omega
   exact eF k hk (by omega)
  rw[hF,show (T.all λC=>decide (C.length<=1000))=true from zz3.2 λC hC=>by
   obtain⟨k,hk,rfl⟩:=yyl hC;exact zzm (eF k hk (by omega))]
  (exact cC hS)
def qI(c:ep)(k:Int):SP 212 [agg (fR c),Γ k] [] (cE (.bool (mK c k)) []):=by
 refine Enzz λW F w hS=>?_;apply cG5;delta Nf aI a_ cL bY ai;refine zw hS λb w hS=>?_;unfold fR at hS;have hF:∀{w:Ζ},¬(0<=c.table/\c.table<k/\1<=c.key/\c.key<=1099511627776/\c.val.size<=32)->SL W (.pt b [Γ c.table,Γ c.key,.bool c.gone,.string c.val] 56::F) w ->
   ∃post,cE (.bool (mK c k)) [] (.bool false) post/\SL W (app post F) w:=λh hS=>⟨_,⟨by rw[show mK c k=false by unfold mK;rw[xxc];exact λk=>h ⟨k.1,k.2.1,k.2.2.1,k.2.2.2.1,k.2.2.2.2.1⟩],rfl⟩,aW hS⟩
 refine Gp ?_;refine za (λ_=>hF (by omega) hS) (λ_=>?_);refine Gp ?_;refine za (λ_=>hF (by omega) hS) (λ_=>?_);refine Gp ?_;refine za (λ_=>hF (by omega) hS) (λ_=>?_);refine Gp ?_;refine za (λ_=>hF (by omega) hS) (λ_=>?_);(repeat (first|refine Gp ?_|refine Gw λw hS=>?_|refine za (λ_=>hF (by omega) hS) (λ_=>?_)|refine za (λ_=>?_) (λ_=>hF (by omega) hS)))
 have e:mK c k=decide (c.gone=true->c.val=emp):=by
  unfold mK;rw[yyi];exact⟨λh=>h.2.2.2.2.2,λh=>⟨by omega,by omega,by omega,by omega,by omega,h⟩⟩
 rw[e];refine zt (λh=>?_) (λh=>?_)
 ·rw[h,zzm (by simp)];(exact cC hS)
 refine Gp ?_;rw[h];have e2:decide (true=true->c.val=emp)=decide (c.val={data:=#[]}):=by rw[yyi];exact⟨λh=>h rfl,λh _=>h⟩
 rw[e2];(exact cC hS)
def Vs{t:cF}(h:¬(1<=t.aw/\t.aw<=1099511627776)):eg t=false:=by
 unfold eg;rw[zz2 h];rfl
def JR{t:cF}(hk:t.kind=1)(h:¬(t.mark=0/\t.changes.length<=16/\t.signals.length<=2)):eg t=false:=by
 unfold eg;rw[zzd hk,zz2 h];simp
def bZv{t:cF}{i:Nat}(hk:t.kind=1)(hi:i<t.changes.length)(h:mK t.changes[i] 8=false):eg t=false:=by
 cases hm:eg t with
 | false=>rfl
 | true=>
  rw[(mj hm).2.2.2.2.2.1 _ (zzh hi)]at h;cases h
def bZw{t:cF}{i:Nat}(hk:t.kind=1)(hi:i<t.signals.length)(h:¬t.signals[i].size<=40):eg t=false:=by
 cases hm:eg t with
 | false=>rfl
 | true=>exact absurd ((mj hm).2.2.2.2.2.2 _ (zzh hi)) h
def bZz{t:cF}(hl:1<=t.aw/\t.aw<=1099511627776)(hk:t.kind=1)(h:t.mark=0/\t.changes.length<=16/\t.signals.length<=2)(h1:∀j (hj:j<t.changes.length),mK t.changes[j] 8=true)(h2:∀j (hj:j<t.signals.length),t.signals[j].size<=40):eg t=true:=by
 refine vU.2 ⟨hl,.inl ⟨hk,h.1,h.2.1,h.2.2,λc hc=>?_,λs hs=>?_⟩⟩
 ·obtain⟨j,hj,rfl⟩:=yyl hc;exact h1 j hj
 obtain⟨j,hj,rfl⟩:=yyl hs;exact h2 j hj
def bZx{t:cF}(hl:1<=t.aw/\t.aw<=1099511627776)(hk:t.kind=2\/t.kind=3):eg t=decide (1<=t.mark/\t.mark<=1099511627776/\t.changes.length=0/\t.signals.length=0):=by
 rw[uuw,vU,zzw];simp only[wwh];constructor
 ·rintro ⟨_,h|h⟩
  ·omega
  exact h.2
 exact λh=>⟨hl,.inr ⟨hk,h⟩⟩
def bZy{t:cF}(h:¬(1<=t.kind/\t.kind<=3)):eg t=false:=by
 cases hm:eg t with
 | false=>rfl
 | true=>exact absurd (mj hm).2.1 h
abbrev tZ(b:Nat)(x:mU)(t:cF):Μ:=.pt b [Γ t.aw,Γ t.kind,x.cv,x.sv,Γ t.mark] 101
def qJ(H:bw)(x:mU)(t:cF)(hx:lF H x t)(hl:1<=t.aw/\t.aw<=1099511627776)(hk:t.kind=1):SP 160 [agg (fr x)] [.mem H] (cE (.bool (eg t)) [.mem H]):=by
 refine Enzz λW F w hS=>?_;apply cFs;delta Mq aI a_ cL bY ai cQ;refine zw hS λxb w hS=>?_;unfold fr at hS;rw[hx.aw,hx.kind,hx.mark]at hS
 have hF:∀{w:Ζ},eg t=false->SL W (tZ xb x t::.mem H::F) w->∃post,cE (.bool (eg t)) [.mem H] (.bool false) post/\SL W (app post F) w:=λh hS=>⟨_,⟨by rw[h],rfl⟩,aW hS⟩;refine Gp ?_;refine za (λh=>hF (JR hk (by omega)) hS) (λh1=>?_);refine Gp ?_;refine zo hx.cv ?_;refine Gp ?_;refine za (λh=>hF (JR hk (by omega)) hS) (λh2=>?_);refine Gp ?_;refine zo hx.sv ?_;refine Gp ?_;refine za (λh=>hF (JR hk (by omega)) hS) (λh3=>?_);refine Gp ?_;refine zo hx.cv ?_;refine⟨λvs w=>∃i:Nat,vs=[Γ i]/\i<=t.changes.length/\(∀j (hj:j<t.changes.length),j<i->mK t.changes[j] 8=true)/\SL W (tZ xb x t::.mem H::F) w,
  λvs _=>match vs with|[.int _ i]=>(t.changes.length-i).toNat|_=>0,⟨0,rfl,by omega,λj hj h=>by omega,hS⟩,?_⟩
 clear hS;rintro v3 w ⟨i,eU,hi,eF,hS⟩;cases eU;refine bZ (λh=>?_) (λh=>?_)
 ·have cz:i<t.changes.length:=by omega
  refine zD hS Xh te hx.cv (x:=t.changes[i]) (by simp[cz]) cz ?_;refine Gm λb w hS=>?_;refine Cg (qI t.changes[i] 8) λw hS=>?_;refine zt (λh=>hF (bZv hk cz h) (aW hS)) (λh=>?_);refine Gp ?_;refine⟨⟨i+1,rfl,by omega,λj hj i_=>?_,aW hS⟩,by dsimp only;omega⟩;by_cases e:j=i
  ·subst e;exact h
  exact eF j hj (by omega)
 have jO:i=t.changes.length:=by omega
 have dV:∀j (hj:j<t.changes.length),mK t.changes[j] 8=true:=λj hj=>eF j hj (by omega);clear eF;refine Gp ?_;refine zo hx.sv ?_;refine⟨λvs w=>∃i:Nat,vs=[Γ i]/\i<=t.signals.length/\(∀j (hj:j<t.signals.length),j<i->t.signals[j].size<=40)/\SL W (tZ xb x t::.mem H::F) w,
  λvs _=>match vs with|[.int _ i]=>(t.signals.length-i).toNat|_=>0,⟨0,rfl,by omega,λj hj h=>by omega,aW hS⟩,?_⟩
 clear hS;rintro v5 w ⟨i,eU,hi,eF,hS⟩;cases eU;refine bZ (λh=>?_) (λh=>?_)
 ·have cz:i<t.signals.length:=by omega
  refine yP hS Xh hx.sv cz (u:=.string t.signals[i]) (by simp[cz]) ?_;refine Gp ?_;refine za (λh=>hF (bZw hk cz (by omega)) (aW hS)) (λh=>?_);refine Gp ?_;refine⟨⟨i+1,rfl,by omega,λj hj i_=>?_,aW hS⟩,by dsimp only;omega⟩;by_cases e:j=i
  ·subst e;omega
  exact eF j hj (by omega)
 rw[bZz hl hk (by omega) dV λj hj=>eF j hj (by omega)];(exact cC hS)
def yo(H:bw)(x:mU)(t:cF)(hx:lF H x t):SP 108 [agg (fr x)] [.mem H] (cE (.bool (eg t)) [.mem H]):=by
 refine Enzz λW F w hS=>?_;apply cEi;delta LA aI a_ bY ai;refine zw hS λxb w hS=>?_;unfold fr at hS;rw[hx.aw,hx.kind,hx.mark]at hS
 have hF:∀{w:Ζ},eg t=false->SL W (tZ xb x t::.mem H::F) w->∃post,cE (.bool (eg t)) [.mem H] (.bool false) post/\SL W (app post F) w:=λh hS=>⟨_,⟨by rw[h],rfl⟩,aW hS⟩;refine Gp ?_;refine za (λh=>hF (Vs (by omega)) hS) (λh1=>?_);refine Gp ?_;refine za (λh=>hF (Vs (by omega)) hS) (λh2=>?_);refine bZ (λhk=>?_) (λhk=>?_)
 ·refine Gp ?_;have nh:lF H ⟨t.aw,t.kind,x.cv,x.sv,t.mark⟩ t:=⟨rfl,rfl,rfl,hx.cv,hx.sv⟩;refine Cg (qJ H ⟨t.aw,t.kind,x.cv,x.sv,t.mark⟩ t nh (by omega) hk) λw hS=>?_;(exact cC hS)
 refine⟨λvs w=>vs=[.bool (decide (t.kind=2\/t.kind=3))]/\SL W (tZ xb x t::.mem H::F) w,?_,?_⟩
 ·refine Gp ?_;refine za (λh=>⟨by rw[zzm (Or.inl h)],hS⟩) (λh=>?_);refine Gp ?_;exact⟨by rw[show decide (t.kind=3)=decide (t.kind=2\/t.kind=3) from yyi.2 ⟨Or.inr,λh'=>by omega⟩],hS⟩
 clear hS;rintro v17 w ⟨hv,hS⟩;cases hv;refine za (λfW=>?_) (λfW=>hF (bZy (by omega)) hS);have hM:=bZx (t:=t) (by omega) fW;have uv:∀{w:Ζ},¬(1<=t.mark/\t.mark<=1099511627776/\t.changes.length=0/\t.signals.length=0)->SL W (tZ xb x t::.mem H::F) w->∃post,cE (.bool (eg t)) [.mem H] (.bool false) post/\SL W (app post F) w:=λh hS=>hF (by rw[hM,zz2 h]) hS;refine Gp ?_;refine za (λh3=>?_) (λh3=>uv (by omega) hS);refine Gp ?_;refine za (λh4=>?_) (λh4=>uv (by omega) hS);refine Gp ?_;refine zo hx.cv ?_;refine Gp ?_;refine za (λh5=>?_) (λh5=>uv (by omega) hS);refine Gp ?_;refine zo hx.sv ?_;refine Gp ?_;rw[hM,show decide (1<=t.mark/\t.mark<=1099511627776/\t.changes.length=0/\t.signals.length=0)=decide ((t.signals.length:Int)=0) from yyi.2 ⟨λh=>by omega,λh=>by omega⟩];(exact cC hS)
section
variable (b:Nat) (x1 x2 x3:Int) (t:Ι)
def bXy:SP 215 [.slice (some ⟨b,0,none⟩) 3 3] [.pt b [Γ x1,Γ x2,Γ x3] t] (λu post=>post=[kj u [iF x1,iF x2,iF x3]]):=yI b [x1,x2,x3] t (by simp)
end
def B0(H:bw)(t:cF)(u:Ε)(post:Β):Prop:=match vp t with
 | .error e=>u= .tuple #[Θ,Γ e]/\post=[.mem H]
 | .ok b=>∃v,u= .tuple #[v,Γ 0]/\post=[.ob (bR v 5 1 b.length (b.map cX)),.mem H]
def pK(t:cF)(i:Nat):List dE:=[iF t.aw,iF t.kind,iF t.mark,iF t.changes.length]++((t.changes.take i).map pM).flatten
def sr(t:cF)(i:Nat):List dE:=pK t t.changes.length++[iF t.signals.length]++(t.signals.take i).map tF
def bFx{t:cF}{i:Nat}(h:i<t.changes.length):pK t (i+1)=pK t i++pM t.changes[i]:=by
 unfold pK;rw[zze h,zzt,yyw,wwd,ww6,zzk]
def bF0{t:cF}{i:Nat}(h:i<t.signals.length):sr t (i+1)=sr t i++[tF t.signals[i]]:=by
 unfold sr;rw[zze h,zzt,wwd,<- zzk]
def bFy(t:cF):sr t t.signals.length=k9 t:=by
 unfold sr pK k9;simp
def SG(t:cF)(i:Nat):(pK t i).length<=4+4*i:=by
 unfold pK;rw[zza,CH (n:=4) (λ_=>rfl),zzg];simp;omega
def bFz(t:cF)(i:Nat):(sr t i).length<=5+4*t.changes.length+i:=by
 have:=SG t t.changes.length;unfold sr;rw[zza,zza,zzn,zzg];simp;omega
def Z7(H:bw)(x:mU)(t:cF)(hx:lF H x t):SP 162 [agg (fr x)] [.mem H] (B0 H t):=by
 refine Enzz λW F w hS=>?_;apply cFu;delta Ms aI a_ aR cL ai cQ bI;refine zw hS λxb w hS=>?_;refine Gp ?_;refine Cg (yo H x t hx) λw hS=>?_;refine zt (λh=>?_) (λhm=>?_)
 ·exact⟨[.mem H],by unfold B0 vp;rw[zzb (by rw[h];decide)];exact⟨rfl,rfl⟩,aW hS⟩
 have hb:=mj hm;unfold fr at hS;rw[hx.aw,hx.kind,hx.mark]at hS
 refine Gp ?_;refine zo hx.cv ?_;refine Gm λb w hS=>?_;refine Cc (UW b t.aw t.kind t.mark t.changes.length 2) ?_;clear hS;rintro u post rfl w hS;(try simp only[app]at hS);refine Gp ?_
 refine zo hx.cv ?_;have hS:SL W (kj u (pK t 0)::_) _:=hS;refine⟨λvs w=>∃(i:Nat) (u:Ε),vs=[u,Γ i]/\i<=t.changes.length/\SL W (kj u (pK t i)::tZ xb x t::.mem H::F) w,
  λvs _=>match vs with|[_,.int _ i]=>(t.changes.length-i).toNat|_=>0,⟨0,_,rfl,by omega,aW hS⟩,?_⟩
 clear hS;rintro u v3 w ⟨i,_,eU,hi,hS⟩;cases eU;have su:=SG t i;refine bZ (λh=>?_) (λh=>?_)
 ·have cz:i<t.changes.length:=by omega
  have hs:=bFx cz;refine zD hS Xh te hx.cv (x:=t.changes[i]) (by simp[cz]) cz ?_;generalize t.changes[i]=o at *
  obtain⟨ot,ok,og,ov⟩:=o;refine Gm λb w hS=>?_;unfold fR at hS;refine Cg (Zx og) λw hS=>?_;refine Gm λb w hS=>?_;refine Cc (bXy b ot ok (g_ og) 2) ?_;clear hS;rintro u2 post rfl w hS;try simp only[app]at hS
  refine yc (L:=pK t i) hS Xr (nk hS Xh) (by simp;omega) λu3 w hS=>?_;refine Gp ?_;refine Cg (yN ov) λw hS=>?_;refine Gm λb w hS=>?_;refine yc (M:=[tF ov]) hS Xr (GD hS Xh) (by simp;omega) λu4 w hS=>?_;refine Gp ?_;refine⟨⟨i+1,_,rfl,by omega,?_⟩,by dsimp only;omega⟩;rw[hs];simp only[zzk]at hS;have hS:SL W (kj _ (pK t i++pM ⟨ot,ok,og,ov⟩)::_) _:=hS;exact aW hS
 have jO:i=t.changes.length:=by omega
 subst jO;refine Gp ?_;refine zo hx.sv ?_;refine Gm λb w hS=>?_;refine Cc (FY b t.signals.length 2) ?_;clear hS;rintro u2 post rfl w hS;try simp only[app]at hS
 refine yc (L:=pK t t.changes.length) hS Xr (nk hS Xh) (by simp;omega) λu3 w hS=>?_;refine Gp ?_;refine zo hx.sv ?_;refine⟨λvs w=>∃(i:Nat) (u:Ε),vs=[u,Γ i]/\i<=t.signals.length/\SL W (kj u (sr t i)::tZ xb x t::.mem H::F) w,
  λvs _=>match vs with|[_,.int _ i]=>(t.signals.length-i).toNat|_=>0,⟨0,u3,rfl,by omega,?_⟩,?_⟩
 ·rw[show sr t 0=pK t t.changes.length++[iF t.signals.length] by unfold sr;simp];exact aW hS
 clear hS;rintro u v3 w ⟨i,_,eU,hi,hS⟩;cases eU;have E8:=bFz t i;refine bZ (λh=>?_) (λh=>?_)
 ·have cz:i<t.signals.length:=by omega
  have hs:=bF0 cz;refine yP hS Xh hx.sv cz (u:=.string t.signals[i]) (by simp[cz]) ?_;refine Cg (yN t.signals[i]) λw hS=>?_;refine Gm λb w hS=>?_;refine yc (L:=sr t i) (M:=[tF t.signals[i]]) hS Xr (GD hS Xh) (by simp;omega) λu3 w hS=>?_;refine Gp ?_;refine⟨⟨i+1,_,rfl,by omega,?_⟩,by dsimp only;omega⟩;rw[hs];exact aW hS
 have jO:i=t.signals.length:=by omega
 subst jO;rw[bFy]at hS E8
 refine Cc (yE (kj u (k9 t)) u (k9 t) rY.own (by omega)) ?_;clear hS;rintro r post hq w hS;try simp only[app]at hS
 unfold rU at hq;unfold B0 vp;rw[zzd hm];cases he:ou (k9 t) with
 | error e=>
  rw[he]at hq
  obtain⟨rfl,rfl⟩:=hq;(try simp only[app]at hS);refine Gp ?_
  exact cC hS
 | ok bs=>
  rw[he]at hq
  obtain⟨v,rfl,rfl⟩:=hq;(try simp only[app]at hS);refine Gp ?_
  exact⟨_,⟨v,rfl,rfl⟩,aW hS⟩
structure py{α:Type}(one:cY->α × cY)(n:Nat)(r0:cY)(xs:List α)(k:Nat)(r:cY):Prop where
 eq:kT one n r0=(xs++(kT one k r).1,(kT one k r).2)
 le:xs.length+k<=n
def py.start{α:Type}(one:cY->α × cY)(n:Nat)(r:cY):py one n r [] n r:=⟨rfl,by simp⟩
def py.step{α:Type}{one:cY->α × cY}{n:Nat}{r0:cY}{xs:List α}{k:Nat}{r:cY}(h:py one n r0 xs (k+1) r):py one n r0 (xs++[(one r).1]) k (one r).2:=
 ⟨by rw[h.eq];simp[kT],by have:=h.le;rw[zza,yya];omega⟩
def py.stop{α:Type}{one:cY->α × cY}{n:Nat}{r0:cY}{xs:List α}{r:cY}(h:py one n r0 xs 0 r):kT one n r0=(xs,r):=by
 rw[h.eq];simp[kT]
def YZ(rp:Nat)(r:cY):SP 157 [Δ rp] [.ob (fm rp r)] (cE (agg (fR (ri r).1)) [.ob (fm rp (ri r).2)]):=by
 refine Enzz λW F w hS=>?_;apply cFo;delta Mm ai cQ;refine Gm λb w hS=>?_;refine Cg (zy rp r 8) λw hS=>?_;refine Cg (zP rp _) λw hS=>?_;refine Cg (y9 rp _) λw hS=>?_;refine Cg (yF rp _) λw hS=>?_;simp only[ri];exact cC hS
def AJ{aw kind mark:Int}{cv sv:Ε}(h1:cv.oneCell'=true)(h2:sv.oneCell'=true):∀v∈fr ⟨aw,kind,cv,sv,mark⟩,v.oneCell'=true:=by
 intro v hv;simp only[fr,zz0,xxq,vvz]at hv;rcases hv with rfl|rfl|rfl|rfl|rfl
 ·rfl
 ·rfl
 ·exact h1
 ·exact h2
 rfl
def Ag:mU:=⟨0,0,Θ,Θ,0⟩
abbrev Hr(b:Nat):Μ:=.pt b [Γ 0,Γ 0,Θ,Θ,Γ 0] 101
def wu(X:Μ)(H:bw)(b:Φ)(u:Ε)(post:Β):Prop:=match lH b with
 | .error e=>e≠0/\∃H',H.le H'/\u= .tuple #[agg (fr Ag),Γ e]/\post=[X,.mem H']
 | .ok t=>∃x H',H.le H'/\u= .tuple #[agg (fr x),Γ 0]/\lF H' x t/\post=[X,.mem H']
def a_6{b:Φ}{e:Int}(h:jD b= .error e):lH b= .error e:=by unfold lH;rw[h]
def a_8{b:Φ}{l:List dE}(h:jD b= .ok l)(h2:¬((lD ⟨l,false⟩).2.bad=false/\(lD ⟨l,false⟩).2.l=[]/\eg (lD ⟨l,false⟩).1=true)):lH b= .error 3:=by
 unfold lH AD;rw[h];simp only;rw[zzb h2]
def a_7{b:Φ}{l:List dE}(h:jD b= .ok l)(h2:(lD ⟨l,false⟩).2.bad=false/\(lD ⟨l,false⟩).2.l=[]/\eg (lD ⟨l,false⟩).1=true):lH b= .ok (lD ⟨l,false⟩).1:=by
 unfold lH AD;rw[h];simp only;rw[zzd h2]
abbrev D6(v:Ε)(l:List ep):Μ:=.ob (bR v 56 4 l.length (l.map fR).flatten)
abbrev Ed(v:Ε)(l:Ψ):Μ:=.ob (bR v 9 1 l.length (l.map λs=>[Value.string s]).flatten)
def cCh(l:Ψ):(l.map λs=>[Value.string s]).flatten=l.map Value.string:=by
 induction l with
 | nil=>rfl
 | cons a l ih=>simp[ih]
structure G2(l:List dE)(aw kind mark:Int)(r3:cY):Prop where
 aw:(lD ⟨l,false⟩).1.aw=aw
 kind:(lD ⟨l,false⟩).1.kind=kind
 mark:(lD ⟨l,false⟩).1.mark=mark
 ch:(lD ⟨l,false⟩).1.changes=(kT ri (dC 16 r3).1.toNat (dC 16 r3).2).1
 sg:∀r4,(kT ri (dC 16 r3).1.toNat (dC 16 r3).2).2=r4->(lD ⟨l,false⟩).1.signals=(kT pq (dC 2 r4).1.toNat (dC 2 r4).2).1/\(lD ⟨l,false⟩).2=(kT pq (dC 2 r4).1.toNat (dC 2 r4).2).2
def G2.is(l:List dE):G2 l (fz ⟨l,false⟩).1 (dC 3 (fz ⟨l,false⟩).2).1 (fz (dC 3 (fz ⟨l,false⟩).2).2).1 (fz (dC 3 (fz ⟨l,false⟩).2).2).2:=⟨rfl,rfl,rfl,rfl,λr4 h=>by subst h;exact⟨rfl,rfl⟩⟩
def Z6(X:Μ)(H:bw)(v:Ε)(bs:Φ)(hv:dS X v bs):SP 105 [v] [X,.mem H] (wu X H bs):=by
 refine Enzz λW F w hS=>?_;apply cEf;delta Lx aI aR cL ai cQ bI;refine Gb λzb w hS=>?_;refine Cc (yD X v bs hv) ?_;clear hS;rintro r post hq w hS;unfold wq at hq;cases hd:jD bs with
 | error e=>
  rw[hd]at hq
  obtain⟨rfl,rfl⟩:=hq;have he:=HR hd;(try simp only[app]at hS);refine Gp ?_
  refine za (λ_=>?_) (λh=>absurd he h);refine Gn λw hS=>?_;exact⟨[X,.mem H],by unfold wu;rw[a_6 hd];exact⟨he,H,bw.le_refl H,rfl,rfl⟩,aW hS⟩
 | ok l=>
  rw[hd]at hq
  obtain⟨lv,rfl,rfl⟩:=hq;(try simp only[app]at hS);refine Gp ?_
  refine za (λh=>absurd rfl h) (λ_=>?_);refine Cc (Za lv l) ?_;clear hS;rintro _ post ⟨rp,rfl,rfl⟩ w hS;try simp only[app]at hS
  refine Cc (zP rp ⟨l,false⟩) ?_;clear hS;rintro v1 post ⟨rfl,rfl⟩ w hS;try simp only[app]at hS
  refine Cc (zy rp _ 3) ?_;clear hS;rintro v1 post ⟨rfl,rfl⟩ w hS;try simp only[app]at hS
  refine Cc (zP rp _) ?_;clear hS;rintro v1 post ⟨rfl,rfl⟩ w hS;try simp only[app]at hS
  have hI:=G2.is l;generalize (fz (dC 3 (fz ⟨l,false⟩).2).2).1=mark at *
  generalize (fz (dC 3 (fz ⟨l,false⟩).2).2).2=r3 at *
  generalize (dC 3 (fz ⟨l,false⟩).2).1=kind at *
  generalize (fz ⟨l,false⟩).1=aw at *
  have nf:=BM (m:=16) (by decide) r3;refine Gp ?_;refine Gb λxb w hS=>?_;have hS:SL W (D6 Θ []::_) _:=bR.nil hS;have hS:SL W (Ed Θ []::_) _:=bR.nil hS;refine Cc (zy rp r3 16) ?_;clear hS;rintro v1 post ⟨rfl,rfl⟩ w hS;try simp only[app]at hS
  have l_:=hI.ch;have Bf:=hI.sg;generalize (dC 16 r3).1=n1 at *
  generalize (dC 16 r3).2=r2 at *
  refine⟨λus w=>∃(k:Nat) (jC:List ep) (r:cY) (cv:Ε),us=[Γ k]/\py ri n1.toNat r2 jC k r/\SL W (D6 cv jC::.ob (fm rp r)::Ed Θ []::.pt xb [Γ aw,Γ kind,cv,Θ,Γ mark] 101::Hr zb::X::.mem H::F) w,
   λus _=>match us with|[.int _ i]=>i.toNat|_=>0,⟨n1.toNat,[],r2,Θ,by rw[show ((n1.toNat:Nat):Int)=n1 by omega],py.start _ _ _,aW hS⟩,?_⟩
  clear hS;rintro v8 w ⟨k,jC,r,cv,cP,hM,hS⟩;cases cP;have hle:=hM.le;refine bZ (λh=>?_) (λh=>?_)
  ·obtain⟨k,rfl⟩:∃j,k=j+1:=⟨k-1,by omega⟩;have hM:=hM.step;refine Gn λw hS=>?_;refine Cg (YZ rp r) λw hS=>?_;refine Gm λb w hS=>?_;refine yx (n:=jC.length) (xs:=jC) (y:=(ri r).1) (enc:=fR) hS Xr Xh te (λx=>Sw x) rfl (by omega) (by omega) λu w hS=>?_;have h1:=bR.one hS;refine Gn λw hS=>?_;refine⟨⟨k,_,_,u,by rw[show ((k+1:Nat):Int)-1=(k:Int) by omega],hM,?_⟩,by dsimp only;omega⟩;have hS:=hS.p8 (x:=(ri r).1);exact aW hS
  obtain rfl:k=0:=by omega
  rw[hM.stop]at l_ Bf
  obtain⟨FL,dJ⟩:=Bf r rfl;have xF:=BM (m:=2) (by decide) r;refine Cc (zy rp r 2) ?_;clear hS;rintro v1 post ⟨rfl,rfl⟩ w hS;try simp only[app]at hS
  generalize (dC 2 r).1=n2 at *
  generalize (dC 2 r).2=r5 at *
  refine⟨λus w=>∃(k:Nat) (BL:Ψ) (r:cY) (sv:Ε),us=[Γ k]/\py pq n2.toNat r5 BL k r/\SL W (Ed sv BL::.ob (fm rp r)::D6 cv jC::.pt xb [Γ aw,Γ kind,cv,sv,Γ mark] 101::Hr zb::X::.mem H::F) w,
   λus _=>match us with|[.int _ i]=>i.toNat|_=>0,⟨n2.toNat,[],r5,Θ,by rw[show ((n2.toNat:Nat):Int)=n2 by omega],py.start _ _ _,aW hS⟩,?_⟩
  clear hS;rintro v8 w ⟨k,BL,r,sv,cP,uw,hS⟩;cases cP;have hle:=uw.le;refine bZ (λh=>?_) (λh=>?_)
  ·obtain⟨k,rfl⟩:∃j,k=j+1:=⟨k-1,by omega⟩;have uw:=uw.step;refine Gn λw hS=>?_;refine Cg (yF rp r) λw hS=>?_;refine Gm λb w hS=>?_;refine yx (n:=BL.length) (xs:=BL) (y:=(pq r).1) (enc:=λs=>[Value.string s]) hS Xr Xh (λ_=>rfl) (by simp[Value.oneCell']) rfl (by omega) (by omega) λu w hS=>?_;have h1:=bR.one hS;refine Gn λw hS=>?_;refine⟨⟨k,_,_,u,by rw[show ((k+1:Nat):Int)-1=(k:Int) by omega],uw,?_⟩,by dsimp only;omega⟩;have hS:=hS.p8 (x:=(pq r).1);exact aW hS
  obtain rfl:k=0:=by omega
  rw[uw.stop]at FL dJ
  have kB:=hI.aw;have bVp:=hI.kind;have bVx:=hI.mark;have l_:(lD ⟨l,false⟩).1.changes=jC:=l_;have FL:(lD ⟨l,false⟩).1.signals=BL:=FL;have dJ:(lD ⟨l,false⟩).2=r:=dJ;generalize ht:(lD ⟨l,false⟩).1=t at *
  generalize hr:(lD ⟨l,false⟩).2=r' at *
  subst dJ l_ FL;obtain⟨H1,dj,hO,hS⟩:=bR.freeze (SL.b_ hS (t:=.mem H::D6 cv t.changes::Ed sv t.signals::.ob (fm rp r')::.pt xb [Γ aw,Γ kind,cv,sv,Γ mark] 101::Hr zb::X::F) Xi);obtain⟨H2,dU,hN,hS⟩:=bR.freeze hS;rw[cCh]at hN
  have hx:lF H2 ⟨aw,kind,cv,sv,mark⟩ t:=⟨kB.symm,bVp.symm,bVx.symm,hO.mono dU,hN⟩;have e_:=bw.le_trans dj dU;have gF:=hO.one;have jY:=hN.one;refine Cg (y6 rp r') λw hS=>?_;have fu:¬(r'.bad=false/\r'.l=[]/\eg t=true)->∀{w:Ζ},SL W (X::.mem H2::F) w->∃post,wu X H bs (.tuple #[agg (fr Ag),Γ 3]) post/\SL W (app post F) w:=λh w hS=>⟨[X,.mem H2],by unfold wu;rw[a_8 hd (by rw[ht,hr];exact h)];exact⟨by decide,H2,e_,rfl,rfl⟩,hS⟩;refine zt (λhb=>?_) (λhb=>?_)
  ·have hb:=yy0 hb;refine Gn λw hS=>?_;exact fu (λh=>hb ⟨h.1,h.2.1⟩) (aW hS)
  have hb:=zzp hb;refine Gp ?_;refine Cg (yo H2 ⟨aw,kind,cv,sv,mark⟩ t hx) λw hS=>?_;refine zt (λhm=>?_) (λhm=>?_)
  ·refine Gn λw hS=>?_;exact fu (λh=>by rw[h.2.2]at hm;cases hm) (aW hS)
  refine Gp ?_;refine zr (vs:=fr ⟨aw,kind,cv,sv,mark⟩) hS Xu rfl rfl (AJ gF jY) λw hS=>?_;refine Gp ?_;exact⟨[X,.mem H2],by unfold wu;rw[a_7 hd (by rw[ht,hr];exact⟨hb.1,hb.2,hm⟩),ht];exact⟨⟨aw,kind,cv,sv,mark⟩,H2,e_,rfl,hx,rfl⟩,aW hS⟩
def Yr(H:bw)(v:Ε)(C:List Row)(hC:dq H 2 v C.length (C.map eh).flatten)(hn:C.length<=140737488351232):SP 356 [v] [.mem H] (cE (.bool (rH C)) [.mem H]):=by
 refine Enzz λW F w hS=>?_;apply cKa;delta O3 aI a_ bY ai cQ;refine zo hC ?_;refine⟨λus w=>∃(i:Nat) (k:Int),us=[Γ k,Γ i]/\i<=C.length/\wc 0 C=wc k (C.drop i)/\SL W (.mem H::F) w,λus _=>match us with|[_,.int _ i]=>(C.length-i).toNat|_=>0,⟨0,0,rfl,by omega,rfl,hS⟩,?_⟩;clear hS;rintro v3 v8 w ⟨i,k,cP,hi,hr,hS⟩;cases cP;refine bZ (λh=>?_) (λh=>?_)
 ·have cz:i<C.length:=by omega
  rw[yyq cz,wc]at hr
  refine zD hS Xh jk hC (x:=C[i]) (by simp[cz]) cz ?_;generalize C[i]=r at *
  obtain⟨rk,rv⟩:=r;have hF:∀{w:Ζ} {b:Nat},¬(k<rk/\rk<=1099511627776/\rv.size<=32)->SL W (.pt b [Γ rk,.string rv] 66::.mem H::F) w->∃post,cE (.bool (rH C)) [.mem H] (.bool false) post/\SL W (app post F) w:=λfu hS=>
   ⟨_,⟨by unfold rH;rw[hr,zz2 fu];rfl,rfl⟩,aW hS⟩
  rw[EN];refine Gm λb w hS=>?_;refine za (λh1=>hF (by omega) hS) (λh1=>?_);refine Gp ?_;refine za (λh2=>hF (by omega) hS) (λh2=>?_);refine Gp ?_;refine za (λh3=>hF (by omega) hS) (λh3=>?_);refine Gp ?_;refine⟨⟨i+1,rk,rfl,by omega,?_,aW hS⟩,by dsimp only;omega⟩;rw[hr,zzm (show k<rk/\rk<=1099511627776/\rv.size<=32 by omega)];rfl
 have jO:i=C.length:=by omega
 subst jO;rw[vv3]at hr
 refine zo hC ?_;refine Gp ?_;have e:rH C=decide ((C.length:Int)<=1000):=by
  unfold rH;rw[hr];show (true && _)=_;rw[vv9,yyi];omega
 rw[e];(exact cC hS)
def u9(H:bw)(v:Ε)(ts:List (List Row)):Prop:=∃vs,dq H 1 v ts.length vs/\nD H vs ts
def yQ{H:bw}{v:Ε}{ts:List (List Row)}{K:Ε->Prop}(h:u9 H v ts)(k:K (Γ ts.length)):zd v K:=by
 obtain⟨vs,h1,_⟩:=h;exact zo h1 k
def Y1{W w:Ζ}{l:Β}{H:bw}{v:Ε}{ts:List (List Row)}{j:Nat}{k:IntKind}{K:Ε->Prop}(hS:SL W l w)(hm:Has (.mem H) l)(h:u9 H v ts)(hj:j<ts.length)
  (hK:∀u,dq H 2 u ts[j].length (ts[j].map eh).flatten->K u):zk 1 v (.int k (j:Int)) λp=>cn p w K:=by
 obtain⟨vs,h1,h2⟩:=h;have hl:=h2.1;have hu:vs[j]?=some (vs[j]'(by omega)):=zzc (by omega);exact yP hS hm h1 hj hu (hK _ (h2.2 j _ _ hu (zzc hj)))
def Zm(H:bw)(v:Ε)(aw:Int)(ts:List (List Row))(hv:u9 H v ts)(hn:ts.length<=140737488351232)(hc:∀C∈ts,C.length<=140737488351232):SP 309 [Γ aw,v] [.mem H] (cE (.bool (jd aw ts)) [.mem H]):=by
 refine Enzz λW F w hS=>?_;apply cJe;delta OB aI cL bY ai;have hF:∀{w:Ζ},¬(0<=aw/\aw<=1099511627776/\1<=ts.length/\ts.length<=8)->SL W (.mem H::F) w->∃post,cE (.bool (jd aw ts)) [.mem H] (.bool false) post/\SL W (app post F) w:=λfu hS=>⟨_,⟨by unfold jd;rw[zz2 fu];rfl,rfl⟩,hS⟩;refine Gp ?_;refine za (λh=>hF (by omega) hS) (λh1=>?_);refine Gp ?_;refine za (λh=>hF (by omega) hS) (λh2=>?_);refine yQ hv ?_;refine Gp ?_;refine za (λh=>hF (by omega) hS) (λh3=>?_);refine yQ hv ?_;refine Gp ?_;refine za (λh=>hF (by omega) hS) (λh4=>?_);refine yQ hv ?_;have hM:jd aw ts=ts.all rH:=by unfold jd;rw[zzm (show 0<=aw/\aw<=1099511627776/\1<=ts.length/\ts.length<=8 by omega)];rfl
 refine⟨λus w=>∃i:Nat,us=[Γ i]/\i<=ts.length/\(∀j (h:j<ts.length),j<i->rH ts[j]=true)/\SL W (.mem H::F) w,λus _=>match us with|[.int _ i]=>(ts.length-i).toNat|_=>0,⟨0,rfl,by omega,λj h hj=>by omega,hS⟩,?_⟩;clear hS;rintro v25 w ⟨i,cP,hi,eF,hS⟩;cases cP;refine bZ (λh=>?_) (λh=>?_)
 ·have cz:i<ts.length:=by omega
  refine Y1 hS Xh hv cz λu hu=>?_;refine Cg (Yr H u ts[i] hu (hc _ (zzh cz))) λw hS=>?_;refine zt (λhb=>?_) (λhb=>?_)
  ·refine⟨_,⟨?_,rfl⟩,hS⟩;rw[hM,show ts.all rH=false from ttb.2 ⟨_,zzh cz,by rw[hb];decide⟩]
  refine Gp ?_;refine⟨⟨i+1,rfl,by omega,λj hj i_=>?_,hS⟩,by dsimp only;omega⟩;by_cases e:j=i
  ·subst e;exact hb
  exact eF j hj (by omega)
 refine⟨_,⟨?_,rfl⟩,hS⟩;rw[hM,show ts.all rH=true from zz3.2 λC hC=>by
  obtain⟨j,hj,rfl⟩:=yyl hC;exact eF j hj (by omega)]
def sq(aw:Int)(ts:List (List Row))(i:Nat):List dE:=[iF aw,iF ts.length]++((ts.take i).map ow).flatten
def tg(aw:Int)(ts:List (List Row))(i:Nat)(C:List Row)(j:Nat):List dE:=sq aw ts i++(iF C.length::((C.take j).map th).flatten)
def bFu{aw:Int}{ts:List (List Row)}{i:Nat}(h:i<ts.length):sq aw ts (i+1)=tg aw ts i ts[i] ts[i].length:=by
 unfold sq tg sq ow;rw[zze h,zzt,yyw,wwd,ww6,zz4,zzk]
def bFw{aw:Int}{ts:List (List Row)}{i:Nat}{C:List Row}{j:Nat}(h:j<C.length):tg aw ts i C (j+1)=tg aw ts i C j++[iF C[j].key]++[tF C[j].val]:=by
 unfold tg;rw[zze h,zzt,yyw,wwd,ww6];simp[th]
def bFt(aw:Int)(ts:List (List Row)):sq aw ts ts.length=mX aw ts:=by unfold sq mX;rw[zz4]
def SF{aw:Int}{ts:List (List Row)}(h:∀C∈ts,C.length<=1000)(i:Nat):(sq aw ts i).length<=2+ts.length*2001:=by
 have k:=um (f:=ow) (k:=2001) (ts.take i) λC hC=>by rw[SJ];have:=h C (yyr hC);omega
 have:(ts.take i).length*2001<=ts.length*2001:=yyy _ (by rw[zzg];omega);unfold sq;rw[zza];simp only[zzi,yym];omega
def bFv{aw:Int}{ts:List (List Row)}(h:∀C∈ts,C.length<=1000)(i:Nat){C:List Row}(hC:C.length<=1000)(j:Nat):(tg aw ts i C j).length<=2003+ts.length*2001:=by
 have h1:=SF (aw:=aw) h i;unfold tg;rw[zza,zzi,AP (f:=th) (k:=2) (λ_=>rfl),zzg];omega
def D8(H:bw)(aw:Int)(ts:List (List Row))(u:Ε)(post:Β):Prop:=match EM aw ts with
 | .error e=>u= .tuple #[Θ,Γ e]/\post=[.mem H]
 | .ok b=>∃v,u= .tuple #[v,Γ 0]/\post=[.ob (bR v 5 1 b.length (b.map cX)),.mem H]
def qG(H:bw)(v:Ε)(aw:Int)(ts:List (List Row))(hv:u9 H v ts)(hn:ts.length<=140737488351232)(hc:∀C∈ts,C.length<=140737488351232):SP 249 [Γ aw,v] [.mem H] (D8 H aw ts):=by
 refine Enzz λW F w hS=>?_;apply cH4;delta NQ aI a_ cL ai cQ bI;refine Cg (Zm H v aw ts hv hn hc) λw hS=>?_;refine zt (λh=>?_) (λhm=>?_)
 ·exact⟨[.mem H],by unfold D8 EM;rw[zzb (by rw[h];decide)];exact⟨rfl,rfl⟩,aW hS⟩
 obtain⟨hb,hT⟩:=sM.1 hm;have ux:∀C∈ts,C.length<=1000:=λC hC=>(hT C hC).len;have h8:ts.length*2001<=8*2001:=yyy _ (by omega);refine yQ hv ?_;refine Gm λb w hS=>?_;refine Cc (UU b aw ts.length 2) ?_;clear hS;rintro u post rfl w hS;try simp only[app]at hS
 refine yQ hv ?_;have hS:SL W (kj u (sq aw ts 0)::_) _:=hS;refine⟨λus w=>∃(i:Nat) (u:Ε),us=[u,Γ i]/\i<=ts.length/\SL W (kj u (sq aw ts i)::.mem H::F) w,λus _=>match us with|[_,.int _ i]=>(ts.length-i).toNat|_=>0,⟨0,_,rfl,by omega,aW hS⟩,?_⟩;clear hS;rintro u v24 w ⟨i,_,cP,hi,hS⟩;cases cP;have su:=SF (aw:=aw) ux i;refine bZ (λh=>?_) (λh=>?_)
 ·have cz:i<ts.length:=by omega
  have hs:=bFu (aw:=aw) cz;have E9:=ux _ (zzh cz);refine Y1 hS Xh hv cz λcv sA=>?_;generalize ts[i]=C at *
  refine zo sA ?_;refine Gm λb w hS=>?_;refine Cc (FY b C.length 2) ?_;clear hS;rintro u2 post rfl w hS;try simp only[app]at hS
  refine yc (L:=sq aw ts i) hS Xr (nk hS Xh) (by simp;omega) λu3 w hS=>?_;refine zo sA ?_;have hS:SL W (kj u3 (tg aw ts i C 0)::_) _:=hS;refine⟨λus w=>∃(j:Nat) (u:Ε),us=[u,Γ j]/\j<=C.length/\SL W (kj u (tg aw ts i C j)::.mem H::F) w,λus _=>match us with|[_,.int _ i]=>(C.length-i).toNat|_=>0,⟨0,_,rfl,by omega,aW hS⟩,?_⟩;clear hS;rintro u v36 w ⟨j,_,cP,hj,hS⟩;cases cP;have E8:=bFv (aw:=aw) ux i E9 j;refine bZ (λh=>?_) (λh=>?_)
  ·have gS:j<C.length:=by omega
   have hs2:=bFw (aw:=aw) (ts:=ts) (i:=i) gS;refine zD hS Xh jk sA (x:=C[j]) (by simp[gS]) gS ?_;generalize C[j]=r at *
   obtain⟨rk,rv⟩:=r;rw[EN];refine Gm λb w hS=>?_;refine Gm λb w hS=>?_;refine Cc (FY b rk 2) ?_;clear hS;rintro u4 post rfl w hS;try simp only[app]at hS
   refine yc (L:=tg aw ts i C j) hS Xr (nk hS Xh) (by simp;omega) λu5 w hS=>?_;refine Gp ?_;refine Cg (yN rv) λw hS=>?_;refine Gm λb w hS=>?_;refine yc (M:=[tF rv]) hS Xr (GD hS Xh) (by simp;omega) λu6 w hS=>?_;refine Gp ?_;refine⟨⟨j+1,_,rfl,by omega,?_⟩,by dsimp only;omega⟩;rw[hs2];exact aW hS
  obtain rfl:j=C.length:=by omega
  refine Gp ?_;refine⟨⟨i+1,_,rfl,by omega,?_⟩,by dsimp only;omega⟩;rw[hs];exact hS
 obtain rfl:i=ts.length:=by omega
 rw[bFt]at hS su
 refine Cc (yE (kj u (mX aw ts)) u (mX aw ts) rY.own (by omega)) ?_;clear hS;rintro r post hq w hS;try simp only[app]at hS
 have he:=(UL hm).1;have hl:=Bo hm;unfold rU at hq;rw[he]at hq
 obtain⟨bv,rfl,rfl⟩:=hq;(try simp only[app]at hS);refine Gp ?_
 refine za (λh=>absurd rfl h) (λ_=>?_);refine Cc (Z8 _ bv (jl aw ts) dS.own (by omega)) ?_;clear hS;rintro r post hq w hS;try simp only[app]at hS
 unfold s4 at hq;rw[zzb (by omega)]at hq
 obtain⟨ov,rfl,rfl⟩:=hq;(try simp only[app]at hS);refine Gp ?_
 exact⟨_,by unfold D8 EM;rw[zzd hm];exact⟨ov,rfl,rfl⟩,aW hS⟩
def cCu(r:cY):rR r=iV we (dC 1000 r).1.toNat (dC 1000 r).2:=rfl
def QO(rp:Nat)(r:cY):SP 325 [Δ rp] [.ob (fm rp r)] (λv post=>(rR r).1.length<=1000/\post=[fH v (rR r).1,.ob (fm rp (rR r).2)]):=by
 refine Enzz λW F w hS=>?_;apply cJm;delta OJ aI ai cQ bI;rw[cCu];have nf:=BM (m:=1000) (by decide) r;refine Cc (zy rp r 1000) ?_;clear hS;rintro v1 post ⟨rfl,rfl⟩ w hS;try simp only[app]at hS
 generalize (dC 1000 r).1=n1 at *
 generalize (dC 1000 r).2=r2 at *
 have hS:SL W (fH Θ []::_) _:=bR.nil hS;refine⟨λus w=>∃(k:Nat) (rs:List Row) (r:cY) (rv:Ε),us=[rv,Γ k]/\pA we n1.toNat r2 rs k r/\SL W (fH rv rs::.ob (fm rp r)::F) w,
  λus _=>match us with|[_,.int _ i]=>i.toNat|_=>0,⟨n1.toNat,[],r2,Θ,by rw[show ((n1.toNat:Nat):Int)=n1 by omega],pA.start _ _ _,aW hS⟩,?_⟩
 clear hS;rintro v3 v4 w ⟨k,rs,r,rv,cP,hM,hS⟩;cases cP;have hle:=hM.le;refine bZ (λh=>?_) (λh=>?_)
 ·obtain⟨k,rfl⟩:∃j,k=j+1:=⟨k-1,by omega⟩;refine Cg (y7 rp r) λw hS=>?_;refine zt (λhb=>?_) (λhb=>?_)
  ·have hM:=hM.step hb;refine Cc (zP rp r) ?_;clear hS;rintro v1 post ⟨rfl,rfl⟩ w hS;try simp only[app]at hS
   refine Cg (yF rp _) λw hS=>?_;refine Gm λb w hS=>?_;refine yx (n:=rs.length) (xs:=rs) (y:=(we r).1) (enc:=eh) hS Xr Xh jk (λx=>vo x) rfl (by omega) (by omega) λu w hS=>?_;refine Gp ?_;refine⟨⟨k,_,_,u,by rw[show ((k+1:Nat):Int)-1=(k:Int) by omega],hM,?_⟩,by dsimp only;omega⟩;have hS:=hS.p8 (x:=(we r).1);have hS:SL W (fH u (rs++[(we r).1])::_::.ob (fm rp (we r).2)::F) _:=hS;exact aW hS
  rw[hM.stop (.inr hb)];exact⟨_,⟨by show rs.length<=1000;omega,rfl⟩,aW hS⟩
 rw[hM.stop (.inl (by omega))];exact⟨_,⟨by show rs.length<=1000;omega,rfl⟩,aW hS⟩
def nD.nil(H:bw):nD H [] []:=⟨rfl,λi v C h1 h2=>by simp at h1⟩
def nD.snoc{H:bw}{vs:Ξ}{ts:List (List Row)}(h:nD H vs ts){v:Ε}{C:List Row}(hv:dq H 2 v C.length (C.map eh).flatten):nD H (vs++[v]) (ts++[C]):=by
 have hl:=h.1;refine⟨by rw[zza,zza,hl];rfl,λi u D h1 h2=>?_⟩;rcases xx4 i vs.length with hi|hi
 ·rw[zzs hi]at h1
  rw[zzs (by omega)]at h2
  exact h.2 i u D h1 h2
 rw[yyb hi]at h1
 rw[yyb (by omega)]at h2
 obtain⟨e,rfl⟩:i-vs.length=0/\v=u:=by
  cases hk:i-vs.length with
  | zero=>rw[hk]at h1;exact⟨rfl,by simpa using h1⟩
  | succ n=>rw[hk]at h1;simp at h1
 rw[show i-ts.length=0 by omega]at h2
 obtain rfl:C=D:=by simpa using h2
 exact hv
def BX(X:Μ)(H:bw)(b:Φ)(u:Ε)(post:Β):Prop:=match ky b with
 | none=>u= .tuple #[Γ 0,Θ,Γ 3]/\∃H',H.le H'/\post=[X,.mem H']
 | some x=>∃v H',H.le H'/\u9 H' v x.2/\u= .tuple #[Γ x.1,v,Γ 0]/\post=[X,.mem H']
def UM{l:List dE}(h:¬((mJ ⟨l,false⟩).2.bad=false/\(mJ ⟨l,false⟩).2.l=[]/\jd (mJ ⟨l,false⟩).1.1 (mJ ⟨l,false⟩).1.2=true)):uO l=none:=by
 unfold uO;simp only;rw[zzb h]
def bXt{l:List dE}(h:(mJ ⟨l,false⟩).2.bad=false/\(mJ ⟨l,false⟩).2.l=[]/\jd (mJ ⟨l,false⟩).1.1 (mJ ⟨l,false⟩).1.2=true):uO l=some (mJ ⟨l,false⟩).1:=by
 unfold uO;simp only;rw[zzd h]
structure GS(l:List dE)(aw:Int)(r1:cY):Prop where
 aw:(mJ ⟨l,false⟩).1.1=aw
 ts:(mJ ⟨l,false⟩).1.2=(kT rR (dC 8 r1).1.toNat (dC 8 r1).2).1
 rd:(mJ ⟨l,false⟩).2=(kT rR (dC 8 r1).1.toNat (dC 8 r1).2).2
def GS.is(l:List dE):GS l (fz ⟨l,false⟩).1 (fz ⟨l,false⟩).2:=⟨rfl,rfl,rfl⟩
def qF(X:Μ)(H:bw)(v:Ε)(bs:Φ)(hv:dS X v bs)(hN:bs.length<=140737488355328):SP 271 [v] [X,.mem H] (BX X H bs):=by
 refine Enzz λW F w hS=>?_;apply cId;delta NZ aI cL ai bI;have fu:ky bs=none->∀{w:Ζ} {H':bw},H.le H'->SL W (X::.mem H'::F) w->∃post,BX X H bs (.tuple #[Γ 0,Θ,Γ 3]) post/\SL W (app post F) w:=λh w H' hh hS=>⟨[X,.mem H'],by unfold BX;rw[h];exact⟨rfl,H',hh,rfl⟩,hS⟩;refine Cc (YR X v bs hv hN) ?_;clear hS;rintro r post hq w hS;unfold tY at hq;cases ht:gY bs with
 | error e=>
  rw[ht]at hq
  obtain⟨rfl,rfl⟩:=hq;have hd:ky bs=none:=by unfold ky;rw[ht]
  have he:e≠0:=by have:=XA ht;omega
  (try simp only[app]at hS);refine Gp ?_
  exact za (λ_=>fu hd (bw.le_refl H) (aW hS)) (λh=>absurd he h)
 | ok pn=>
  obtain⟨p,n⟩:=pn;rw[ht]at hq
  obtain⟨pv,rfl,rfl⟩:=hq;(try simp only[app]at hS);refine Gp ?_
  refine za (λh=>absurd rfl h) (λ_=>?_);refine yp hS Xh hv ?_;refine bZ (λh=>?_) (λh=>?_)
  ·have hd:ky bs=none:=by unfold ky;rw[ht];simp only;rw[zzb (by omega)]
   exact fu hd (bw.le_refl H) (aW hS)
  have FH:n=bs.length:=by omega
  refine Cc (yD _ pv p dS.own) ?_;clear hS;rintro r post hq w hS;unfold wq at hq;cases hd:jD p with
  | error e=>
   rw[hd]at hq
   obtain⟨rfl,rfl⟩:=hq;have he:=HR hd;have hd:ky bs=none:=by unfold ky;rw[ht];simp only;rw[zzd FH,hd]
   (try simp only[app]at hS);refine Gp ?_
   exact za (λ_=>fu hd (bw.le_refl H) (aW hS)) (λh=>absurd he h)
  | ok l=>
   rw[hd]at hq
   obtain⟨lv,rfl,rfl⟩:=hq;have hI:=R6 ht FH hd;(try simp only[app]at hS);refine Gp ?_
   refine za (λh=>absurd rfl h) (λ_=>?_);refine Cc (Za lv l) ?_;clear hS;rintro _ post ⟨rp,rfl,rfl⟩ w hS;try simp only[app]at hS
   refine Cc (zP rp ⟨l,false⟩) ?_;clear hS;rintro v1 post ⟨rfl,rfl⟩ w hS;try simp only[app]at hS
   have hR:=GS.is l;generalize (fz ⟨l,false⟩).1=aw at *
   generalize (fz ⟨l,false⟩).2=r1 at *
   have nf:=BM (m:=8) (by decide) r1;refine Cc (zy rp r1 8) ?_;clear hS;rintro v1 post ⟨rfl,rfl⟩ w hS;try simp only[app]at hS
   have gM:=hR.ts;have dJ:=hR.rd;generalize (dC 8 r1).1=n1 at *
   generalize (dC 8 r1).2=r2 at *
   have hS:SL W (.ob (bR Θ 67 1 ([]:List (List Row)).length [])::_) _:=bR.nil hS;refine⟨λus w=>∃(k:Nat) (ts:List (List Row)) (r:cY) (tv:Ε) (vs:Ξ) (H':bw),us=[tv,Γ k]/\py rR n1.toNat r2 ts k r/\(∀C∈ts,C.length<=1000)/\H.le H'/\nD H' vs ts/\SL W (.ob (bR tv 67 1 ts.length vs)::.ob (fm rp r)::X::.mem H'::F) w,
    λus _=>match us with|[_,.int _ i]=>i.toNat|_=>0,⟨n1.toNat,[],r2,Θ,[],H,by rw[show ((n1.toNat:Nat):Int)=n1 by omega],py.start _ _ _,by simp,bw.le_refl H,nD.nil H,aW hS⟩,?_⟩
   clear hS;rintro tv v12 w ⟨k,ts,r,_,vs,H',cP,hM,E9,hh,pQ,hS⟩;cases cP;have hle:=hM.le;refine bZ (λh=>?_) (λh=>?_)
   ·obtain⟨k,rfl⟩:∃j,k=j+1:=⟨k-1,by omega⟩;have hM:=hM.step;refine Cc (QO rp r) ?_;clear hS;rintro rv post ⟨hl,rfl⟩ w hS;try simp only[app]at hS
    obtain⟨H2,dU,hO,hS⟩:=zz (H:=H') (v:=rv) hS Xp;have gF:=hO.one;refine zN hS (SN gF) λb w hS=>?_;refine zI (n:=ts.length) (m:=1) hS Xr (kf (cs:=[rv]) hS Xh rfl) rfl rfl (by simpa using gF) (by omega) (by omega) ?_;clear hS;intro u w hS;refine Gp ?_;refine⟨⟨k,_,_,u,vs++[rv],H2,by rw[show ((k+1:Nat):Int)-1=(k:Int) by omega],hM,λC hC=>?_,bw.le_trans hh dU,(pQ.mono dU).snoc hO,?_⟩,by dsimp only;omega⟩
    ·rcases zz5.1 hC with hC|hC
     ·exact E9 C hC
     rw[zz7.1 hC];exact hl
    have hS:=hS.p8 (x:=(rR r).1);exact aW hS
   obtain rfl:k=0:=by omega
   rw[hM.stop]at gM dJ
   have gM:(mJ ⟨l,false⟩).1.2=ts:=gM;have dJ:(mJ ⟨l,false⟩).2=r:=dJ;have kB:=hR.aw;obtain⟨H2,dU,hO,hS⟩:=zz (H:=H') (v:=tv) hS Xp;have e_:=bw.le_trans hh dU;have hT:u9 H2 tv ts:=⟨vs,hO,pQ.mono dU⟩;refine Cg (y6 rp r) λw hS=>?_;refine zt (λhb=>?_) (λhb=>?_)
   ·have hb:=yy0 hb;exact fu (by rw[hI];exact UM λh=>hb ⟨by rw[<- dJ];exact h.1,by rw[<- dJ];exact h.2.1⟩) e_ (aW hS)
   have hb:=zzp hb;refine Cg (Zm H2 tv aw ts hT (by omega) (λC hC=>by have:=E9 C hC;omega)) λw hS=>?_;refine zt (λhm=>?_) (λhm=>?_)
   ·exact fu (by rw[hI];exact UM λh=>by rw[kB,gM,hm]at h;cases h.2.2) e_ (aW hS)
   skip
   have he:=bXt (l:=l) ⟨by rw[dJ];exact hb.1,by rw[dJ];exact hb.2,by rw[kB,gM];exact hm⟩;refine⟨[X,.mem H2],?_,aW hS⟩;unfold BX;rw[hI,he];simp only;rw[kB,gM];exact⟨tv,H2,e_,hT,rfl,rfl⟩
abbrev mr(tp dp lp:Nat)(dX image:Int):Ξ:=[cG tp,cG dp,cG lp,Γ dX,Γ image]
def df(sp tp dp lp:Nat)(k:cN):zB:=zG True [.pt sp (mr tp dp lp k.dX k.image) 156,.ob (dN tp k.ts),.ob (dd lp dp k.g)]
section
variable {W w:Ζ} {l F:Β} {sp tp dp lp:Nat}
def df.iff{k:cN}:SL W (.ob (df sp tp dp lp k)::l) w↔SL W (.pt sp (mr tp dp lp k.dX k.image) 156::.ob (dN tp k.ts)::.ob (dd lp dp k.g)::l) w:=by
 unfold df;simp only[SL.fact,uut,zzv,zzr]
def df.put(k:cN)(hS:SL W l w)(p:gC [.pt sp (mr tp dp lp k.dX k.image) 156,.ob (dN tp k.ts),.ob (dd lp dp k.g)] l F):SL W (.ob (df sp tp dp lp k)::F) w:=df.iff.2 (hS.pick p)
end
def df.eS{W w:Ζ}{l F:Β}{sp tp dp lp:Nat}{g:cU}{d:DS}{ts:iN}{dX image:Int}(hS:SL W l w)(p:gC [.pt sp (mr tp dp lp dX image) 156,.ob (dN tp ts),.ob (dd lp dp g)] l F):SL W (.ob (df sp tp dp lp ⟨g,d,ts,dX,image⟩)::F) w:=df.iff.2 (hS.pick p)
structure jy(k:cN)(N:Nat):Prop where
 g:iu k.g N
 d:k.d.Ok N
 rows:∀C∈k.ts,nE C
 len:∀C∈k.ts,C.length<=1000
 n1:1<=k.ts.length
 n8:k.ts.length<=8
section
variable (sp tp dp lp:Nat) (k:cN) {N:Nat} (hg:iu k.g N) (hN:N<=1000000000)
include hg hN
def zE:SP 48 [cG sp] [.ob (df sp tp dp lp k)] (cE (Γ (cI k.g.bF)) [.ob (df sp tp dp lp k)]):=by
 refine Enzz λW F w hS=>?_;apply cK1;delta Pr bU bV;have hS:=df.iff.1 hS;refine Gp ?_;refine Cg (ZZ lp dp k.g hg.ok (by omega)) λw hS=>?_;exact⟨_,⟨rfl,rfl⟩,SL.b_ (df.put k hS Xp) Xi⟩
def ZA:SP 49 [cG sp] [.ob (df sp tp dp lp k)] (cE (Γ (fj k.g.bF)) [.ob (df sp tp dp lp k)]):=by
 refine Enzz λW F w hS=>?_;apply cK2;delta Ps bU bV;have hS:=df.iff.1 hS;refine Gp ?_;refine Cg (Zu lp dp k.g hg.ok (by omega)) λw hS=>?_;exact⟨_,⟨rfl,rfl⟩,SL.b_ (df.put k hS Xp) Xi⟩
def u_(sp tp dp lp:Nat)(k:cN)(H:bw)(aw:Int)(r:Ε)(post:Β):Prop:=match k.gX aw with
 | .error e=>e≠0/\∃H',H.le H'/\r= .tuple #[agg (fr Ag),Γ e]/\post=[.ob (df sp tp dp lp k),.mem H']
 | .ok t=>∃x H',H.le H'/\r= .tuple #[agg (fr x),Γ 0]/\lF H' x t/\post=[.ob (df sp tp dp lp k),.mem H']
def yR(H:bw)(aw:Int)(hl : -9000000000000000000<=aw/\aw<=9000000000000000000):SP 86 [cG sp,Γ aw] [.ob (df sp tp dp lp k),.mem H] (u_ sp tp dp lp k H aw):=by
 refine Enzz λW F w hS=>?_;apply cLv;delta PW aI bU bV ai bI;refine Gb λzb w hS=>?_;have hS:=df.iff.1 (SL.b_ hS (t:=.ob (df sp tp dp lp k)::.pt zb [Γ 0,Γ 0,Θ,Θ,Γ 0] 101::.mem H::F) Xi);refine Gp ?_;refine Cc (Ya lp dp k.g hg.ok (by omega) aw hl) ?_;clear hS;rintro r post hq w hS;unfold Eb at hq;cases hr:mN k.g.bF aw with
 | none=>
  rw[hr]at hq
  obtain⟨rfl,rfl⟩:=hq;have he:k.gX aw= .error 5:=by unfold cN.gX;rw[hr]
  try simp only[app]at hS
  have hS:=df.put k hS Xp;refine Gp ?_;refine za (λ_=>?_) (λh=>absurd (by decide) h);refine Gn λw hS=>?_;exact⟨[.ob (df sp tp dp lp k),.mem H],by unfold u_;rw[he];exact⟨by decide,H,bw.le_refl H,rfl,rfl⟩,aW hS⟩
 | some bs=>
  rw[hr]at hq
  obtain⟨u,rfl,rfl⟩:=hq;have he:k.gX aw=lH bs:=by unfold cN.gX;rw[hr]
  try simp only[app]at hS
  have hS:=df.put k hS Xp;refine Gp ?_;refine za (λh=>absurd rfl h) (λ_=>?_);refine Cc (Z6 (.ob (bR u 5 1 bs.length (bs.map cX))) H u bs dS.own) ?_;clear hS;rintro r post hq w hS;unfold wu at hq;cases hd:lH bs with
  | error e=>
   rw[hd]at hq
   obtain⟨dQ,H',hh,rfl,rfl⟩:=hq;try simp only[app]at hS
   unfold fr Ag;refine Gn λw hS=>?_;refine⟨[.ob (df sp tp dp lp k),.mem H'],?_,aW hS⟩;unfold u_;rw[he,hd];exact⟨dQ,H',hh,rfl,rfl⟩
  | ok t=>
   rw[hd]at hq
   obtain⟨x,H',hh,rfl,hx,rfl⟩:=hq;try simp only[app]at hS
   have gF:=hx.cv.one;have jY:=hx.sv.one;refine Gp ?_;refine zr (vs:=fr x) hS Xu rfl rfl (AJ (aw:=x.aw) (kind:=x.kind) (mark:=x.mark) gF jY) λw hS=>?_;refine zA hS Xh rfl ?_;refine⟨[.ob (df sp tp dp lp k),.mem H'],?_,aW hS⟩;unfold u_;rw[he,hd];exact⟨x,H',hh,rfl,hx,rfl⟩
end
section
variable (sp tp dp lp:Nat) (k:cN)
def qS(t key n:Int)(hn:∀C∈k.ts,C.length<=1000000)(hs:∀C∈k.ts,gg C)(h1 : -1000000<=n)(h2:n<=9000000000000000000):SP 172 [cG sp,Γ t,Γ key,Γ n] [.ob (df sp tp dp lp k)] (λu post=>post=[fH u (k.wL t key n),.ob (df sp tp dp lp k)]):=by
 refine Enzz λW F w hS=>?_;apply cF4;delta MC bU;have hS:=df.iff.1 hS;refine Gp ?_;refine Cc (qV tp k.ts t key n hn hs h1 h2) ?_;clear hS;rintro u post rfl w hS;try simp only[app]at hS
 exact⟨_,rfl,SL.b_ (t:=fH u (od (ib k.ts t) key n)::.ob (df sp tp dp lp k)::F) (df.put k hS Xp) Xi⟩
end
def ZT(H:bw)(v:Ε)(l:List ep)(n:Int)(hv:dq H 4 v l.length (l.map fR).flatten)(hl:l.length<=140737488351232):SP 109 [v,Γ n] [.mem H] (cE (.bool (decide (∀c∈l,c.table<n))) [.mem H]):=by
 refine Enzz λW F w hS=>?_;apply cEj;delta LB aI a_ bY ai cQ;refine zo hv ?_;refine⟨λus w=>∃i:Nat,us=[Γ i]/\i<=l.length/\(∀j (h:j<l.length),j<i->l[j].table<n)/\SL W (.mem H::F) w,λus _=>match us with|[.int _ i]=>(l.length-i).toNat|_=>0,⟨0,rfl,by omega,λj h hj=>by omega,hS⟩,?_⟩;clear hS;rintro v9 w ⟨i,cP,hi,eF,hS⟩;cases cP;refine bZ (λh=>?_) (λh=>?_)
 ·have cz:i<l.length:=by omega
  refine zD hS Xh te hv (x:=l[i]) (by simp[cz]) cz ?_;have hf:¬l[i].table<n->decide (∀c∈l,c.table<n)=false:=λh=>zz2 λh2=>h (h2 _ (zzh cz));have IB:l[i].table<n->∀j (h:j<l.length),j<i+1->l[j].table<n:=λh j hj i_=>by
   by_cases e:j=i
   ·subst e;exact h
   exact eF j hj (by omega)
  clear eF;generalize l[i]=c at *
  obtain⟨ct,ck,cg,cv⟩:=c;rw[Sv];refine Gm λb w hS=>?_;refine za (λhb=>?_) (λhb=>?_)
  ·rw[hf (by show ¬ct<n;omega)];(exact cC hS)
  refine Gp ?_;refine⟨⟨i+1,rfl,by omega,IB (by show ct<n;omega),aW hS⟩,by dsimp only;omega⟩
 rw[show decide (∀c∈l,c.table<n)=true from zzm λc hc=>by
  obtain⟨j,hj,rfl⟩:=yyl hc;exact eF j hj (by omega)]
 (exact cC hS)
def Vt{t:cF}(h:eg t=true){n:Int}(h1:1<=n)(h2:n<=1099511627776):eg {t with aw:=n}=true:=by
 obtain⟨_,h3⟩:=vU.1 h;exact vU.2 ⟨⟨h1,h2⟩,h3⟩
abbrev Ah(sp tp dp lp:Nat)(H:bw)(y:cN × (Int × Int)):Ε->Β->Prop:=cE (.tuple #[Γ y.2.1,Γ y.2.2]) [.ob (df sp tp dp lp y.1),.ob (bX dp y.1.d),.mem H]
def YO(sp tp dp lp:Nat)(k:cN)(H:bw)(x:mU)(t:cF)(hx:lF H x t)(hm:eg t=true){N:Nat}(hk:jy k N)(hN:N<=1000000000)(dV:k.d.ops<=90000):
  SP 111 [cG sp,agg (fr x)] [.ob (df sp tp dp lp k),.ob (bX dp k.d),.mem H] (Ah sp tp dp lp H (k.fU t)):=by
 refine Enzz λW F w hS=>?_;apply cEm;delta LF aI bU a_ cL ai;have hg:=hk.g;obtain⟨ht1,FM,ht3,ht4,ht5,Ur,ht7⟩:=mj hm;have hd0:=sB hg.ok.bF;have I_:∀C∈k.ts,C.length<=1000000:=λC hC=>by have:=hk.len C hC;omega
 have fS:∀C∈k.ts,gg C:=λC hC=>(hk.rows C hC).sorted;have h8:=hk.n8;refine zw hS λxb w hS=>?_;unfold fr at hS;rw[hx.aw,hx.kind,hx.mark]at hS
 have hS:=df.iff.1 (SL.b_ hS (t:=.ob (df sp tp dp lp k)::tZ xb x t::.ob (bX dp k.d)::.mem H::F) Xi);refine Gp ?_;refine Cg (zM dp k.d) λw hS=>?_;cases ho:k.d.off with
 | true=>
  refine zq ?_;rw[show k.fU t=(k,(0,8)) by unfold cN.fU;rw[zzd ho]];exact⟨_,⟨rfl,rfl⟩,SL.b_ (df.put k hS Xp) Xi⟩
 | false=>
  refine zp ?_;refine Gn λw hS=>?_;refine Cg (Q9 tp k.ts H x.cv t.changes hx.cv (by omega) fS I_ (by omega) (by omega)) λw hS=>?_;refine zt (λhf=>?_) (λhf=>?_)
  ·rw[show k.fU t=(k,(0,7)) by unfold cN.fU;rw[zzb (by simp[ho]),zzd (.inl hf)]];exact⟨_,⟨rfl,rfl⟩,SL.b_ (df.put k hS Xp) Xi⟩
  have hS:=df.put k hS Xp;refine Cg (zE sp tp dp lp k hg hN) λw hS=>?_;refine za (λhh=>?_) (λhh=>?_)
  ·rw[show k.fU t=(k,(0,7)) by unfold cN.fU;rw[zzb (by simp[ho]),zzd (.inr hh)]];exact cC hS
  refine Cg (zE sp tp dp lp k hg hN) λw hS=>?_;have uF:=Vt hm (n:=cI k.g.bF+1) (by omega) (by omega);have oD:lF H ⟨cI k.g.bF+1,t.kind,x.cv,x.sv,t.mark⟩ {t with aw:=cI k.g.bF+1}:=⟨rfl,rfl,rfl,hx.cv,hx.sv⟩;have Tk:k.fU t=(let r:=eO k.g k.d (gi {t with aw:=cI k.g.bF+1});if r.2.2=0 then ({k with g:=r.1.1,d:=r.1.2,ts:=fV k.ts t.changes},(cI k.g.bF+1,0)) else ({k with g:=r.1.1,d:=r.1.2},(0,r.2.2))):=by
   unfold cN.fU;rw[zzb (by simp[ho]),zzb (by rw[hf];simp;omega)]
  have o9:=HF uF;have Ts:=RC uF;rw[Tk];clear Tk;generalize hq:({t with aw:=cI k.g.bF+1}:cF)=t2 at *
  have A6:1<=cI k.g.bF+1:=by omega
  generalize cI k.g.bF+1=aw at *
  refine Cc (Z7 H ⟨aw,t.kind,x.cv,x.sv,t.mark⟩ t2 oD) ?_;clear hS;rintro r post hq w hS;unfold B0 at hq;rw[Ts]at hq
  obtain⟨bv,rfl,rfl⟩:=hq;try simp only[app]at hS
  have hS:=df.iff.1 (SL.b_ hS (t:=.ob (df sp tp dp lp k)::.ob (bR bv 5 1 (nG t2).length ((nG t2).map cX))::.ob (bX dp k.d)::.pt xb [Γ aw,Γ t.kind,x.cv,x.sv,Γ t.mark] 101::.mem H::F) Xi);refine Gp ?_;refine⟨λus w=>us=[Γ (eO k.g k.d (gi t2)).2.2]/\SL W (.ob (dd lp dp (eO k.g k.d (gi t2)).1.1)::.ob (bX dp (eO k.g k.d (gi t2)).1.2)::.pt sp (mr tp dp lp k.dX k.image) 156::.ob (dN tp k.ts)::.pt xb [Γ aw,Γ t.kind,x.cv,x.sv,Γ t.mark] 101::.mem H::F) w,?_,?_⟩
  ·refine Gp ?_;refine za (λ_=>?_) (λh=>absurd rfl h);refine Gp ?_;refine Cg (Zg (.ob (bR bv 5 1 (nG t2).length ((nG t2).map cX))) lp dp k.g k.d bv (nG t2) dS.own (by omega) hg.ok (by omega) hk.d (by omega) dV) λw hS=>?_;exact aW hS
  clear hS;rintro v7 w ⟨cP,hS⟩;cases cP;generalize eO k.g k.d (gi t2)=r at *
  obtain⟨⟨g',d'⟩,n',e'⟩:=r;simp only at hS ⊢;refine bZ (λhe=>?_) (λhe=>?_)
  ·rw[zzb he];exact⟨_,⟨rfl,rfl⟩,SL.b_ (df.eS (d:=d') hS Xp) Xi⟩
  have he:e'=0:=by omega
  rw[zzd he];refine Gn λw hS=>?_;refine Cg (ZL tp k.ts H x.cv t.changes hx.cv (by omega) fS 1000 hk.len (by omega)) λw hS=>?_;have eF:t.changes.all (ij k.ts.length)=true:=by
   unfold k_ at hf;rw[zzu]at hf
   exact hf.1
  rw[zzd eF]at hS
  exact⟨_,⟨rfl,rfl⟩,SL.b_ (df.eS (d:=d') hS Xp) Xi⟩
def Y7(sp tp dp lp:Nat)(k:cN)(H:bw)(sv cv:Ε)(sg:Ψ)(l:List ep)(hs:dq H 1 sv sg.length (sg.map Value.string))(hc:dq H 4 cv l.length (l.map fR).flatten)(hl:l.length<=140737488351232){N:Nat}(hk:jy k N)(hN:N<=1000000000)(dV:k.d.ops<=90000):
  SP 67 [cG sp,sv,cv] [.ob (df sp tp dp lp k),.ob (bX dp k.d),.mem H] (Ah sp tp dp lp H (k.kx sg l)):=by
 refine Enzz λW F w hS=>?_;apply cLi;delta PJ bU cL ai bI;have vQ:=hs.one;have gF:=hc.one;have hx:lF H ⟨1,1,cv,sv,0⟩ ⟨1,1,l,sg,0⟩:=⟨rfl,rfl,rfl,hc,hs⟩;have e0:iz [Γ 0,Γ 0,Θ,Θ,Γ 0] [(0,1,Γ 1),(1,1,Γ 1),(2,1,cv),(3,1,sv)]=some (fr ⟨1,1,cv,sv,0⟩):=by
  simp[iz,show ∀n,(Γ n).cells = #[Γ n] from λ_=>rfl,By vQ,By gF,fr]
 refine yW e0 ?_;refine Gb λxb w hS=>?_;refine zr hS Xu rfl rfl (AJ gF vQ) λw hS=>?_;refine zA hS Xh rfl ?_;refine Cg (yo H ⟨1,1,cv,sv,0⟩ ⟨1,1,l,sg,0⟩ hx) λw hS=>?_;refine zt (λhm=>?_) (λhm=>?_)
 ·rw[show k.kx sg l=(k,(0,1)) by unfold cN.kx;rw[zzb (by rw[hm];simp)]];exact cC hS
 have hS:=df.iff.1 (SL.b_ hS (t:=.ob (df sp tp dp lp k)::.pt xb (fr ⟨1,1,cv,sv,0⟩) 101::.ob (bX dp k.d)::.mem H::F) Xi);refine Gp ?_;refine Cg (yr tp k.ts) λw hS=>?_;refine Cg (ZT H cv l k.ts.length hc hl) λw hS=>?_;have hS:=df.put k hS Xp;refine zt (λhb=>?_) (λhb=>?_)
 ·have hb:=yy0 hb;rw[show k.kx sg l=(k,(0,1)) by unfold cN.kx;rw[zzb λh=>hb h.2]];exact cC hS
 have hb:=zzp hb;rw[show k.kx sg l=k.fU ⟨1,1,l,sg,0⟩ by unfold cN.kx;rw[zzd ⟨hm,hb⟩]];refine zA hS Xh rfl ?_;refine Cg (YO sp tp dp lp k H ⟨1,1,cv,sv,0⟩ ⟨1,1,l,sg,0⟩ hx hm hk hN dV) λw hS=>?_;exact cC hS
def mC(d:DS)(f:Int):DS × Int:=if 0<=gn d.R f then d.cut f 0 else (d,0)
def oq(d:DS)(f:Int)(b:Φ):DS × Int:=if (mC d f).2=0 then (mC d f).1.append f b else mC d f
def Sp(d:DS)(f:Int)(b:Φ):ju d f b=if (oq d f b).2=0 then (oq d f b).1.sync f else oq d f b:=by
 unfold ju oq;rw[show (if 0<=gn d.R f then d.cut f 0 else (d,0))=mC d f from rfl];generalize mC d f=c;simp only;by_cases h:c.2=0
 ·rw[zzb (by simp[h]),zzd h];generalize c.1.append f b=a;by_cases h2:a.2=0
  ·rw[zzb (by simp[h2]),zzd h2]
  rw[zzd h2,zzb h2]
 rw[zzd h,zzb h,zzb h]
def Sn{d:DS}{f:Int}{N:Nat}(h:d.Ok N):(mC d f).1.Ok N/\(mC d f).1.ops<=d.ops+1:=by
 unfold mC;split
 ·exact⟨h.cut f 0,Wb d f 0⟩
 exact⟨h,Nat.le_succ _⟩
def Sm{d:DS}{f:Int}{b:Φ}{N:Nat}(h:d.Ok N):(oq d f b).1.Ok (N+b.length)/\(oq d f b).1.ops<=d.ops+2:=by
 obtain⟨h1,h2⟩:=Sn (f:=f) h;unfold oq;split
 ·exact⟨h1.append f b,by have:=Wa (mC d f).1 f b;omega⟩
 exact⟨h1.mono (by omega),by omega⟩
def Sq{d:DS}{f:Int}{b:Φ}{N:Nat}(h:d.Ok N):(ju d f b).1.Ok (N+b.length)/\(ju d f b).1.ops<=d.ops+3:=by
 obtain⟨h1,h2⟩:=Sm (f:=f) (b:=b) h;rw[Sp];split
 ·exact⟨h1.sync f,by have:=cn3 (oq d f b).1 f;omega⟩
 exact⟨h1,by omega⟩
def jy.jd{k:cN}{N:Nat}(h:jy k N):jd (cI k.g.bF) k.ts=true:=
 sM.2 ⟨⟨(sB h.g.ok.bF).1,h.g.hd,h.n1,h.n8⟩,λC hC=>⟨(h.rows C hC).sorted,(h.rows C hC).rows,h.len C hC⟩⟩
def nD.zero(H:bw)(ts:List (List Row)):nD H [] (ts.take 0):=nD.nil H
def QY(sp tp dp lp:Nat)(k:cN)(H:bw){N:Nat}(hk:jy k N)(hN:N<=1000000000)(dV:k.d.ops<=90000):
  SP 181 [cG sp] [.ob (df sp tp dp lp k),.ob (bX dp k.d),.mem H] (λv post=>v= Γ k.gR.2/\∃H',H.le H'/\post=[.ob (df sp tp dp lp k.gR.1),.ob (bX dp k.gR.1.d),.mem H']):=by
 refine Enzz λW F w hS=>?_;apply cGd;delta ML aI bU cV ai bI;have I_:∀C∈k.ts,C.length<=1000000:=λC hC=>by have:=hk.len C hC;omega
 have h8:=hk.n8;have nO:=hk.jd;have hS:=df.iff.1 hS;refine⟨λus w=>us=[Γ (jv k)]/\SL W (.pt sp (mr tp dp lp k.dX k.image) 156::.ob (dN tp k.ts)::.ob (dd lp dp k.g)::.ob (bX dp k.d)::.mem H::F) w,?_,?_⟩
 ·refine bZ (λh=>?_) (λh=>?_)
  ·rw[show jv k=1 by unfold jv;rw[zzd h]];refine Gp ?_;first|exact hS|exact⟨rfl,hS⟩
  rw[show jv k=0 by unfold jv;rw[zzb h]];first|exact hS|exact⟨rfl,hS⟩
 clear hS;rintro v3 w ⟨cP,hS⟩;cases cP;generalize hf:jv k=f at *
 refine Gp ?_;refine Cg (yr tp k.ts) λw hS=>?_;have hS:SL W (.ob (bR Θ 67 1 (k.ts.take 0).length [])::_) _:=bR.nil hS;refine⟨λus w=>∃(i:Nat) (tv:Ε) (vs:Ξ) (H':bw),us=[tv,Γ i]/\i<=k.ts.length/\H.le H'/\nD H' vs (k.ts.take i)/\SL W (.ob (bR tv 67 1 (k.ts.take i).length vs)::.pt sp (mr tp dp lp k.dX k.image) 156::.ob (dN tp k.ts)::.ob (dd lp dp k.g)::.ob (bX dp k.d)::.mem H'::F) w,
  λus _=>match us with|[_,.int _ i]=>(k.ts.length-i).toNat|_=>0,⟨0,_,[],H,rfl,by omega,bw.le_refl H,nD.zero H k.ts,aW hS⟩,?_⟩
 clear hS;rintro tv v21 w ⟨i,_,vs,H',cP,hi,hh,hR,hS⟩;cases cP;refine bZ (λh=>?_) (λh=>?_)
 ·have cz:i<k.ts.length:=by omega
  refine Gp ?_;refine Cc (cDv tp k.ts i I_) ?_;clear hS;rintro rv post rfl w hS;rw[nY k.ts i cz]at hS
  try simp only[app]at hS
  obtain⟨H2,dU,hO,hS⟩:=zz (H:=H') (v:=rv) hS Xp;have gF:=hO.one;have A6:(k.ts.take i).length=i:=by rw[zzg];omega
  refine zN hS (SN gF) λb w hS=>?_;refine zI (n:=(k.ts.take i).length) (m:=1) hS Xr (kf (cs:=[rv]) hS Xh rfl) rfl rfl (by simpa using gF) (by omega) (by omega) ?_;clear hS;intro u w hS;have gM:k.ts.take (i+1)=k.ts.take i++[k.ts[i]]:=zze cz;refine Gp ?_;refine⟨⟨i+1,u,vs++[rv],H2,rfl,by omega,bw.le_trans hh dU,by rw[gM];exact (hR.mono dU).snoc hO,?_⟩,by dsimp only;omega⟩;have hS:=hS.p8 (x:=k.ts[i]);rw[gM];exact aW hS
 obtain rfl:i=k.ts.length:=by omega
 rw[zz4]at hR hS
 obtain⟨H2,dU,hO,hS⟩:=zz (H:=H') (v:=tv) hS Xp;have e_:=bw.le_trans hh dU;have hT:u9 H2 tv k.ts:=⟨vs,hO,hR.mono dU⟩;have hS:=df.put k hS Xp;refine Cg (zE sp tp dp lp k hk.g hN) λw hS=>?_;refine Cc (qG H2 tv (cI k.g.bF) k.ts hT (by omega) (λC hC=>by have:=hk.len C hC;omega)) ?_;clear hS;rintro r post hq w hS;unfold D8 EM at hq;rw[zzd nO]at hq
 obtain⟨bv,rfl,rfl⟩:=hq;(try simp only[app]at hS);refine Gp ?_
 have o9:(da (jl (cI k.g.bF) k.ts)).length<=400000:=by rw[kI];have:=Bo nO;omega
 have hD:k.gR=(let r:=ju k.d f (da (jl (cI k.g.bF) k.ts));if r.2=0 then ({k with d:=r.1,dX:=f,image:=cI k.g.bF},0) else ({k with d:=r.1},r.2)):=by rw[<- hf];rfl
 rw[hD];clear hD nO;generalize da (jl (cI k.g.bF) k.ts)=B at *
 have hS:=df.iff.1 (SL.b_ hS (t:=.ob (df sp tp dp lp k)::.ob (bR bv 5 1 B.length (B.map cX))::.ob (bX dp k.d)::.mem H2::F) Xi);refine⟨λus w=>us=[Γ (mC k.d f).2]/\SL W (.ob (bX dp (mC k.d f).1)::.ob (bR bv 5 1 B.length (B.map cX))::.pt sp (mr tp dp lp k.dX k.image) 156::.ob (dN tp k.ts)::.ob (dd lp dp k.g)::.mem H2::F) w,?_,?_⟩
 ·refine Gp ?_;refine za (λ_=>?_) (λh=>absurd rfl h);refine Gp ?_;refine Cg (YD dp k.d f) λw hS=>?_;refine za (λh0=>?_) (λh0=>?_)
  ·rw[show mC k.d f=k.d.cut f 0 by unfold mC;rw[zzd h0]];refine Gp ?_;refine Cg (Zs dp k.d N hk.d (by omega) (by omega) f 0) λw hS=>?_;first|exact aW hS|exact⟨rfl,aW hS⟩
  rw[show mC k.d f=(k.d,0) by unfold mC;rw[zzb h0]];first|exact aW hS|exact⟨rfl,aW hS⟩
 clear hS;rintro v7 w ⟨cP,hS⟩;cases cP;obtain⟨gF,jY⟩:=Sn (f:=f) hk.d;refine⟨λus w=>us=[Γ (oq k.d f B).2]/\SL W (.ob (bX dp (oq k.d f B).1)::.pt sp (mr tp dp lp k.dX k.image) 156::.ob (dN tp k.ts)::.ob (dd lp dp k.g)::.mem H2::F) w,?_,?_⟩
 ·refine bZ (λh0=>?_) (λh0=>?_)
  ·rw[show oq k.d f B=(mC k.d f).1.append f B by unfold oq;rw[zzd h0]];refine Gp ?_;refine Cg (Hv (.ob (bR bv 5 1 B.length (B.map cX))) dp (mC k.d f).1 N gF (by omega) f bv B (λh m=>nk h m) (by omega)) λw hS=>?_;first|exact aW hS|exact⟨rfl,aW hS⟩
  rw[show oq k.d f B=mC k.d f by unfold oq;rw[zzb h0]];first|exact aW hS|exact⟨rfl,aW hS⟩
 clear hS;rintro v7 w ⟨cP,hS⟩;cases cP;obtain⟨l9,xk⟩:=Sm (f:=f) (b:=B) hk.d;rw[Sp];generalize oq k.d f B=a at *
 simp only;refine bZ (λh0=>?_) (λh0=>?_)
 ·rw[zzd h0];refine Gp ?_;refine Cg (Yj dp a.1 (N+B.length) l9 (by omega) f) λw hS=>?_;generalize a.1.sync f=c at *
  refine za (λhe=>?_) (λhe=>?_)
  ·rw[zzb he];exact⟨_,⟨rfl,H2,e_,rfl⟩,SL.b_ (df.eS (d:=c.1) hS Xp) Xi⟩
  rw[zzd (show c.2=0 by omega)];have hS:=df.put k hS Xp;refine Cg (zE sp tp dp lp k hk.g hN) λw hS=>?_;have hS:=df.iff.1 (SL.b_ hS (t:=.ob (df sp tp dp lp k)::.ob (bX dp c.1)::.mem H2::F) Xi);refine Gn λw hS=>?_;exact⟨_,⟨rfl,H2,e_,rfl⟩,SL.b_ (df.eS (d:=c.1) (dX:=f) (image:=cI k.g.bF) hS Xp) Xi⟩
 rw[zzb h0,zzb h0];refine Gp ?_;refine za (λhe=>?_) (λhe=>absurd (by omega) h0);exact⟨_,⟨rfl,H2,e_,rfl⟩,SL.b_ (df.eS (d:=a.1) hS Xp) Xi⟩
def Q4(sp tp dp lp:Nat)(k:cN)(H:bw)(aw:Int){N:Nat}(hk:jy k N)(hN:N<=900000000)(dV:k.d.ops+k.g.bF.length<=90000):
  SP 120 [cG sp,Γ aw] [.ob (df sp tp dp lp k),.ob (bX dp k.d),.mem H] (λv post=>v= Γ (k.gZ aw).2/\∃H',H.le H'/\post=[.ob (df sp tp dp lp (k.gZ aw).1),.ob (bX dp (k.gZ aw).1.d),.mem H']):=by
 refine Enzz λW F w hS=>?_;apply cEv;delta LO aI bU ai;have gG:∀{w:Ζ} {e:Int},k.gZ aw=(k,e)->SL W (.ob (df sp tp dp lp k)::.ob (bX dp k.d)::.mem H::F) w->∃post,((Γ e:Ε)= Γ (k.gZ aw).2/\∃H',H.le H'/\post=[.ob (df sp tp dp lp (k.gZ aw).1),.ob (bX dp (k.gZ aw).1.d),.mem H'])/\SL W (app post F) w:=λhe hS=>by
  rw[he];exact⟨_,⟨rfl,H,bw.le_refl H,rfl⟩,hS⟩
 refine Gp ?_;refine za (λh=>gG (by unfold cN.gZ;rw[zzd (.inl h)]) hS) (λh1=>?_);refine Cg (zE sp tp dp lp k hk.g (by omega)) λw hS=>?_;refine za (λh=>gG (by unfold cN.gZ;rw[zzd (.inr h)]) (aW hS)) (λh2=>?_);have hS:=df.iff.1 (SL.b_ hS (t:=.ob (df sp tp dp lp k)::.ob (bX dp k.d)::.mem H::F) Xi);refine Gp ?_;refine Cg (zM dp k.d) λw hS=>?_;have hS:=df.put k hS Xp;have dU:¬(aw<0\/cI k.g.bF<aw):=by omega
 cases ho:k.d.off with
 | true=>
  refine zq ?_;exact gG (by unfold cN.gZ;rw[zzb dU,zzd ho]) (aW hS)
 | false=>
  refine zp ?_;have hT:k.gZ aw=(let r:=if k.image<aw then k.gR else (k,0);if r.2≠0 then r else let t:=gQ r.1.g r.1.d aw;({r.1 with g:=t.1.1,d:=t.1.2},t.2)):=by
   unfold cN.gZ;rw[zzb dU,zzb (by simp[ho])]
  rw[hT];clear hT gG;have hS:=df.iff.1 (SL.b_ hS (t:=.ob (df sp tp dp lp k)::.ob (bX dp k.d)::.mem H::F) Xi);refine bZ (λh3=>?_) (λh3=>?_)
  ·rw[zzd h3];have hS:=df.put k hS Xp;refine Cc (QY sp tp dp lp k H hk (by omega) (by omega)) ?_;clear hS;rintro v post ⟨rfl,H',hh,rfl⟩ w hS;try simp only[app]at hS
   have uC:k.gR.1.g=k.g:=by unfold cN.gR;simp only;split<;>rfl
   have vC:k.gR.1.d.Ok (N+400000)/\k.gR.1.d.ops<=k.d.ops+3:=by
    have nO:=hk.jd;have o9:(da (jl (cI k.g.bF) k.ts)).length<=400000:=by rw[kI];have:=Bo nO;omega
    obtain⟨a,b⟩:=Sq (f:=jv k) (b:=da (jl (cI k.g.bF) k.ts)) hk.d;have:k.gR.1.d=(ju k.d (jv k) (da (jl (cI k.g.bF) k.ts))).1:=by unfold cN.gR;simp only;split<;>rfl
    rw[this];exact⟨a.mono (by omega),b⟩
   generalize k.gR=r at *
   obtain⟨k2,e⟩:=r;simp only at uC vC hS ⊢;refine bZ (λhe=>?_) (λhe=>?_)
   ·rw[zzd he];exact⟨_,⟨rfl,H',hh,rfl⟩,aW hS⟩
   rw[zzb he];have hS:=df.iff.1 hS;refine Gp ?_;refine Cg (Zp lp dp k2.g k2.d aw (by rw[uC];exact hk.g.ok) (by omega) vC.1 (by rw[uC];omega)) λw hS=>?_;exact⟨_,⟨rfl,H',hh,rfl⟩,SL.b_ (df.eS (d:=(gQ k2.g k2.d aw).1.2) hS Xp) Xi⟩
  rw[zzb h3];simp only;rw[zzb (by simp)];refine Gp ?_;refine Cg (Zp lp dp k.g k.d aw hk.g.ok (by omega) hk.d (by omega)) λw hS=>?_;exact⟨_,⟨rfl,H,bw.le_refl H,rfl⟩,SL.b_ (df.eS (d:=(gQ k.g k.d aw).1.2) hS Xp) Xi⟩
def cO(n:Int)(l:List cF)(k:Int):List (List Row):=if n<1\/8<n then [] else (List.range n.toNat).map λt:Nat=>w_ t (l.take (bUz k l.length))
def bIu(l:List cF)(tb:Int)(i:Nat):(w_ tb (l.take i)).length<=(l.flatMap (·.changes)).length:=by
 have h2:=bYy (l:=(l.take i).flatMap (·.changes)) [] tb;have e:(l.flatMap (·.changes)).length=((l.take i).flatMap (·.changes)).length+((l.drop i).flatMap (·.changes)).length:=by
  have:l=l.take i++l.drop i:=by simp
  conv=>lhs;rw[this]
  simp only[vv8,zza]
 unfold w_;simp only[yym]at h2;omega
def J8{base size:Int}(b0:0<=base)(b1:base<=12288)(s0:64<=size)(s1:size<=65536):eN gP base size=(gP,.ok ⟨[],base,size,none⟩):=
 Ka (L:=[]) (f:=base) (n:=1) trivial rfl rfl b0 b1 s0 s1 (yyf _) (by simp;omega) (by decide) (by simp[cR])
def bY0{base size:Int}(b0:0<=base)(b1:base<=12288)(s0:64<=size)(s1:size<=65536):gA ⟨[],base,size,none⟩ gP base 1 []:=
 ⟨trivial,rfl,rfl,λ_=>⟨rfl,rfl⟩,yyf _,b0,b1,s0,s1,by decide,by show base+((0:Nat):Int)+2<=base+4096;omega,rfl,rfl⟩
def cnh{base size:Int}(b0:0<=base)(b1:base<=12288)(s0:64<=size)(s1:size<=65536):(⟨[],base,size,none⟩:cU).Ok 0:=⟨by simp,b0,b1,s0,s1,zzj _⟩
structure n_(n:Nat)(all:List cF):Prop where
 ok:s6 n all
 len:all.length<=1000
 jC:(all.flatMap (·.changes)).length<=1000
def n_.nil(n:Nat):n_ n []:=⟨⟨by simp,λi h=>by simp at h,by simp⟩,by decide,by decide⟩
def n_.take{n:Nat}{all:List cF}(h:n_ n all)(j:Nat):n_ n (all.take j):=by
 refine⟨⟨λt ht=>h.ok.may t (yyr ht),λi hi=>?_,λt ht=>h.ok.ch t (yyr ht)⟩,by rw[zzg];have:=h.len;omega,?_⟩
 ·rw[uul];exact h.ok.aw i _
 have e:(all.flatMap (·.changes)).length=((all.take j).flatMap (·.changes)).length+((all.drop j).flatMap (·.changes)).length:=by
  conv=>lhs;rw[<- yyk j all]
  rw[vv8,zza]
 have:=h.jC;omega
def n_.row{n:Nat}{all:List cF}(h:n_ n all):∀C∈fB n all,C.length<=1000:=λC hC=>by
 unfold fB at hC;obtain⟨t,_,rfl⟩:=zzx.1 hC;have:=bIu all (t:Int) all.length;rw[zz4]at this
 have:=h.jC;omega
def n_.rows{n:Nat}{all:List cF}(h:n_ n all):∀C∈fB n all,nE C:=KS h.ok.may h.ok.ch
def n_.xR{n:Nat}{all:List cF}(h:n_ n all)(n1:1<=n)(n8:n<=8):Ak n all:=λj hj=>by
 have ht:=h.take j;have hl:=h.len;refine sM.2 ⟨⟨by omega,by omega,by rw[p9];exact n1,by rw[p9];exact n8⟩,λC hC=>⟨(ht.rows C hC).sorted,(ht.rows C hC).rows,ht.row C hC⟩⟩
def jy.mono{k:cN}{N M:Nat}(h:jy k N)(hm:N<=M):jy k M:=⟨h.g.mono hm,h.d.mono hm,h.rows,h.len,h.n1,h.n8⟩
def jy.add{k:cN}{N:Nat}(h:jy k N){t:cF}(hm:eg t=true):jy (k.fU t).1 (N+2000):=by
 unfold cN.fU;split
 ·exact h.mono (by omega)
 split
 ·exact h.mono (by omega)
 rename_i ho hf;have nM:=sB h.g.ok.bF;have uF:=Vt hm (n:=cI k.g.bF+1) (by omega) (by omega);have hl:=HF uF;have hb:(gi {t with aw:=cI k.g.bF+1}).length<=1200:=hl;have hg:=Ri (d:=k.d) h.g (gi {t with aw:=cI k.g.bF+1});have hd:=Rj (g:=k.g) h.d (gi {t with aw:=cI k.g.bF+1});generalize gi {t with aw:=cI k.g.bF+1}=p at *
 have oA:k_ k.ts t.changes=true:=by
  cases hq:k_ k.ts t.changes with
  | true=>rfl
  | false=>exact absurd (Or.inl hq) hf
 simp only;split
 ·unfold k_ at oA;rw[zzu,zz3,zz3]at oA
  refine⟨hg.mono (by omega),hd.mono (by omega),Hy (k:=8) h.rows (mj hm).2.2.2.2.2.1 oA.1,λC hC=>zzp (oA.2 C hC),?_,?_⟩
  ·show 1<=(fV k.ts t.changes).length;rw[ud];exact h.n1
  show (fV k.ts t.changes).length<=8;rw[ud];exact h.n8
 exact⟨hg.mono (by omega),hd.mono (by omega),h.rows,h.len,h.n1,h.n8⟩
def jy.draw{k:cN}{N:Nat}(h:jy k N):jy k.gR.1 (N+400000):=by
 have nO:=h.jd;have o9:(da (jl (cI k.g.bF) k.ts)).length<=400000:=by rw[kI];have:=Bo nO;omega
 obtain⟨hd,_⟩:=Sq (f:=jv k) (b:=da (jl (cI k.g.bF) k.ts)) h.d;have hd:=hd.mono (M:=N+400000) (by omega);unfold cN.gR;simp only;split
 ·exact⟨h.g.mono (by omega),hd,h.rows,h.len,h.n1,h.n8⟩
 exact⟨h.g.mono (by omega),hd,h.rows,h.len,h.n1,h.n8⟩
def jy.trim{k:cN}{N:Nat}(h:jy k N)(aw:Int):jy (k.gZ aw).1 (N+400000):=by
 unfold cN.gZ;split
 ·exact h.mono (by omega)
 split
 ·exact h.mono (by omega)
 have hr:jy (if k.image<aw then k.gR else (k,0)).1 (N+400000):=by
  split
  ·exact h.draw
  exact h.mono (by omega)
 generalize (if k.image<aw then k.gR else (k,0))=r at *
 simp only;split
 ·exact hr
 exact⟨cDp hr.g aw,cDr hr.d aw,hr.rows,hr.len,hr.n1,hr.n8⟩
def vT(n:Nat)(size:Int):cN:=⟨⟨[],16,size,none⟩,gP,List.replicate n [],-1,0⟩
def cBt{n:Nat}(n1:1<=n)(n8:n<=8){size:Int}(s0:64<=size)(s1:size<=65536):kH gP n size=(gP,.ok (vT n size))/\iM n (vT n size) [] 0 [] gP 16 0 0:=by
 have lJ:my n [] [] (-1) 0:=⟨.nil,by simp,by simp,λ_=>rfl,.inl rfl,zzj _,λh=>absurd rfl h,by simp⟩;have hw:dI 16 4112 [] [] gP.R:=⟨by simp,by simp[gP],by simp⟩;have:=V_ n1 n8 (n_.nil n).ok ((n_.nil n).xR n1 n8) (I:=[]) (tr:=0) (J8 (base:=16) (by decide) (by decide) s0 s1) hw (bY0 (by decide) (by decide) s0 s1) rfl lJ (zzj _) (zzj _) (by decide);rw[KR]at this
 exact this
def cBs{n:Nat}(n1:1<=n)(n8:n<=8){size:Int}(s0:64<=size)(s1:size<=65536):jy (vT n size) 0:=
 ⟨⟨cnh (by decide) (by decide) s0 s1,trivial,show (0:Int)<=1099511627776 by decide,λx hx=>by cases hx⟩,DT 0,λC hC=>by rw[(uug.1 hC).2];exact WD,λC hC=>by rw[(uug.1 hC).2];exact zz9 _,by show 1<=(List.replicate n []).length;rw[xxm];exact n1,by show (List.replicate n []).length<=8;rw[xxm];exact n8⟩
def iM.read{n:Nat}{k:cN}{all:List cF}{tr:Nat}{I:List PF}{d0:DS}{f:Int}{lo m:Nat}(h:iM n k all tr I d0 f lo m)(ho:∀t∈all,eg t=true){j:Nat}(h1:lo<=j)(h2:j<all.length):k.gX ((j:Int)+1)= .ok all[j]:=by
 unfold cN.gX;rw[h.log.chain.read,zzd (by omega),h.log.gy];have e:(((j:Int)+1-((lo:Int)+1)).toNat)=j-lo:=by omega
 have e2:((all.drop lo).map gi)[j-lo]?=some (gi all[j]):=by
  rw[ww2,wws,show lo+(j-lo)=j by omega,zzc h2];rfl
 rw[e,e2];exact RB (ho _ (zzh h2))
def iM.bF{n:Nat}{k:cN}{all:List cF}{tr:Nat}{I:List PF}{d0:DS}{f:Int}{lo m:Nat}(h:iM n k all tr I d0 f lo m):k.g.bF.length<=all.length+1:=by
 have:=h.log.chain.sK;rw[h.log.gy,zzn,zzq]at this
 omega
def V'{d d':DS}{n size:Int}{k:cN}(h:kH d n size=(d',.ok k)):eN d 16 size=(d',.ok k.g):=by
 unfold kH at h;split at h
 ·cases h
 split at h
 ·cases h
 rename_i g hg;simp only at h;split at h
 ·cases h
 split at h
 ·cases h;exact hg
 cases h
structure dG where
 n:Int
 state:Int
 mark:Int
 after:Int
 id:Int
 table:Int
 rows:List Row
 dA:Int
 last:Bool
abbrev mR(n:Int):dG:=⟨n,0,0,0,0,0,[],0,false⟩
def dG.y_(w:dG)(mark id table after:Int):Prop:=w.state≠0\/mark<1\/1099511627776<mark\/id<1\/64<id\/table<0\/8<=table\/after<0\/1099511627776<after
instance (w:dG) (mark id table after:Int):Decidable (w.y_ mark id table after):=by unfold dG.y_;infer_instance
def dG.tQ(w:dG)(mark id table after:Int):dG:=if w.y_ mark id table after then w else ⟨w.n,1,mark,after,id,table,[],0,false⟩
def nX:Int->List Row->Bool
 | _,[]=>true
 | k,r::C=>decide (k<r.key/\r.key<=1099511627776) && nX r.key C
def ly(after:Int)(C:List Row):Int:=(C.getLast?.map (·.key)).getD after
def dG.w8(w:dG)(C:List Row):Prop:=w.state≠1\/w.n<C.length\/nX w.after C=false
instance (w:dG) (C:List Row):Decidable (w.w8 C):=by unfold dG.w8;infer_instance
def dG.fill(w:dG)(C:List Row):dG:=if w.w8 C then w else {w with state:=2,rows:=C,dA:=ly w.after C,last:=decide ((C.length:Int)<w.n)}
def dG.shut(w:dG):dG:=if w.state=2 then {w with state:=3} else w
def dG.waits(w:dG)(kind mark:Int):Bool:=decide (kind=2/\mark=w.mark/\(w.state=1\/w.state=2))
def dG.low(w:dG)(mark:Int):dG:=if w.state=3/\mark=w.mark then {w with state:=4} else w
def lj(t:Int)(l:List ep)(r:Row):Bool:=l.any λc=>decide (c.table=t/\c.key=r.key)
def dG.rP(w:dG)(l:List ep):dG:=if w.state=4 then {w with rows:=w.rows.filter λr=>!lj w.table l r} else w
def dG.uD(w:dG)(mark aw:Int):Prop:=w.state≠4\/mark≠w.mark\/aw<1\/1099511627776<aw
instance (w:dG) (mark aw:Int):Decidable (w.uD mark aw):=by unfold dG.uD;infer_instance
def ka(w:dG)(aw:Int):List gr:=w.rows.map λr=>⟨aw,w.table,r.key,false,r.val⟩
def rK(w:dG):ix:=⟨2,w.id,0,0,0,w.dA,w.last⟩
def dG.high(w:dG)(mark aw:Int):dG × Option cD:=if w.uD mark aw then (w,none) else (mR w.n,some ⟨aw,ka w aw,[rK w]⟩)
structure dB where
 l:List (Int × Int)
 at_:Int
 left:Int
abbrev wP:dB:=⟨[],-1,0⟩
def Bn(d:dB)(id:Int):Option Nat:=d.l.findIdx? λm=>decide (m.1=id)
def dB.add(d:dB)(id weight:Int):dB:=
 if id<1\/64<id\/weight<1\/8<weight then d else match Bn d id with
 | some _=>d
 | none=>{d with l:=d.l++[(id,weight)]}
def dB.del(d:dB)(id:Int):dB:=match Bn d id with
 | none=>d
 | some i=>⟨d.l.eraseIdx i,if (i:Int)<=d.at_ then d.at_-1 else d.at_,if (i:Int)=d.at_ then 0 else d.left⟩
def dB.place(d:dB):Int:=if d.left=0 then (if (d.l.length:Int)<=d.at_+1 then 0 else d.at_+1) else d.at_
def dB.ml(d:dB):Int × Int:=(d.l[d.place.toNat]?).getD (0,0)
def dB.next(d:dB):dB × Int:=if d.l=[] then (d,0) else (⟨d.l,d.place,(if d.left=0 then d.ml.2 else d.left)-1⟩,d.ml.1)
structure dB.Ok(d:dB):Prop where
 l4 : -1<=d.at_
 oP:d.at_<d.l.length
 F0:0<=d.left
 F1:d.left<=8
 neg:d.at_ = -1->d.left=0
 w:∀m∈d.l,1<=m.1/\m.1<=64/\1<=m.2/\m.2<=8
 nd:(d.l.map Prod.fst).Nodup
def u0:Φ:=[115,110,97,112,115,104,111,116,32]
def wa:Φ->Option (Int × Int)
 | [d]=>if 48<=d.toNat/\d.toNat<=55 then some ((d.toNat:Int)-48,1) else none
 | [d,s,e]=>if (48<=d.toNat/\d.toNat<=55)/\s.toNat=32/\49<=e.toNat/\e.toNat<=56 then some ((d.toNat:Int)-48,(e.toNat:Int)-48) else none
 | _=>none
def z_(s:Η):Option (Int × Int):=if s.data.toList.take 9=u0 then wa (s.data.toList.drop 9) else none
structure dD where
 tables:Int
 late:Int
 at_:Int
 reqs:List Rq
 cB:dG
def DF(tables late chunk aw:Int)(L:List Rq):Prop:=tables<1\/8<tables\/late<0\/2 ^ tables.toNat<=late\/aw<0\/1099511627776<aw\/chunk<1\/64<chunk\/¬gk L\/∃r∈L,tables<=r.table\/aw<r.at_
def dD.captured(m:dD)(t:Int):Bool:=decide (0<=t/\t<m.tables) && (decide (Ru m.late t=0) || m.reqs.any λr=>decide (r.table=t))
def dD.accept(m:dD)(s:Η)(aw:Int):List Rq × List ix:=match z_ s with
 | none=>(m.reqs,[])
 | some g=>if m.tables<=g.1 then (m.reqs,[]) else match pD m.reqs g.1 g.2 aw with
  | none=>(m.reqs,[])
  | some L=>(L,[⟨1,L.length,g.1,g.2,aw,0,false⟩])
def dD.fo(m:dD)(aw:Int):Ψ->dD × List ix
 | []=>(m,[])
 | s::l=>let r:=m.accept s aw;let x:=dD.fo {m with reqs:=r.1} aw l;(x.1,r.2++x.2)
def mn(m:dD)(aw:Int)(l:List ep):List gr:=(l.filter λc=>m.captured c.table).map λc=>⟨aw,c.table,c.key,c.gone,c.val⟩
def dD.Az(m:dD)(t:cF):dD × cD:=
 let x:=m.fo t.aw t.signals
 ({x.1 with cB:=x.1.cB.rP t.changes},⟨t.aw,mn x.1 t.aw t.changes,x.2⟩)
def dD.high(m:dD)(t:cF):dD × cD:=match m.cB.high t.mark t.aw with
 | (_,none)=>(m,⟨t.aw,[],[]⟩)
 | (w,some x)=>match l6 m.reqs m.cB.id m.cB.dA m.cB.last with
  | none=>({m with cB:=w},{x with notes:=[]})
  | some L=>({m with cB:=w,reqs:=L},x)
def dD.take(m:dD)(t:cF):dD × (cD × Int):=
 if eg t=false then (m,(⟨0,[],[]⟩,1))
 else if t.aw≠m.at_+1\/m.cB.waits t.kind t.mark=true then (m,(⟨0,[],[]⟩,10))
 else if t.kind=1 then let r:=({m with at_:=t.aw}:dD).Az t;(r.1,(r.2,0))
 else if t.kind=3 then let r:=({m with at_:=t.aw}:dD).high t;(r.1,(r.2,0))
 else ({m with at_:=t.aw,cB:=m.cB.low t.mark},(⟨t.aw,[],[]⟩,0))
def iW(L:List Rq):List Rq:=L.filter λr=>!r.done
structure eW where
 k:cN
 m:dD
 d:dB
 n:Int
def DP(m:dD):Bool:=decide (m.cB.state=1\/m.cB.state=2\/(m.cB.state=0/\iW m.reqs≠[]))
def mo(d:dB)(L:List Rq):dB:=(iW L).foldl (λd r=>d.add r.id r.weight) ((L.filter (·.done)).foldl (λd r=>d.del r.id) d)
def uU(L:List Rq)(id:Int):Option Rq:=if id<1 then none else L[(id-1).toNat]?
def eW.Bv(p:eW)(r:Rq):eW × (Int × Int):=
 if (p.k.j9 2 (cI p.k.g.bF+1)).2.2≠0 then ({p with k:=(p.k.j9 2 (cI p.k.g.bF+1)).1},(0,(p.k.j9 2 (cI p.k.g.bF+1)).2.2))
 else ({p with k:=(p.k.j9 2 (cI p.k.g.bF+1)).1,m:={p.m with cB:=p.m.cB.tQ (cI p.k.g.bF+1) r.id r.table r.dA}},(3,0))
def eW.uR(p:eW)(x:dB × Int):eW × (Int × Int):=match uU p.m.reqs x.2 with
 | none=>({p with d:=x.1},(0,0))
 | some r=>({p with d:=x.1}:eW).Bv r
def eW.uQ(p:eW):eW × (Int × Int):=p.uR (mo p.d p.m.reqs).next
def eW.A4(p:eW):eW × (Int × Int):=
 let y:=p.k.j9 3 p.m.cB.mark
 if y.2.2≠0 then ({p with k:=y.1},(0,y.2.2)) else ({p with k:=y.1,m:={p.m with cB:=p.m.cB.shut}},(5,0))
def eW.step(p:eW):eW × (Int × Int):=
 if DP p.m=false then (p,(0,0))
 else if p.m.cB.state=0 then p.uQ
 else if p.m.cB.state=1 then ({p with m:={p.m with cB:=p.m.cB.fill (p.k.wL p.m.cB.table p.m.cB.after p.n)}},(4,0))
 else p.A4
section
variable {lo hi:Int} {A B:List PF} {d:DS}
def nz.mono{kR xy:Int}{g:cU}(h:nz lo hi g)(h1:kR<=lo)(h2:hi<=xy):nz kR xy g:=⟨by have:=h.b0;omega,by have:=h.b1;omega,h.bF,h.dx⟩
def Laid.S7{g:cU}{d:DS}{f n:Int}{es:List Φ}(h:Laid g d f n es):nz g.base (g.base+4096) g:=by
 have hle:=h.chain.sK;rw[h.gy]at hle
 have tA:=h.fi;have hba:=h.base;refine⟨yyf _,yyf _,λs hs=>?_,λx hx=>by rw[h.dx]at hx;cases hx⟩;have:=h.chain.s_.mem (x:=eD s) (vv7 hs);rw[zzn]at this
 have h1:(eD s).id=s.file:=rfl;omega
def cDd{g:cU}(hg:nz lo hi g)(h:dI lo hi A B d.R)(p:Φ)(k:Int):f_ g (dh A B d) p k=(((f_ g d p k).1.1,dh A B (f_ g d p k).1.2),(f_ g d p k).2)/\dI lo hi A B (f_ g d p k).1.2.R/\nz lo hi (f_ g d p k).1.1:=by
 unfold f_;split
 ·exact⟨rfl,h,hg⟩
 rw[show (dh A B d).off=d.off from rfl];cases hp:eQ g d.off p with
 | error e=>exact⟨rfl,h,hg⟩
 | ok x=>
  have hx:=Wi hg hp;have h1:=hg.b0;have h2:=hg.b1;obtain⟨em,hm,pU⟩:=VD hg h;simp only;rw[em];simp only;split
  ·exact⟨rfl,hm,pU⟩
  obtain⟨ea,ha⟩:=FW hm (f:=x.file) (by omega) (by omega) (x.b.take (k.toNat % x.b.length));rw[ea];simp only;split
  ·exact⟨rfl,ha,pU⟩
  have uy:(dc g d).1.1.base=g.base:=(tO g d).2.1;refine⟨rfl,ha,pU.b0,pU.b1,pU.bF,λy hy=>?_⟩;cases hy;show (dc g d).1.1.base<=_/\_<(dc g d).1.1.base+4096;rw[uy];exact hx
end
def cM.fe(A:List PF)(k:cM):cM:={k with d:=dh A [] k.d}
structure rX(A:List PF)(k:cM):Prop where
 w:dI 8192 12288 A [] k.d.R
 g:nz 8192 12288 k.g
def X6{A:List PF}{k:cM}(h:rX A k)(x:cD)(L:List Rq):(k.fe A).ga x L=((k.ga x L).1.fe A,(k.ga x L).2)/\rX A (k.ga x L).1:=by
 obtain⟨e,h1,h2⟩:=Ep h.g h.w (gl x);unfold cM.ga cM.fe;simp only[e];split
 ·exact⟨rfl,h1,h2⟩
 exact⟨rfl,h1,h2⟩
def cDf{A:List PF}{k:cM}(h:rX A k)(x:cD)(n:Int):(k.fe A).jw x n=((k.jw x n).1.fe A,(k.jw x n).2)/\rX A (k.jw x n).1:=by
 obtain⟨e,h1,h2⟩:=cDd h.g h.w (gl x) n;have e1:(k.fe A).jw x n=(λr:(cU × DS) × Int=>(({k with g:=r.1.1,d:=r.1.2}:cM),r.2)) (f_ k.g (dh A [] k.d) (gl x) n):=rfl;rw[e1,e];exact⟨rfl,⟨h1,h2⟩⟩
def aW6{A:List PF}{k:cM}(h:rX A k)(x:cD):(k.fe A).fx x=((k.fx x).1.fe A,(k.fx x).2)/\rX A (k.fx x).1:=by
 unfold cM.fx;show (if eC x=false\/(k.aw<x.aw/\gb k.ts.length k.reqs x=none) then (k.fe A,(1:Int)) else if k.d.off=true then (k.fe A,8) else _)=_/\_;split
 ·exact⟨rfl,h⟩
 split
 ·exact⟨rfl,h⟩
 show (match k.plan with
  | []=>if k.aw<x.aw then (k.fe A).ga x _ else (k.fe A,(0:Int))
  | f::r=>_)=_/\_
 simp only;cases hp:k.plan with
 | nil=>
  simp only;split
  ·exact X6 h x _
  exact⟨rfl,h⟩
 | cons f r=>
  simp only;have h':rX A {k with plan:=r}:=⟨h.w,h.g⟩;obtain⟨w1,w2⟩:=X6 h' x ((gb k.ts.length k.reqs x).getD []);obtain⟨t1,t2⟩:=cDf h' x f.keep;have w1:cM.ga {k.fe A with plan:=r} x ((gb k.ts.length k.reqs x).getD [])=_:=w1;have t1:cM.jw {k.fe A with plan:=r} x f.keep=_:=t1;simp only[show (cM.fe A k).aw=k.aw from rfl];split
  ·split
   ·exact⟨yyt (λr:cM × Int=>(r.1,if r.2=0 then (9:Int) else r.2)) w1,w2⟩
   exact⟨rfl,h'⟩
  split
  ·exact⟨yyt (λr:cM × Int=>(r.1,if r.2=0 then (9:Int) else r.2)) t1,t2⟩
  exact⟨rfl,h'⟩
def cnx{A:List PF}{d:DS}(h:dI 8192 12288 A [] d.R)(cO size:Int):kG (dh A [] d) cO size=(dh A [] (kG d cO size).1,(kG d cO size).2.map (cM.fe A)):=by
 unfold kG;split
 ·rfl
 obtain⟨e,_⟩:=BA (base:=8192) (size:=size) h;rw[e];cases eN d 8192 size with
 | mk d' r=>
  cases r with
  | error e=>rfl
  | ok g=>
   simp only;split
   ·rfl
   split
   ·rfl
   rfl
def cN.fe(B:List PF)(k:cN):cN:={k with d:=dh [] B k.d}
structure tX(B:List PF)(k:cN):Prop where
 w:dI 0 8192 [] B k.d.R
 g:nz 0 8192 k.g
def Q_{B:List PF}{k:cN}(h:tX B k)(t:cF):(k.fe B).fU t=((k.fU t).1.fe B,(k.fU t).2)/\tX B (k.fU t).1:=by
 obtain⟨e,h1,h2⟩:=Ep h.g h.w (gi {t with aw:=cI k.g.bF+1});unfold cN.fU cN.fe;simp only;rw[show (dh [] B k.d).off=k.d.off from rfl];split
 ·exact⟨rfl,h⟩
 split
 ·exact⟨rfl,h⟩
 simp only[e];split
 ·exact⟨rfl,h1,h2⟩
 exact⟨rfl,h1,h2⟩
def bwp{lo hi:Int}{A B:List PF}{d:DS}(h:dI lo hi A B d.R){f:Int}(h1:lo<=f)(h2:f<hi)(b:Φ):dI lo hi A B (ju d f b).1.R:=by
 unfold ju;have hc:dI lo hi A B (if 0<=gn d.R f then d.cut f 0 else (d,0)).1.R:=by
  split
  ·exact (FX h h1 h2 0).2
  exact h
 generalize (if 0<=gn d.R f then d.cut f 0 else (d,0))=c at *
 simp only;split
 ·exact hc
 have ha:=(FW hc h1 h2 b).2;split
 ·exact ha
 exact (JF ha h1 h2).2
def bwt{B:List PF}{k:cN}(h:tX B k):(k.fe B).gR=(k.gR.1.fe B,k.gR.2)/\tX B k.gR.1:=by
 have ho:0<=jv k/\jv k<8192:=by unfold jv;split<;>omega
 have e:=Sr h.w ho.1 ho.2 (da (jl (cI k.g.bF) k.ts));have hr:=bwp h.w ho.1 ho.2 (da (jl (cI k.g.bF) k.ts));unfold cN.gR;rw[show jv (k.fe B)=jv k from rfl,show (k.fe B).g=k.g from rfl,show (k.fe B).ts=k.ts from rfl,show (k.fe B).d=dh [] B k.d from rfl];simp only[e];split
 ·exact⟨rfl,hr,h.g⟩
 exact⟨rfl,hr,h.g⟩
def cDt{B:List PF}{k:cN}(h:tX B k)(aw:Int):(k.fe B).gZ aw=((k.gZ aw).1.fe B,(k.gZ aw).2)/\tX B (k.gZ aw).1:=by
 unfold cN.gZ;rw[show (k.fe B).g=k.g from rfl,show (k.fe B).d.off=k.d.off from rfl,show (k.fe B).image=k.image from rfl];split
 ·exact⟨rfl,h⟩
 split
 ·exact⟨rfl,h⟩
 have hr:∃r:cN × Int,(if k.image<aw then k.gR else (k,0))=r/\(if k.image<aw then (k.fe B).gR else (k.fe B,0))=(r.1.fe B,r.2)/\tX B r.1:=by
  refine⟨_,rfl,?_⟩;split
  ·exact bwt h
  exact⟨rfl,h⟩
 obtain⟨r,e1,e2,h1⟩:=hr;rw[e1,e2];simp only;split
 ·exact⟨rfl,h1⟩
 obtain⟨e,h2,h3⟩:=XE h1.g h1.w aw;rw[show (r.1.fe B).g=r.1.g from rfl,show (r.1.fe B).d=dh [] B r.1.d from rfl,e];exact⟨rfl,h2,h3⟩
def bXs{lo hi:Int}{A B M:List PF}(h:dI lo hi A B M){n:Nat}{f:Int}(h1:lo<=f)(h2:f<hi):iK (A++M++B) n f=iK M n f:=by
 unfold iK;rw[h.get h1 h2]
def cn0{I B:List PF}{d0:DS}(h:dI 16 4112 I [] d0.R)(hI:∀x∈I,0<=x.id)(hB:∀x∈B,8192<=x.id)(cO size:Int):
  kH (dh I B d0) cO size=(dh [] B (kH (dh I [] d0) cO size).1,(kH (dh I [] d0) cO size).2.map (cN.fe B)):=by
 have hj:∀d:DS,dh I B d=dh [] B (dh I [] d):=λd=>by unfold dh;simp
 unfold kH;split
 ·rw[hj];rfl
 have h':dI 16 (16+4096) I B d0.R:=⟨h.a,h.m,λx hx=>by have:=hB x hx;omega⟩;obtain⟨e1,w1⟩:=BA (base:=16) (size:=size) h';obtain⟨e2,w2⟩:=BA (base:=16) (size:=size) (B:=[]) (A:=I) (d:=d0) h;rw[e1,e2];cases hg:eN d0 16 size with
 | mk d' r=>
  rw[hg]at w1 w2
  cases r with
  | error e=>simp only;rw[hj];rfl
  | ok g=>
   have hw:dI 0 8192 [] B (I++d'.R):=⟨λx hx=>by (cases hx),λx hx=>by
    rcases zz5.1 hx with hx|hx
    ·have:=hI x hx;have:=h.a x hx;omega
    have:=w2.m x hx;omega,hB⟩
   have hl:lu (dh I B d').R cO.toNat=lu (dh I [] d').R cO.toNat:=by
    have hg:∀f:Int,0<=f->f<8192->iK (I++d'.R++B) cO.toNat f=iK (I++d'.R++[]) cO.toNat f:=λf h0 h1=>by
     have:=bXs hw (n:=cO.toNat) h0 h1;rw[zzr]at this
     rw[this,zz1]
    show lu (I++d'.R++B) cO.toNat=lu (I++d'.R++[]) cO.toNat;unfold lu gw;rw[hg 0 (by decide) (by decide),hg 1 (by decide) (by decide)]
   simp only;rw[hl];cases oI cO.toNat (lu (dh I [] d').R cO.toNat).2.1 (cR g.bF) (fj g.bF) (lu (dh I [] d').R cO.toNat).2.2 with
   | none=>simp only;rw[hj];rfl
   | some ts=>
    simp only;split
    ·rw[hj];rfl
    rw[hj];rfl
structure mA(n:Nat)(all:List cF):Prop where
 ok:s6 n all
 len:all.length<=1000
 row:∀j,∀C∈fB n (all.take j),C.length<=1000
def mA.nil(n:Nat):mA n []:=⟨(n_.nil n).ok,by decide,λj=>by rw[List.take_nil];exact (n_.nil n).row⟩
def s6.take{n:Nat}{all:List cF}(h:s6 n all)(j:Nat):s6 n (all.take j):=
 ⟨λt ht=>h.may t (yyr ht),λi hi=>by rw[uul];exact h.aw i _,λt ht=>h.ch t (yyr ht)⟩
def mA.take{n:Nat}{all:List cF}(h:mA n all)(j:Nat):mA n (all.take j):=
 ⟨h.ok.take j,by rw[zzg];have:=h.len;omega,λi=>by rw[ttk];exact h.row _⟩
def mA.xR{n:Nat}{all:List cF}(h:mA n all)(n1:1<=n)(n8:n<=8):Ak n all:=λj hj=>by
 have ht:=h.take j;have hr:=KS ht.ok.may ht.ok.ch;have hl:=h.len;exact sM.2 ⟨⟨by omega,by omega,by rw[p9];exact n1,by rw[p9];exact n8⟩,λC hC=>⟨(hr C hC).sorted,(hr C hC).rows,h.row j C hC⟩⟩
def mA.mP{n:Nat}{all:List cF}(h:mA n all):(∀C∈fB n all,nE C)/\∀C∈fB n all,C.length<=1000:=
 ⟨KS h.ok.may h.ok.ch,λC hC=>h.row all.length C (by rw[zz4];exact hC)⟩
def mA.app{n:Nat}{all:List cF}(h:mA n all){t:cF}(hm:eg t=true)(hl:t.aw=(all.length:Int)+1)(hc:∀c∈t.changes,ij n c=true)(h1:all.length+1<=1000)(hf:k_ (fB n all) t.changes=true):mA n (all++[t]):=by
 refine⟨⟨λx hx=>?_,λi hi=>?_,λx hx=>?_⟩,by rw[zza];exact h1,λj C hC=>?_⟩
 ·rcases zz5.1 hx with hx|hx
  ·exact h.ok.may x hx
  rw[zz7.1 hx];exact hm
 ·rw[List.getElem_append];split
  ·exact h.ok.aw i _
  rename_i hn;rw[zza,yya]at hi
  simp only[List.getElem_singleton];rw[hl];omega
 ·rcases zz5.1 hx with hx|hx
  ·exact h.ok.ch x hx
  rw[zz7.1 hx];exact hc
 rcases xx4 all.length j with hj|hj
 ·rw[zz6 (by rw[zza,yya];omega),<- GJ hc]at hC
  unfold k_ at hf;rw[zzu,zz3,zz3]at hf
  exact zzp (hf.2 C hC)
 rw[xxf hj]at hC
 exact h.row j C hC
abbrev mB(t:cF)(n:Nat):cF:=⟨(n:Int)+1,t.kind,t.changes,t.signals,t.mark⟩
def Vr{t:cF}(h:eg t=true){n:Nat}(hn:n<=1000):eg (mB t n)=true:=by
 obtain⟨_,h2⟩:=vU.1 h;exact vU.2 ⟨⟨by show 1<=(n:Int)+1;omega,by show (n:Int)+1<=_;omega⟩,h2⟩
def iM.add{n:Nat}{k:cN}{all:List cF}{tr:Nat}{I:List PF}{d0:DS}{f:Int}{lo m:Nat}(h:iM n k all tr I d0 f lo m)(ho:k.d.off=false)(ha:0<=k.d.arm)(hlen:all.length<=1000){t:cF}
  (hm:eg (mB t all.length)=true) (hc:∀c∈t.changes,ij n c=true) (hf:k_ (fB n all) t.changes=true) :
  (∃k' d1,k.fU t=(k',((all.length:Int)+1,0))/\iM n k' (all++[mB t all.length]) tr I d1 f lo m/\k'.d.off=false/\0<=k'.d.arm/\(k.d.arm=0->k'.d.arm=0)/\k'.d.ops<=k.d.ops+2) \/
  (∃k' d1,k.fU t=(k',(0,8))/\k'.d.off=true/\k.d.arm≠0/\k'.d.ops<=k.d.ops+2/\k'.ts=k.ts/\s5 n k'.d all (some (mB t all.length)) tr I I d1 k.g f lo m k.dX):=by
 have lh:=h.head ho;have hd:=h.pI;have gT:d0.off=false:=by rw[hd]at ho;exact ho
 have o7:0<=d0.arm:=by rw[hd]at ha;exact ha
 have hl:=h.log.inv gT;have vJ:=h.tN;have mg:=h.kD.le;have A1:=h.file;have hb:=h.base;have gM:=h.ts;have o9:=SB hm;have rm:=Hx hl (p:=gi (mB t all.length)) (by omega) (by rw[zzn,zzq];omega) (by rw[zzn,zzq,hb];omega) o7;obtain⟨ew,hw,_⟩:=Ep (A:=I) (B:=[]) (d:=d0) (h.log.EY hb) h.cB (gi (mB t all.length));have kQ:k.fU t=(let r:=eO k.g k.d (gi (mB t all.length));if r.2.2=0 then ({k with g:=r.1.1,d:=r.1.2,ts:=fV k.ts t.changes},((all.length:Int)+1,0)) else ({k with g:=r.1.1,d:=r.1.2},(0,r.2.2))):=by
  unfold cN.fU;rw[zzb (by simp[ho]),zzb (by rw[gM,hf,lh];simp;omega),lh]
 rw[kQ,hd,ew];have vD:(all.drop lo).map gi++[gi (mB t all.length)]=((all++[mB t all.length]).drop lo).map gi:=by
  rw[xxg (by omega),zzt];rfl
 rcases rm with ⟨g',d',e,hv,dV,sx,tu,uy,Up,na,_,_⟩|⟨d',e,hT,Db,dV,tu,nM⟩
 ·left;rw[e]at hw ⊢
  simp only at hw ⊢;rw[zzd trivial];rw[vD]at hv
  refine⟨_,d',rfl,⟨rfl,hw,hv.laid,uy.trans hb,h.kD.mono _,h.image,vJ,h.sL,?_,A1⟩,hv.off,sx,tu,by show d'.ops<=d0.ops+2;omega⟩;show fV k.ts t.changes=_;rw[gM,GJ (t:=mB t all.length) hc]
 right;rw[e]at hw ⊢
 simp only at hw ⊢;rw[zzb (by decide)];refine⟨_,d',rfl,Db,tu,by show d'.ops<=d0.ops+2;omega,rfl,rfl,hw,.inr ⟨_,true,hT,λ_=>⟨_,rfl,rfl⟩⟩,hb,by have:=h.log.base;omega,A1,λee=>?_,h.kD,.inl rfl,vJ,h.sL⟩;rcases gA.AG h.log ee with h1|⟨h1,_⟩
 ·exact .inl (by omega)
 exact .inr (nM ee h1)
def iM.BP{n:Nat}{k:cN}{all:List cF}{tr:Nat}{I:List PF}{d0:DS}{f:Int}{lo m:Nat}(h:iM n k all tr I d0 f lo m){B:List PF}(hB:∀x∈B,8192<=x.id):tX B k:=by
 refine⟨⟨λx hx=>(by cases hx),λx hx=>?_,hB⟩,(h.log.EY h.base).mono (by decide) (by decide)⟩;rw[h.pI]at hx
 have hx:x∈I++d0.R++[]:=hx;rw[zz1]at hx
 rcases zz5.1 hx with hx|hx
 ·rcases h.kD.ids x hx with e|e<;>omega
 have:=h.cB.m x hx;omega
structure KV(n tr N:Nat)(AL:List cF)(k:cN):Prop where
 lI:mA n AL
 live:∃I d0 f lo m,iM n k AL tr I d0 f lo m
 off:k.d.off=false
 arm:0<=k.d.arm
 ok:jy k N
structure KD(n tr N:Nat)(AL:List cF)(t:Option cF)(d:DS):Prop where
 lI:mA n (AL++t.toList)
 dead:∃I I' d0 g f lo m nw,s5 n d AL t tr I I' d0 g f lo m nw
 ok:d.Ok N
def KV.mono{n tr N M:Nat}{AL:List cF}{k:cN}(h:KV n tr N AL k)(hM:N<=M):KV n tr M AL k:=⟨h.lI,h.live,h.off,h.arm,h.ok.mono hM⟩
def KD.mono{n tr N M:Nat}{AL:List cF}{t:Option cF}{d:DS}(h:KD n tr N AL t d)(hM:N<=M):KD n tr M AL t d:=⟨h.lI,h.dead,h.ok.mono hM⟩
def KV.dead{n tr N:Nat}{AL:List cF}{k:cN}(h:KV n tr N AL k):KD n tr N AL none k.d:=by
 obtain⟨I,d0,f,lo,m,hL⟩:=h.live;exact⟨by rw[show AL++(none:Option cF).toList=AL from zz1 AL];exact h.lI,⟨I,I,d0,k.g,f,lo,m,k.dX,hL.dead hL.AG none⟩,h.ok.d⟩
def KV.BP{n tr N:Nat}{AL:List cF}{k:cN}(h:KV n tr N AL k){B:List PF}(hB:∀x∈B,8192<=x.id):tX B k:=by
 obtain⟨I,d0,f,lo,m,hL⟩:=h.live;exact hL.BP hB
def KV.head{n tr N:Nat}{AL:List cF}{k:cN}(h:KV n tr N AL k):cI k.g.bF=AL.length:=by
 obtain⟨I,d0,f,lo,m,hL⟩:=h.live;exact hL.head h.off
def KV.ts{n tr N:Nat}{AL:List cF}{k:cN}(h:KV n tr N AL k):k.ts=fB n AL:=by
 obtain⟨I,d0,f,lo,m,hL⟩:=h.live;exact hL.ts
def KV.read{n tr N:Nat}{AL:List cF}{k:cN}(h:KV n tr N AL k){j:Nat}(h1:tr<=j)(h2:j<AL.length):k.gX ((j:Int)+1)= .ok AL[j]:=by
 obtain⟨I,d0,f,lo,m,hL⟩:=h.live;have:=hL.sL;exact hL.read h.lI.ok.may (by omega) h2
def KV.add{n tr N:Nat}{AL:List cF}{k:cN}(h:KV n tr N AL k)(hl:AL.length+1<=1000){t:cF}(hm:eg t=true)(hc:∀c∈t.changes,ij n c=true):
  (∃k',k.fU t=(k',((AL.length:Int)+1,0))/\KV n tr (N+2000) (AL++[mB t AL.length]) k'/\(k.d.arm=0->k'.d.arm=0)/\k'.d.ops<=k.d.ops+2) \/
  (∃k',k.fU t=(k',(0,8))/\k'.d.off=true/\KD n tr (N+2000) AL (some (mB t AL.length)) k'.d/\k.d.arm≠0/\k'.d.ops<=k.d.ops+2) \/
  (k.fU t=(k,(0,7))/\k_ (fB n AL) t.changes=false):=by
 obtain⟨I,d0,f,lo,m,hL⟩:=h.live;have fG:=Vr hm (n:=AL.length) (by omega);cases hf:k_ (fB n AL) t.changes with
 | false=>
  refine .inr (.inr ⟨?_,rfl⟩);unfold cN.fU;rw[zzb (by rw[h.off];decide),zzd (.inl (by rw[hL.ts];exact hf))]
 | true=>
  have hT:=h.lI.app fG rfl hc hl hf;have cH:=h.ok.add hm;rcases hL.add h.off h.arm (by omega) fG hc hf with ⟨k',d1,e,l1,o1,a1,a0,p1⟩|⟨k',d1,e,o1,a0,p1,t1,hD⟩
  ·rw[e]at cH
   exact .inl ⟨k',e,⟨hT,⟨I,d1,f,lo,m,l1⟩,o1,a1,cH⟩,a0,p1⟩
  rw[e]at cH
  exact .inr (.inl ⟨k',e,o1,⟨hT,⟨I,I,d1,k.g,f,lo,m,k.dX,hD⟩,cH.d⟩,a0,p1⟩)
def KV.trim{n tr N:Nat}{AL:List cF}{k:cN}(h:KV n tr N AL k)(n1:1<=n)(n8:n<=8){aw:Nat}(hl:aw<=AL.length):
  (∃k',k.gZ aw=(k',0)/\KV n (max tr aw) (N+400000) AL k'/\(k.d.arm=0->k'.d.arm=0)/\k'.d.ops<=k.d.ops+(AL.length+5)) \/
  (∃k' e,k.gZ aw=(k',e)/\e≠0/\k'.d.off=true/\KD n (max tr aw) (N+400000) AL none k'.d/\k.d.arm≠0/\k'.d.ops<=k.d.ops+(AL.length+5)):=by
 obtain⟨I,d0,f,lo,m,hL⟩:=h.live;have cH:=h.ok.trim (aw:Int);rcases hL.trim h.off h.arm h.lI.len (h.lI.xR n1 n8) hl with ⟨k',I',d1,f',kR,m',e,hm',hL',o1,a1,a2,p1,z1⟩|⟨k',e',I1,I',d1,g1,f',kR,m',nw,e,he,o1,a0,p1,hD⟩
 ·rw[e]at cH
  exact .inl ⟨k',e,⟨h.lI,⟨I',d1,f',kR,m',hL'⟩,o1,a1,cH⟩,λha=>by omega,p1⟩
 rw[e]at cH
 exact .inr ⟨k',e',e,he,o1,⟨by rw[show AL++(none:Option cF).toList=AL from zz1 AL];exact h.lI,⟨I1,I',d1,g1,f',kR,m',nw,hD⟩,cH.d⟩,a0,p1⟩
def KD.open{n tr N:Nat}{AL:List cF}{t:Option cF}{d:DS}(h:KD n tr N AL t d)(n1:1<=n)(n8:n<=8)(keep:Ω){size:Int}(s0:64<=size)(s1:size<=65536){B:List PF}(hB:∀x∈B,8192<=x.id):
  ∃k' eT,kH (dh [] B (d.ed keep)) n size=(dh [] B k'.d,.ok (k'.fe B))/\KV n tr (N+200000) eT k'/\k'.d.arm=0/\k'.d.ops<=d.ops+1/\(eT=AL\/∃x,t=some x/\eT=AL++[x]) /\
   (∀d' g,eN (dh [] B (d.ed keep)) 16 size=(d',.ok g)->(cR g.bF).length<=1001):=by
 obtain⟨I,I',d0,g,f,lo,m,nw,hD⟩:=h.dead;have pX:∀l,l=[]\/(∃x,t=some x/\l=[x])->mA n (AL++l):=λl hl=>by
  rcases hl with rfl|⟨x,rfl,rfl⟩
  ·rw[zz1];have:=h.lI.take AL.length
   rwa [ww0]at this
  exact h.lI
 have Iu:=pX [] (.inl rfl);rw[zz1]at Iu
 obtain⟨k',oe,I2,d2,f2,m2,e,hL,o1,a1,p1,ha⟩:=hD.open n1 n8 keep (λl hl=>⟨(pX l hl).ok,(pX l hl).xR n1 n8⟩) Iu.len s0 s1;have hT:mA n oe:=by
  rcases ha with rfl|⟨x,hx,rfl⟩
  ·exact Iu
  exact pX [x] (.inr ⟨x,hx,rfl⟩)
 have ma:=h.ok.ed keep;have hg:=V' e;have pT:∃J d3,d.ed keep=dh J [] d3/\dI 16 4112 J [] d3.R/\∀x∈J,0<=x.id:=by
  refine⟨eY I' keep,d0.ed (keep.drop I'.length),by rw[hD.pI,UN],hD.cB.ed keep _ [],λx hx=>?_⟩;obtain⟨y,hy,ey⟩:=DE hx;have:=h.ok.ids y (by rw[hD.pI];show y∈I'++d0.R++[];simp[hy]);omega
 obtain⟨J,d3,e3,w3,j3⟩:=pT;have Iv:=cn0 w3 j3 hB (n:Int) size;rw[<- e3,e]at Iv
 have hj:∀d:DS,dh J B d=dh [] B (dh J [] d):=λd=>by unfold dh;simp
 rw[hj,<- e3]at Iv
 refine⟨k',oe,Iv,⟨hT,⟨I2,d2,f2,lo,m2,hL⟩,o1,by rw[a1];exact yyf _,?_⟩,a1,p1,ha,?_⟩
 ·have Fw:=J9 ma (by have:=ma.DQ;omega) hg;have Fm:=Gc (base:=16) (size:=size) ma;rw[hg]at Fm
  exact⟨Fw.mono (by omega),Fm.mono (by omega),by rw[hL.ts];exact hT.mP.1,by rw[hL.ts];exact hT.mP.2,by rw[hL.ts,p9];exact n1,by rw[hL.ts,p9];exact n8⟩
 intro d' g' xw;have xP:dI 16 (16+4096) J B d3.R:=⟨w3.a,w3.m,λx hx=>by have:=hB x hx;omega⟩;obtain⟨e4,_⟩:=BA (base:=16) (size:=size) xP;obtain⟨e5,_⟩:=BA (base:=16) (size:=size) w3;rw[e3,<- hj]at xw
 rw[e3,e5]at hg
 rw[e4]at xw
 have h1:=yyt Prod.snd hg;have h2:=yyt Prod.snd xw;simp only at h1 h2;rw[h1]at h2
 cases h2;rw[hL.log.gy,zzn,zzq];have:=hT.len;omega
def gA.wd{g:cU}{d d':DS}{f n:Int}{es:List Φ}(h:gA g d f n es)(hR:d'.R=d.R)(ho:d'.off=false):gA g d' f n es:=(h.laid.sW hR).inv ho
def czi(d:DS)(f:Int)(p:Nat):∃i,(d.remove f).1.ops=d.ops+i/\({d with ops:=p}:DS).remove f=({(d.remove f).1 with ops:=p+i},(d.remove f).2):=by
 unfold DS.remove;rw[show ({d with ops:=p}:DS).find f=d.find f from rfl,show ({d with ops:=p}:DS).cA.off=d.cA.off from rfl];split
 ·exact⟨0,rfl,rfl⟩
 split
 ·exact⟨1,rfl,rfl⟩
 exact⟨1,rfl,rfl⟩
def a_l(d:DS)(f n:Int)(p:Nat):∃i,(d.cut f n).1.ops=d.ops+i/\({d with ops:=p}:DS).cut f n=({(d.cut f n).1 with ops:=p+i},(d.cut f n).2):=by
 unfold DS.cut;rw[show ({d with ops:=p}:DS).find f=d.find f from rfl,show ({d with ops:=p}:DS).cA.off=d.cA.off from rfl];split
 ·exact⟨0,rfl,rfl⟩
 split
 ·exact⟨0,rfl,rfl⟩
 split
 ·exact⟨1,rfl,rfl⟩
 exact⟨1,rfl,rfl⟩
def VB(g:cU)(d:DS)(p:Nat):∃i,(dc g d).1.2.ops=d.ops+i/\dc g {d with ops:=p}=(((dc g d).1.1,{(dc g d).1.2 with ops:=p+i}),(dc g d).2):=by
 unfold dc;cases g.dx with
 | none=>exact⟨0,rfl,rfl⟩
 | some x=>
  simp only;split
  ·obtain⟨i,e1,e2⟩:=czi d x.file p;exact⟨i,e1,by rw[e2]⟩
  obtain⟨i,e1,e2⟩:=a_l d x.file x.oz p;exact⟨i,e1,by rw[e2]⟩
def B_.wo{g:cU}{d:DS}{f n:Int}{es:List Φ}{q:Φ}(h:B_ g d f n es q)(a:Int)(p:Nat):B_ g {d with arm:=a,ops:=p} f n es q:=by
 refine⟨h.off,h.dx.sW rfl,λb hb tz=>?_,?_⟩
 ·obtain⟨g2,d2,e,l2,a1,a2,a3,a4⟩:=h.m2 b hb tz;obtain⟨i,e1,e2⟩:=VB g {d with arm:=b} p;rw[e]at e1 e2
  have e1:d2.ops=d.ops+i:=e1;exact⟨g2,{d2 with ops:=p+i},e2,l2.wd rfl l2.off,a1,a2,by show p+i=p+1;omega,a4⟩
 obtain⟨d2,e,r1,r2,r3⟩:=h.m1;obtain⟨i,e1,e2⟩:=VB g {d with arm:=1} p;rw[e]at e1 e2
 have e1:d2.ops=d.ops+i:=e1;exact⟨{d2 with ops:=p+i},e2,r1,r2,by show p+i=p+1;omega⟩
def St.wo{g:cU}{d:DS}{es:List Φ}{m:Option Φ}(h:St g d es m)(a:Int)(p:Nat):St g {d with arm:=a,ops:=p} es m:=by
 rcases h with ⟨h1,h2⟩|⟨⟨q,h1⟩,h2⟩|⟨h1,q,w,h2,h3⟩
 ·exact .inl ⟨h1.wd rfl h1.off,h2⟩
 ·exact .inr (.inl ⟨⟨q,h1.wo a p⟩,h2⟩)
 exact .inr (.inr ⟨h1,q,w,h2.sW rfl,h3⟩)
def iX.wd{n:Nat}{k:cM}{xs:List cD}{m:Option cD}(h:iX n k xs m){d':DS}(hR:d'.R=k.d.R)(ho:d'.off=k.d.off):iX n {k with d:=d'} xs m:=by
 have e:d'={k.d with arm:=d'.arm,ops:=d'.ops}:=by
  cases d';simp only at hR ho;subst hR ho;rfl
 rw[e];exact⟨h.st.wo _ _,h.may,h.run,h.len,h.K6⟩
def iM.wd{n:Nat}{k:cN}{all:List cF}{tr:Nat}{I:List PF}{d0:DS}{f:Int}{lo m:Nat}(h:iM n k all tr I d0 f lo m){d':DS}(hR:d'.R=k.d.R):iM n {k with d:=d'} all tr I {d' with R:=d0.R} f lo m:=by
 have e:d'.R=I++d0.R++[]:=by rw[hR,h.pI];rfl
 refine⟨?_,h.cB,h.log.sW rfl,h.base,h.kD,h.image,h.tN,h.sL,h.ts,h.file⟩;cases d';simp only at e;subst e;rfl
def s5.wd{n:Nat}{d:DS}{all:List cF}{t:Option cF}{tr:Nat}{I I':List PF}{d0:DS}{g:cU}{f:Int}{lo m:Nat}{nw:Int}(h:s5 n d all t tr I I' d0 g f lo m nw){d':DS}(hR:d'.R=d.R):s5 n d' all t tr I I' {d' with R:=d0.R} g f lo m nw:=by
 have e:d'.R=I'++d0.R++[]:=by rw[hR,h.pI];rfl
 refine⟨?_,h.cB,?_,h.base,h.f16,h.file,h.empty,h.kD,h.xR,h.tN,h.sL⟩
 ·cases d';simp only at e;subst e;rfl
 rcases h.log with hl|⟨q,w,hT,hw⟩
 ·exact .inl (hl.sW rfl)
 exact .inr ⟨q,w,hT.sW rfl,hw⟩
def DS.Ok.wd{d d':DS}{N:Nat}(h:d.Ok N)(hR:d'.R=d.R)(a0:0<=d'.arm)(a1:d'.arm<=9223372036854775807):d'.Ok N:=⟨by rw[hR];exact h.sorted,by rw[hR];exact h.ids,by rw[hR];exact h.safe,by rw[hR];exact h.len,a0,a1⟩
def KV.wd{n tr N:Nat}{AL:List cF}{k:cN}(h:KV n tr N AL k){d':DS}(hR:d'.R=k.d.R)(ho:d'.off=false)(a0:0<=d'.arm)(a1:d'.arm<=9223372036854775807):KV n tr N AL {k with d:=d'}:=by
 obtain⟨I,d0,f,lo,m,hL⟩:=h.live;exact⟨h.lI,⟨I,_,f,lo,m,hL.wd hR⟩,ho,a0,⟨h.ok.g,h.ok.d.wd hR a0 a1,h.ok.rows,h.ok.len,h.ok.n1,h.ok.n8⟩⟩
def KD.wd{n tr N:Nat}{AL:List cF}{t:Option cF}{d d':DS}(h:KD n tr N AL t d)(hR:d'.R=d.R)(a0:0<=d'.arm)(a1:d'.arm<=9223372036854775807):KD n tr N AL t d':=by
 obtain⟨I,I',d0,g,f,lo,m,nw,hD⟩:=h.dead;exact⟨h.lI,⟨I,I',_,g,f,lo,m,nw,hD.wd hR⟩,h.ok.wd hR a0 a1⟩
def DH:∀(A B:List ix) (L:List Rq),fY L (A++B)=(fY L A).bind λL'=>fY L' B
 | [],B,L=>rfl
 | n::A,B,L=>by
  rw[zzv];simp only[fY];cases oG L n with
  | none=>rfl
  | some L'=>exact DH A B L'
def b_z{A B:List ix}{L R:List Rq}(h:fY L (A++B)=some R):∃L',fY L A=some L'/\fY L' B=some R:=by
 rw[DH]at h
 cases hA:fY L A with
 | none=>rw[hA]at h;cases h
 | some L'=>rw[hA]at h;exact⟨L',rfl,h⟩
structure GP(n:Nat)(k k':cM)(xs:List cD)(x:cD)(L:List Rq)(e:Int):Prop where
 ops:k'.d.ops<=k.d.ops+3
 plan:∀f∈k'.plan,f∈k.plan
 pl:k'.plan.length<=k.plan.length
 arm:k.d.arm=0->k'.d.arm=0
 res:(e=0/\k'.d.off=false/\(∃cZ,iX n k' cZ none/\cZ.length<=xs.length+1)/\((k.aw<x.aw/\k'.tr=((fA k.ts x.ops).1,L,x.aw))\/(¬k.aw<x.aw/\k'.tr=k.tr))) \/
  (e=9/\k'.d.off=false/\(∃cZ,iX n k' cZ none/\cZ.length<=xs.length+1)/\((k.aw<x.aw/\k'.tr=((fA k.ts x.ops).1,L,x.aw))\/k'.tr=k.tr)) \/
  (e=8/\k'.d.off=true/\k.d.arm≠0/\(∃m',iX n k' xs m'/\∀y,m'=some y->y=x/\k.aw<x.aw)/\k'.tr=k.tr)
def aW3{n:Nat}{k:cM}{xs:List cD}(h:iX n k xs none)(ha:0<=k.d.arm)(ho:k.d.off=false)(hl:xs.length<=900)(dW:∀f∈k.plan,jc f=true){x:cD}{L:List Rq}(hm:eC x=true)(hf:k.aw<x.aw->gb n k.reqs x=some L):
  GP n k (k.fx x).1 xs x L (k.fx x).2:=by
 have h1:¬(eC x=false\/(k.aw<x.aw/\gb k.ts.length k.reqs x=none)):=by
  rintro (h1|⟨h1,h2⟩)
  ·rw[hm]at h1;cases h1
  rw[h.len,hf h1]at h2;cases h2
 have hw:∀k0:cM,iX n k0 xs none->k0.d=k.d->k0.reqs=k.reqs->k0.aw=k.aw->k0.ts=k.ts->k.aw<x.aw->∀b:Int,(b=0\/b=9)->(∀f∈k0.plan,f∈k.plan)->k0.plan.length<=k.plan.length->GP n k (k0.ga x L).1 xs x L (if (k0.ga x L).2=0 then b else (k0.ga x L).2):=by
  intro k0 h0 e1 e2 e3 e4 de b hb nP pW;rcases cMo h0 (by rw[e1];exact ha) (by rw[e1];exact ho) hl (L:=L) (by rw[e2];exact hf de) (by rw[e3];exact de) with ⟨w1,w2,w3,w4,w5,w6,w7⟩|⟨w1,w2,w3,w4,w5,w6,w7⟩
  ·rw[w1,zzd rfl];refine⟨by rw[e1]at w7;exact w7,by rw[w4];exact nP,by rw[w4];exact pW,λa=>w6 (by rw[e1];exact a),?_⟩;rcases hb with rfl|rfl
   ·exact .inl ⟨rfl,w5,⟨_,w2,by rw[zza];exact zzj _⟩,.inl ⟨de,by rw[w3,e4]⟩⟩
   exact .inr (.inl ⟨rfl,w5,⟨_,w2,by rw[zza];exact zzj _⟩,.inl ⟨de,by rw[w3,e4]⟩⟩)
  rw[w1,zzb (by decide)];have Bi:k0.tr=k.tr:=by unfold cM.tr;rw[e2,e3,e4]
  exact⟨by rw[e1]at w7;exact w7,by rw[w4];exact nP,by rw[w4];exact pW,λa=>by rw[e1]at w6;exact absurd a w6,.inr (.inr ⟨rfl,w5,by rw[e1]at w6;exact w6,⟨_,w2,λy hy=>by cases hy;exact⟨rfl,de⟩⟩,w3.trans Bi⟩)⟩
 unfold cM.fx;rw[zzb h1,zzb (by rw[ho];decide)];simp only;cases hp:k.plan with
 | nil=>
  simp only;by_cases de:k.aw<x.aw
  ·rw[zzd de,h.len,hf de];have:=hw k h rfl rfl rfl rfl de 0 (.inl rfl) (λf hf=>hf) (zzj _);have e:(if (k.ga x L).2=0 then (0:Int) else (k.ga x L).2)=(k.ga x L).2:=by split<;>omega
   rw[e]at this
   exact this
  rw[zzb de];exact⟨Nat.le_add_right _ _,λf hf=>hf,zzj _,id,.inl ⟨rfl,ho,⟨xs,h,Nat.le_succ _⟩,.inr ⟨de,rfl⟩⟩⟩
 | cons f r=>
  simp only;have pV:iX n {k with plan:=r} xs none:=h.plan r;have rD:∀g∈r,g∈k.plan:=λg hg=>by rw[hp];exact .tail _ hg
  have hlen:r.length<=k.plan.length:=by rw[hp];simp
  have hid:GP n k {k with plan:=r} xs x L 9:=⟨by show k.d.ops<=_;omega,rD,hlen,id,.inr (.inl ⟨rfl,ho,⟨xs,pV,by omega⟩,.inr rfl⟩)⟩;split
  ·by_cases de:k.aw<x.aw
   ·rw[zzd de,h.len,hf de];exact hw {k with plan:=r} pV rfl rfl rfl rfl de 9 (.inr rfl) rD hlen
   rw[zzb de];exact hid
  by_cases h2:f.kind=2/\k.aw<x.aw
  ·rw[zzd h2];have xz:0<=f.keep:=by
    have:=dW f (by rw[hp];exact .head _);unfold jc at this;rw[zzw]at this
    omega
   obtain⟨j1,j2,j3,j4,j5⟩:=cDe pV ha ho hl hm xz;rcases j5 with ⟨q1,q2,q3⟩|⟨q1,q2,q3⟩
   ·rw[q1,zzd rfl];exact⟨yy2 j4 (by show k.d.ops+2<=k.d.ops+3;omega),by rw[j3];exact rD,by rw[j3];exact hlen,q3,.inr (.inl ⟨rfl,q2,⟨xs,j1,by omega⟩,.inr j2⟩)⟩
   rw[q1,zzb (by decide)];exact⟨yy2 j4 (by show k.d.ops+2<=k.d.ops+3;omega),by rw[j3];exact rD,by rw[j3];exact hlen,λa=>absurd a q3,.inr (.inr ⟨rfl,q2,q3,⟨none,j1,λy hy=>by cases hy⟩,j2⟩)⟩
  rw[zzb h2];exact hid
def JZ:∀(n:Nat) (l:Ω),l.Nodup->(∀x∈l,1<=x/\x<=(n:Int))->l.length<=n
 | 0,l,_,h=>by
  cases l with
  | nil=>exact zzj _
  | cons x l=>have:=h x (.head _);omega
 | n+1,l,hd,h=>by
  by_cases hm:((n+1:Nat):Int)∈l
  ·have h1:=JZ n (l.erase ((n+1:Nat):Int)) (hd.erase _) λx hx=>by
    have h2:=hd.mem_erase_iff.1 hx;have:=h x h2.2;have:=h2.1;omega
   rw[List.length_erase_of_mem hm]at h1
   omega
  have:=JZ n l hd λx hx=>by
   have:=h x hx;have:x≠((n+1:Nat):Int):=λe=>hm (e▸hx);omega
  omega
def dB.Ok.len{d:dB}(h:d.Ok):d.l.length<=64:=by
 have:=JZ 64 (d.l.map Prod.fst) h.nd λx hx=>by
  obtain⟨m,hm,rfl⟩:=zzx.1 hx;have:=h.w m hm;omega
 rw[zzn]at this;exact this
def bwv:wP.Ok:=⟨by decide,by decide,by decide,by decide,λ_=>rfl,by simp,by simp⟩
def dB.Ok.add{d:dB}(h:d.Ok)(id w:Int):(d.add id w).Ok:=by
 unfold dB.add;split
 ·exact h
 rename_i hr;split
 ·exact h
 rename_i hf;have h1:=h.oP;refine⟨h.l4,by show d.at_<((d.l++[(id,w)]).length:Nat);rw[zza];simp;omega,h.F0,h.F1,h.neg,λm hm=>?_,?_⟩
 ·rcases zz5.1 hm with hm|hm
  ·exact h.w m hm
  rw[zz7.1 hm];simp only;omega
 show ((d.l++[(id,w)]).map Prod.fst).Nodup;rw[zzt,ttc];refine⟨h.nd,by simp,λa ha b hb=>?_⟩;obtain⟨m,hm,rfl⟩:=zzx.1 ha;have hb:b=id:=by simpa using hb
 subst hb;have:=xxs.1 hf m hm;simpa using this
def dB.Ok.del{d:dB}(h:d.Ok)(id:Int):(d.del id).Ok:=by
 unfold dB.del;split
 ·exact h
 rename_i i hf;have hi:i<d.l.length:=(yyn.1 hf).1;have h0:=h.l4;have h1:=h.oP;have hl:(d.l.eraseIdx i).length=d.l.length-1:=by rw[uuu,zzd hi]
 refine⟨?_,?_,?_,?_,λhn=>?_,λm hm=>h.w m (vvi hm),?_⟩
 ·simp only;split<;>omega
 ·simp only[hl];split<;>omega
 ·simp only;split
  ·exact yyf _
  exact h.F0
 ·simp only;split
  ·decide
  exact h.F1
 ·simp only at hn ⊢;split
  ·rfl
  split at hn
  ·omega
  exact h.neg hn
 simp only;exact h.nd.sublist ((List.eraseIdx_sublist _ _).map _)
def dB.Ok.pl{d:dB}(h:d.Ok)(dQ:d.l≠[]):0<=d.place/\d.place<d.l.length/\d.ml∈d.l:=by
 have dW:0<=d.place/\d.place<d.l.length:=by
  have:=h.neg;have:=h.l4;have:=h.oP;have:0<d.l.length:=xx9.2 dQ;unfold dB.place;split
  ·split<;>omega
  omega
 refine⟨dW.1,dW.2,?_⟩;unfold dB.ml;rw[zzc (show d.place.toNat<d.l.length by omega)];exact zzh _
def dB.Ok.next{d:dB}(h:d.Ok):d.next.1.Ok:=by
 unfold dB.next;split
 ·exact h
 rename_i dQ;obtain⟨h1,h2,h3⟩:=h.pl dQ;have hw:=h.w _ h3;have rr:=h.F0;have vI:=h.F1;refine⟨by simp only;omega,by simp only;omega,?_,?_,λhn=>?_,h.w,h.nd⟩
 ·simp only;split<;>omega
 ·simp only;split<;>omega
 simp only at hn;omega
def b_r{d:dB}(h:d.Ok)(dQ:d.l≠[]):d.next.2=d.ml.1/\d.ml∈d.l:=by
 unfold dB.next;rw[zzb dQ];exact⟨rfl,(h.pl dQ).2.2⟩
def b_s(d:dB):d.next.1.l=d.l:=by
 unfold dB.next;split<;>rfl
def Sf:∀(L:List Rq) {d:dB},d.Ok->(L.foldl (λd r=>d.del r.id) d).Ok
 | [],_,h=>h
 | r::L,_,h=>Sf L (h.del r.id)
def Rb:∀(L:List Rq) {d:dB},d.Ok->(L.foldl (λd r=>d.add r.id r.weight) d).Ok
 | [],_,h=>h
 | r::L,_,h=>Rb L (h.add r.id r.weight)
def czn{d:dB}(h:d.Ok)(L:List Rq):(mo d L).Ok:=Rb _ (Sf _ h)
def bwf(d:dB)(id:Int):∀m∈(d.del id).l,m∈d.l:=λm hm=>by
 unfold dB.del at hm;split at hm
 ·exact hm
 exact vvi hm
def Sg:∀(L:List Rq) (d:dB),∀m∈(L.foldl (λd r=>d.del r.id) d).l,m∈d.l
 | [],_,m,h=>h
 | r::L,d,m,h=>bwf d r.id m (Sg L (d.del r.id) m h)
def aF5(d:dB)(id w:Int):∀m∈(d.add id w).l,m∈d.l\/m=(id,w):=λm hm=>by
 unfold dB.add at hm;split at hm
 ·exact .inl hm
 split at hm
 ·exact .inl hm
 rcases zz5.1 hm with hm|hm
 ·exact .inl hm
 exact .inr (zz7.1 hm)
def aF6(d:dB)(id w:Int):∀m∈d.l,m∈(d.add id w).l:=λm hm=>by
 unfold dB.add;split
 ·exact hm
 split
 ·exact hm
 exact yyo _ hm
def Rc:∀(L:List Rq) (d:dB),∀m∈(L.foldl (λd r=>d.add r.id r.weight) d).l,m∈d.l\/∃r∈L,m=(r.id,r.weight)
 | [],_,m,h=>.inl h
 | r::L,d,m,h=>by
  rcases Rc L (d.add r.id r.weight) m h with h|⟨x,hx,e⟩
  ·rcases aF5 d r.id r.weight m h with h|h
   ·exact .inl h
   exact .inr ⟨r,.head _,h⟩
  exact .inr ⟨x,.tail _ hx,e⟩
def Re:∀(L:List Rq) (d:dB),∀m∈d.l,m∈(L.foldl (λd r=>d.add r.id r.weight) d).l
 | [],_,m,h=>h
 | r::L,d,m,h=>Re L (d.add r.id r.weight) m (aF6 d r.id r.weight m h)
def czo(d:dB)(L:List Rq):∀m∈(mo d L).l,m∈d.l\/∃r∈iW L,m=(r.id,r.weight):=λm hm=>by
 rcases Rc _ _ m hm with h|h
 ·exact .inl (Sg _ _ m h)
 exact .inr h
def aF4(d:dB){id w:Int}(h1:1<=id/\id<=64)(h2:1<=w/\w<=8):∃m∈(d.add id w).l,m.1=id:=by
 unfold dB.add;rw[zzb (by omega)];cases hf:Bn d id with
 | some i=>
  obtain⟨hi,hk,_⟩:=yyn.1 hf;exact⟨_,zzh hi,zzp hk⟩
 | none=>exact⟨(id,w),by simp,rfl⟩
def gk.at{L:List Rq}(h:gk L){r:Rq}(hr:r∈L):1<=r.id/\r.id<=L.length/\r.id<=64/\1<=r.weight/\r.weight<=8/\0<=r.table/\r.table<8/\0<=r.dA/\r.dA<=1099511627776:=by
 obtain⟨i,hi,rfl⟩:=yyl hr;obtain⟨⟨h1,h2,h3,h4,h5,h6,h7,h8,h9,vw,AS⟩,_⟩:=h.2 i hi;have:=h.1;exact⟨by omega,by omega,by omega,h4,h5,h2,h3,h8,h9⟩
def czm{d:dB}{L:List Rq}(hL:gk L)(h:iW L≠[]):(mo d L).l≠[]:=by
 unfold mo;generalize (L.filter (·.done)).foldl (λd r=>d.del r.id) d=d1;have jZ:∀r∈iW L,r∈L:=λr hr=>(yyz.1 hr).1;generalize iW L=O at *
 match O,h with
 | r::O,_=>
  have ha:=hL.at (jZ r (.head _));obtain⟨m,hm,_⟩:=aF4 d1 (id:=r.id) (w:=r.weight) (by omega) (by omega);have:=Re O (d1.add r.id r.weight) m hm;intro e;rw[xxo]at e
  rw[e]at this
  cases this
structure eW.Good(p:eW)(N:Nat):Prop where
 reqs:gk p.m.reqs
 t1:1<=p.m.tables/\p.m.tables<=8
 l4:0<=p.m.at_/\p.m.at_<=1099511627776
 wn:p.m.cB.n<=64
 rows:p.m.cB.rows.length<=64
 wid:0<=p.m.cB.id/\p.m.cB.id<=64
 d:p.d.Ok
 ids:∀m∈p.d.l,m.1<=p.m.reqs.length
 n:1<=p.n/\p.n<=64
 src:jy p.k N
def eW.Good.row{p:eW}{N:Nat}(h:p.Good N):(mo p.d p.m.reqs).Ok/\∀m∈(mo p.d p.m.reqs).l,m.1<=p.m.reqs.length:=by
 refine⟨czn h.d _,λm hm=>?_⟩;rcases czo _ _ m hm with hm|⟨r,hr,rfl⟩
 ·exact h.ids m hm
 exact (h.reqs.at (yyz.1 hr).1).2.1
def eW.Good.nm{p:eW}{N:Nat}(h:p.Good N)(ho:iW p.m.reqs≠[]):∃r,uU p.m.reqs (mo p.d p.m.reqs).next.2=some r/\r∈p.m.reqs/\r.id=(mo p.d p.m.reqs).next.2:=by
 obtain⟨h1,h2⟩:=h.row;have dQ:=czm (d:=p.d) h.reqs ho;obtain⟨e,hm⟩:=b_r h1 dQ;have ha:=h1.w _ hm;have hb:=h2 _ hm;rw[e];generalize (mo p.d p.m.reqs).ml.1=id at *
 have de:(id-1).toNat<p.m.reqs.length:=by omega
 refine⟨p.m.reqs[(id-1).toNat],?_,zzh _,?_⟩
 ·unfold uU;rw[zzb (by omega),zzc de]
 have:=(h.reqs.2 _ de).1.1;omega
def aF0{L L':List Rq}{t w a:Int}(h:pD L t w a=some L'):L'.length=L.length+1:=by
 unfold pD at h;split at h
 ·cases h;simp
 cases h
def aWm{L L':List Rq}{id c:Int}{dn:Bool}(h:l6 L id c dn=some L'):L'.length=L.length:=by
 unfold l6 at h;split at h
 ·split at h
  ·split at h
   ·cases h
   cases h;exact yyj
  cases h
 cases h
def aF1(m:dD)(s:Η)(aw:Int):m.reqs.length<=(m.accept s aw).1.length/\(gk m.reqs->gk (m.accept s aw).1):=by
 unfold dD.accept;split
 ·exact⟨zzj _,id⟩
 split
 ·exact⟨zzj _,id⟩
 split
 ·exact⟨zzj _,id⟩
 rename_i L hL;exact⟨by have:=aF0 hL;simp only;omega,λ_=>Cj hL⟩
def Hs(aw:Int):∀(l:Ψ) (m:dD),m.reqs.length<=(m.fo aw l).1.reqs.length/\(gk m.reqs->gk (m.fo aw l).1.reqs)/\(m.fo aw l).1.cB=m.cB/\(m.fo aw l).1.tables=m.tables/\(m.fo aw l).1.late=m.late/\(m.fo aw l).1.at_=m.at_
 | [],m=>⟨zzj _,id,rfl,rfl,rfl,rfl⟩
 | s::l,m=>by
  obtain⟨a,b⟩:=aF1 m s aw;obtain⟨c,d,e⟩:=Hs aw l {m with reqs:=(m.accept s aw).1};exact⟨yy2 a c,λh=>d (b h),e⟩
def cC2{m:dD}{t:cF}(h:gk m.reqs)(hr:m.cB.rows.length<=64)(hn:m.cB.n<=64)(hi:0<=m.cB.id/\m.cB.id<=64)(ha:0<=m.at_/\m.at_<=1099511627776):
  m.reqs.length<=(m.take t).1.reqs.length/\gk (m.take t).1.reqs/\(m.take t).1.tables=m.tables/\(0<=(m.take t).1.at_/\(m.take t).1.at_<=1099511627776)/\(m.take t).1.cB.n<=64/\(m.take t).1.cB.rows.length<=64/\0<=(m.take t).1.cB.id/\(m.take t).1.cB.id<=64:=by
 have uL:m.reqs.length<=m.reqs.length/\gk m.reqs/\m.tables=m.tables/\(0<=m.at_/\m.at_<=1099511627776)/\m.cB.n<=64/\m.cB.rows.length<=64/\0<=m.cB.id/\m.cB.id<=64:=⟨zzj _,h,rfl,ha,hn,hr,hi⟩;unfold dD.take;split
 ·exact uL
 rename_i hm;obtain⟨m1,_⟩:=mj (show eg t=true by cases hq:eg t with
  | true=>rfl
  | false=>exact absurd hq hm)
 split
 ·exact uL
 split
 ·unfold dD.Az;simp only;obtain⟨a,b,c,d,_,f⟩:=Hs t.aw t.signals {m with at_:=t.aw};generalize ({m with at_:=t.aw}:dD).fo t.aw t.signals=y at *
  refine⟨a,b h,d,by rw[f];exact⟨by show 0<=t.aw;omega,by show t.aw<=_;omega⟩,?_⟩;rw[c];unfold dG.rP;simp only;split
  ·exact⟨hn,yy2 (yyp _ _) hr,hi⟩
  exact⟨hn,hr,hi⟩
 split
 ·unfold dD.high;simp only;have Fy:∀w o,m.cB.high t.mark t.aw=(w,o)->w.n<=64/\w.rows.length<=64/\0<=w.id/\w.id<=64:=λw o e=>by
   unfold dG.high at e;split at e
   ·cases e;exact⟨hn,hr,hi⟩
   cases e;exact⟨hn,zz9 _,yyf _,show (0:Int)<=64 by decide⟩
  split
  ·exact⟨zzj _,h,rfl,⟨by show 0<=t.aw;omega,by show t.aw<=_;omega⟩,hn,hr,hi⟩
  rename_i w x e;have hw:=Fy _ _ e;split
  ·exact⟨zzj _,h,rfl,⟨by show 0<=t.aw;omega,by show t.aw<=_;omega⟩,hw⟩
  rename_i L hL;exact⟨by have:=aWm hL;simp only at this ⊢;omega,EA hL,rfl,⟨by show 0<=t.aw;omega,by show t.aw<=_;omega⟩,hw⟩
 refine⟨zzj _,h,rfl,⟨by show 0<=t.aw;omega,by show t.aw<=_;omega⟩,?_⟩;show (m.cB.low t.mark).n<=64/\(m.cB.low t.mark).rows.length<=64/\0<=(m.cB.low t.mark).id/\(m.cB.low t.mark).id<=64;unfold dG.low;split<;>exact⟨hn,hr,hi⟩
def Ring(b cap:Nat)(L:Ψ):zB:=jK λc:Nat=>jK λfirst:Nat=>jK λA:Ψ=>
 zG (A.length=cap/\0<cap/\cap<=64/\first<cap/\L.length<=cap/\∀i,i<L.length->A[(first+i) % cap]?=L[i]?)
 [.pt b [.slice (some ⟨c,0,none⟩) cap cap,Γ first,Γ L.length] 188,.pt c (A.map .string) 9]
def Ring.open{W w:Ζ}{b cap:Nat}{L:Ψ}{l:Β}(h:SL W (.ob (Ring b cap L)::l) w):∃(c first:Nat) (A:Ψ),
  (A.length=cap/\0<cap/\cap<=64/\first<cap/\L.length<=cap/\∀i,i<L.length->A[(first+i) % cap]?=L[i]?) /\
  SL W (.pt b [.slice (some ⟨c,0,none⟩) cap cap,Γ first,Γ L.length] 188::.pt c (A.map .string) 9::l) w:=by
 simpa only[Ring,SL.ex,SL.fact,zzv,zzr] using h
def Ring.close{W w:Ζ}{b c first cap:Nat}{L A:Ψ}{l:Β}(hA:A.length=cap/\0<cap/\cap<=64/\first<cap/\L.length<=cap/\∀i,i<L.length->A[(first+i) % cap]?=L[i]?)
  (h:SL W (.pt b [.slice (some ⟨c,0,none⟩) cap cap,Γ first,Γ L.length] 188::.pt c (A.map .string) 9::l) w):SL W (.ob (Ring b cap L)::l) w:=by
 simp only[Ring,SL.ex,SL.fact,zzv,zzr];exact⟨c,first,A,hA,h⟩
def VH{cap first i j:Nat}(hi:i<cap)(hj:j<cap)(h:(first+i) % cap=(first+j) % cap):i=j:=by
 have h1:=uub (first+i) cap;have h2:=uub (first+j) cap;rw[h]at h1
 rcases Nat.lt_trichotomy ((first+i) / cap) ((first+j) / cap) with hd|hd|hd
 ·have:=uu0 cap hd;simp only[Nat.succ_eq_add_one,Nat.mul_add,vvw]at this;omega
 ·rw[hd]at h1;omega
 have:=uu0 cap hd;simp only[Nat.succ_eq_add_one,Nat.mul_add,vvw]at this;omega
def ZJ(b c cap first n i:Nat)(xq:0<cap)(o_:cap<=64)(hf:first<cap)(hi:i<=64):
  SP 223 [Δ b,Γ i] [.pt b [.slice (some ⟨c,0,none⟩) cap cap,Γ first,Γ n] 188]
   (cE (Γ (((first+i) % cap:Nat):Int)) [.pt b [.slice (some ⟨c,0,none⟩) cap cap,Γ first,Γ n] 188]):=by
 refine Enzz λW F w hS=>?_;apply cHg;delta Nr bU;refine Gn λw hS=>?_;(exact cC hS)
def yu(b cap:Nat)(L:Ψ):SP 52 [Δ b] [.ob (Ring b cap L)] (cE (Γ L.length) [.ob (Ring b cap L)]):=by
 refine Enzz λW F w hS=>?_;apply cK5;delta Pv bU;obtain⟨c,first,A,hA,hS⟩:=Ring.open hS;refine Gp ?_;have hS:=Ring.close hA hS;(exact cC hS)
def qe(b cap:Nat)(L:Ψ):SP 61 [Δ b] [.ob (Ring b cap L)] (cE (Γ cap) [.ob (Ring b cap L)]):=by
 refine Enzz λW F w hS=>?_;apply cLd;delta PD bU;obtain⟨c,first,A,hA,hS⟩:=Ring.open hS;refine Gp ?_;have hS:=Ring.close hA hS;(exact cC hS)
def YM(b cap:Nat)(L:Ψ)(s:Η):SP 165 [Δ b,.string s] [.ob (Ring b cap L)]
  (cE (.bool (decide (L.length<cap))) [.ob (Ring b cap (if L.length<cap then L++[s] else L))]):=by
 refine Enzz λW F w hS=>?_;apply cFx;delta Mv aI bU cV aR bV bY ai;obtain⟨c,first,A,hA,hS⟩:=Ring.open hS;obtain⟨h1,h2,h3,h4,h5,h6⟩:=hA;refine Gn λw hS=>?_;refine za (λh=>?_) (λh=>?_)
 ·have de:¬L.length<cap:=by omega
  simp only[de,wwb,vvf];have hS:=Ring.close ⟨h1,h2,h3,h4,h5,h6⟩ hS;(exact cC hS)
 have de:L.length<cap:=by omega
 have hk:(first+L.length) % cap<cap:=vvg _ h2;simp only[de,wwj,tti];refine Gn λw hS=>?_;refine Cg (ZJ b c cap first L.length L.length h2 h3 h4 (by omega)) λw hS=>?_;refine zF hk ?_;refine Zz hS (cs:=A.map .string) Xu (u:=.string (A[(first+L.length) % cap]'(by omega))) ?_ rfl ?_
 ·simp[h1,hk]
 clear hS;intro w hS;refine Gn λw hS=>?_;have hS:=Ring.close (L:=L++[s]) (A:=A.set ((first+L.length) % cap) s) (b:=b) (c:=c) (first:=first) (cap:=cap) ⟨by simp[h1],h2,h3,h4,by simp;omega,λi hi=>?_⟩ (l:=F) (by simpa [vvo] using hS)
 ·(exact cC hS)
 by_cases he:i=L.length
 ·subst he;simp[h1,hk]
 have xy:i<L.length:=by simp at hi;omega
 rw[List.getElem?_set_ne (λe=>he (VH (by omega) de e.symm)),h6 i xy,zzs xy]
def VK(n:Nat)(h1:1<=n)(h2:n<=64):SP 144 [Γ n] [] (λv post=>∃b:Nat,v= .tuple #[Δ b,Γ 0]/\post=[.ob (Ring b n [])]):=by
 refine Enzz λW F w hS=>?_;apply cFa;delta L9 aI ai cT cQ bI;refine Gp ?_;refine za (λh=>by omega) (λ_=>?_);refine Gp ?_;refine za (λh=>by omega) (λ_=>?_);refine WQ hS (zzj _) (by omega) (by omega) ?_;clear hS;intro c w hS;refine Gp ?_;refine⟨_,rfl,zC hS ?_⟩;clear hS;intro b w hS;have hS:=Ring.close (A:=List.replicate n ⟨#[]⟩) (L:=[]) (first:=0) (cap:=n) (b:=b) (c:=c) (l:=F) ⟨by simp,by omega,by omega,by omega,by simp,λi hi=>by simp at hi⟩ (by simpa [cK] using hS);exact⟨_,⟨b,rfl,rfl⟩,hS⟩
def Wf(b cap:Nat):SP 104 [Δ b] [.ob (Ring b cap [])] (cE (.tuple #[.string ⟨#[]⟩,.bool false]) [.ob (Ring b cap [])]):=by
 refine Enzz λW F w hS=>?_;apply XO;delta G3 aI bU ai;obtain⟨c,first,A,hA,hS⟩:=Ring.open hS;refine Gp ?_;refine za (λh=>?_) (λh=>absurd rfl h);have hS:=Ring.close hA hS;(exact cC hS)
def TG{cap first:Nat}{s:Η}{L A:Ψ}(h4:first<cap)(h6:∀i,i<(s::L).length->A[(first+i) % cap]?=(s::L)[i]?):(A.map Value.string)[first]?=some (.string s):=by
 have h0:=h6 0 (by simp);simp only[xxn,wwp h4,List.getElem?_cons_zero]at h0;simp[h0]
def Wg(b cap:Nat)(s:Η)(L:Ψ):SP 104 [Δ b] [.ob (Ring b cap (s::L))] (cE (.tuple #[.string s,.bool true]) [.ob (Ring b cap (s::L))]):=by
 refine Enzz λW F w hS=>?_;apply XO;delta G3 aI bU ai;obtain⟨c,first,A,hA,hS⟩:=Ring.open hS;obtain⟨h1,h2,h3,h4,h5,h6⟩:=hA;refine Gp ?_;refine za (λh=>by simp at h;omega) (λh=>?_);refine Gn λw hS=>?_;refine zF h4 ?_;refine zV hS (cs:=A.map .string) (.tl .hd) (v:=.string s) (by simpa using TG h4 h6) ?_;have hS:=Ring.close ⟨h1,h2,h3,h4,h5,h6⟩ hS;(exact cC hS)
def cwo(b cap:Nat):SP 166 [Δ b] [.ob (Ring b cap [])] (cE (.tuple #[.string ⟨#[]⟩,.bool false]) [.ob (Ring b cap [])]):=by
 refine Enzz λW F w hS=>?_;apply XR;delta G6 bU cV ai;refine Cg (Wf b cap) λw hS=>?_;(exact cC hS)
def Wj(b cap:Nat)(s:Η)(L:Ψ):SP 166 [Δ b] [.ob (Ring b cap (s::L))] (cE (.tuple #[.string s,.bool true]) [.ob (Ring b cap L)]):=by
 refine Enzz λW F w hS=>?_;apply XR;delta G6 bU cV ai;refine Cc (Wg b cap s L) ?_;clear hS;rintro v post ⟨rfl,rfl⟩ w hS;try simp only[app]at hS
 obtain⟨c,first,A,hA,hS⟩:=Ring.open hS;obtain⟨h1,h2,h3,h4,h5,h6⟩:=hA;simp only[zzi]at hS h5;refine Gn λw hS=>?_;refine zF h4 ?_;refine Zz hS (cs:=A.map .string) Xu (u:=.string s) (by simpa using TG h4 h6) rfl ?_;clear hS;intro w hS;refine Cg (ZJ b c cap first (L.length+1) 1 h2 h3 h4 (by omega)) λw hS=>?_;have hS:=Ring.close (L:=L) (A:=A.set first ⟨#[]⟩) (b:=b) (c:=c) (first:=(first+1) % cap) (cap:=cap) (l:=F) ⟨by simp[h1],h2,h3,vvg _ h2,by omega,λi hi=>?_⟩ (by simpa [vvo] using hS)
 ·(exact cC hS)
 have e1:((first+1) % cap+i) % cap=(first+(i+1)) % cap:=by
  rw[Nat.mod_add_mod];congr 1;omega
 have e2:first≠(first+(i+1)) % cap:=λe=>by
  have:=VH (cap:=cap) (first:=first) (i:=0) (j:=i+1) h2 (by omega) (by rw[xxn,wwp h4];exact e);omega
 rw[e1,List.getElem?_set_ne e2,h6 (i+1) (by simp;omega),List.getElem?_cons_succ]
def Gate(g b cap out:Nat)(L:Ψ):zB:=zG (L.length+out<=cap/\cap<=64) [.pt g [Δ b,Γ out] 125,.ob (Ring b cap L)]
def Gate.open{W w:Ζ}{g b cap out:Nat}{L:Ψ}{l:Β}(h:SL W (.ob (Gate g b cap out L)::l) w):(L.length+out<=cap/\cap<=64) /\
  SL W (.pt g [Δ b,Γ out] 125::.ob (Ring b cap L)::l) w:=by
 simpa only[Gate,SL.fact,zzv,zzr] using h
def Gate.close{W w:Ζ}{g b cap out:Nat}{L:Ψ}{l:Β}(hA:L.length+out<=cap/\cap<=64)
  (h:SL W (.pt g [Δ b,Γ out] 125::.ob (Ring b cap L)::l) w):SL W (.ob (Gate g b cap out L)::l) w:=by
 simp only[Gate,SL.fact,zzv,zzr];exact⟨hA,h⟩
def bI8(n:Nat)(h1:1<=n)(h2:n<=64):SP 145 [Γ n] [] (λv post=>∃g b:Nat,v= .tuple #[Δ g,Γ 0]/\post=[.ob (Gate g b n 0 [])]):=by
 refine Enzz λW F w hS=>?_;apply cFb;delta L_ aI ai cT;refine Cc (VK n h1 h2) ?_;clear hS;rintro v post ⟨b,rfl,rfl⟩ w hS;(try simp only[app]at hS);refine Gp ?_
 refine za (λh1=>absurd rfl h1) (λh1=>?_);refine Gp ?_;refine⟨_,rfl,zC hS ?_⟩;clear hS;intro g w hS;have hS:=Gate.close (out:=0) ⟨by simp,h2⟩ hS;exact⟨_,⟨g,b,rfl,rfl⟩,hS⟩
def zH(g b cap out:Nat)(L:Ψ):SP 54 [Δ g] [.ob (Gate g b cap out L)] (cE (Γ ((cap-L.length-out:Nat):Int)) [.ob (Gate g b cap out L)]):=by
 refine Enzz λW F w hS=>?_;apply cK6;delta Pw bU aR bV;obtain⟨hA,hS⟩:=Gate.open hS;refine Gn λw hS=>?_;refine Cg (qe b cap L) λw hS=>?_;refine Cg (yu b cap L) λw hS=>?_;have hS:=Gate.close (l:=F) hA (by exact aW hS);rw[show (cap:Int)-(L.length:Int)-(out:Int)=((cap-L.length-out:Nat):Int) by omega];(exact cC hS)
def bRd(g b cap out:Nat)(L:Ψ)(s:Η)(h:L.length+out<cap):SP 228 [Δ g,.string s] [.ob (Gate g b cap out L)] (cE (.bool true) [.ob (Gate g b cap out (L++[s]))]):=by
 refine Enzz λW F w hS=>?_;apply cHl;delta Nw aI bU bY ai;refine Cg (zH g b cap out L) λw hS=>?_;refine za (λh1=>?_) (λh1=>by omega);obtain⟨hA,hS⟩:=Gate.open hS;refine Gp ?_;refine Cc (YM b cap L s) ?_;clear hS;rintro v post ⟨rfl,rfl⟩ w hS;try simp only[app]at hS
 have de:L.length<cap:=by omega
 simp only[de,wwj]at hS;simp only[de,tti];have hS:=Gate.close (l:=F) (g:=g) (b:=b) (out:=out) (cap:=cap) (L:=L++[s]) ⟨by simp;omega,hA.2⟩ (by exact aW hS);(exact cC hS)
def bRb(g b cap out:Nat):SP 299 [Δ g] [.ob (Gate g b cap out [])] (cE (.tuple #[.string ⟨#[]⟩,.bool false]) [.ob (Gate g b cap out [])]):=by
 refine Enzz λW F w hS=>?_;apply XT;delta G8 bU cV ai;obtain⟨hA,hS⟩:=Gate.open hS;refine Gp ?_;refine Cg (cwo b cap) λw hS=>?_;have hS:=Gate.close (l:=F) hA (by exact aW hS);(exact cC hS)
def bRc(g b cap out:Nat)(s:Η)(L:Ψ):SP 299 [Δ g] [.ob (Gate g b cap out (s::L))] (cE (.tuple #[.string s,.bool true]) [.ob (Gate g b cap (out+1) L)]):=by
 refine Enzz λW F w hS=>?_;apply XT;delta G8 bU cV ai;obtain⟨hA,hS⟩:=Gate.open hS;simp only[zzi]at hA;refine Gp ?_;refine Cg (Wj b cap s L) λw hS=>?_;have hS:=Gate.close (l:=F) (g:=g) (b:=b) (out:=out+1) (cap:=cap) (L:=L) ⟨by omega,hA.2⟩ (by exact aW hS);(exact cC hS)
def oy(n:Int)(out:Nat):Nat:=(min (max n 0) (out:Int)).toNat
def bI5(n:Int)(out:Nat):min (max n 0) (out:Int)=(oy n out:Int):=by unfold oy;omega
def S4(n:Int)(out:Nat):oy n out<=out:=by unfold oy;omega
def Qw(n:Int)(g b cap out:Nat)(L:Ψ):SP 239 [Δ g,Γ n] [.ob (Gate g b cap out L)] (cE (Γ (oy n out:Int)) [.ob (Gate g b cap (out-oy n out) L)]):=by
 refine Enzz λW F w hS=>?_;apply cHw;delta NI bU cV ai;obtain⟨hA,hS⟩:=Gate.open hS;have hg:=S4 n out;refine Gn λw hS=>?_;rw[bI5]at hS ⊢
 rw[show (out:Int)-(oy n out:Int)=((out-oy n out:Nat):Int) by omega]at hS
 have hS:=Gate.close (l:=F) (g:=g) (b:=b) (cap:=cap) (L:=L) (out:=out-oy n out) ⟨by omega,hA.2⟩ (by exact aW hS);(exact cC hS)
def bRa(g b cap out:Nat)(L:Ψ):SP 53 [Δ g] [.ob (Gate g b cap out L)] (cE (Γ out) [.ob (Gate g b cap out L)]):=by
 refine Enzz λW F w hS=>?_;apply XX;delta Hb bU;obtain⟨hA,hS⟩:=Gate.open hS;refine Gp ?_;have hS:=Gate.close (l:=F) hA (by exact aW hS);(exact cC hS)
abbrev p'(b m j:Int):Prop:=1<=b/\b<=1073741824/\b<=m/\m<=1073741824/\0<=j/\j<=1073741824
def wO(k:Nat)(b m:Int):Int:=min (b*2 ^ k) m
def AE(k b m:Int):Int:=if p' b m 0 then wO k.toNat b m else 0
def rT(k b m j draw:Int):Int:=if p' b m j then AE k b m+max draw 0 % (j+1) else 0
def Kk(b:Int)(hb:0<=b){i k:Nat}(h:i<=k):b*2 ^ i<=b*2 ^ k:=
 Int.mul_le_mul_of_nonneg_left (by
  have:=vv1 (by decide:0<2) h;have h1:((2:Int) ^ i)=((2 ^ i:Nat):Int):=by simp
  have h2:((2:Int) ^ k)=((2 ^ k:Nat):Int):=by simp
  rw[h1,h2];omega) hb
def Si{k:Nat}{b m:Int}(hb:1<=b){i:Nat}(hi:i<=k)(h:m<=b*2 ^ i):wO k b m=m:=by
 have:=Kk b (by omega) hi;unfold wO;exact Int.min_eq_right (by omega)
def yZ(b m j:Int):SP 94 [Γ b,Γ m,Γ j] [] (cE (.bool (decide (p' b m j))) []):=by
 refine Enzz λW F w hS=>?_;apply cL0;delta P0 aI bY ai;have hF:∀{w:Ζ},¬p' b m j->SL W F w->∃post,cE (.bool (decide (p' b m j))) [] (.bool false) post/\SL W (app post F) w:=λh hS=>⟨_,⟨by rw[zz2 h],rfl⟩,hS⟩;(repeat (first|refine Gp ?_|refine Gw λw hS=>?_|refine za (λ_=>hF (by omega) hS) (λ_=>?_)|refine za (λ_=>?_) (λ_=>hF (by omega) hS)))
 have e:decide (j<=1073741824)=decide (p' b m j):=by rw[yyi];omega
 rw[e];exact⟨_,⟨rfl,rfl⟩,hS⟩
def bwh{k:Nat}{b m:Int}:wO k b m<=m:=Int.min_le_right _ _
def Sj{k b m:Int}:0<=AE k b m/\AE k b m<=1073741824:=by
 unfold AE;split
 ·rename_i h;have h1:=@bwh k.toNat b m;have h2:=Kk b (by omega) (zz9 k.toNat);rw[Int.pow_zero,Int.mul_one]at h2
  refine⟨?_,by omega⟩;unfold wO;exact Int.le_min.2 ⟨by omega,by omega⟩
 omega
def cAu{a:Int}{n:Nat}{K:Ε->Prop}(hn:n<=30)(hr : -9223372036854775808<=a*2 ^ n/\a*2 ^ n<=9223372036854775807)(h:K (Γ (a*2 ^ n))):zc .shl (Γ a) (Γ (n:Int)) K:=by
 refine⟨Γ (a*2 ^ n),?_,h⟩;have xD:min n 64=n:=xxu (by omega);show (if ((n:Nat):Int)<0 then none else some (Γ (IntKind.i64.wrap (a*2 ^ (min ((n:Nat):Int).toNat 64)))))=_;rw[zzb (by omega),zzy,xD,xxz _ hr]
def cAw{a:Int}{n:Nat}{K:Ε->Prop}(hn:n<=30)(h:K (Γ (a / 2 ^ n))):zc .shr (Γ a) (Γ (n:Int)) K:=by
 refine⟨Γ (a / 2 ^ n),?_,h⟩;have xD:min n 64=n:=xxu (by omega);have hp:(0:Int)<2 ^ n:=Int.pow_pos (by decide);show (if ((n:Nat):Int)<0 then none else some (Γ (a.fdiv (2 ^ (min ((n:Nat):Int).toNat 64)))))=_;rw[zzb (by omega),zzy,xD,vvy _ (by omega)]
def Qr(k b m:Int):SP 375 [Γ k,Γ b,Γ m] [] (cE (Γ (AE k b m)) []):=by
 refine Enzz λW F w hS=>?_;apply cKm;delta Pa aI cL ai;refine Gp ?_;refine Cc (yZ b m 0) ?_;clear hS;rintro v post ⟨rfl,rfl⟩ w hS;try simp only[app]at hS
 unfold AE;by_cases hm:p' b m 0
 ·rw[zzd hm,zzm hm];obtain⟨h1,h2,h3,h4,_⟩:=hm;refine Gp ?_;refine zp ?_;refine Gp ?_;have ek:max k 0=(k.toNat:Int):=by omega
  rw[ek];generalize k.toNat=n at *
  refine za (λhk=>?_) (λhk=>?_)
  ·have h5:(1073741824:Int)<=b*2 ^ 30:=by
    have:(1:Int)*2 ^ 30<=b*2 ^ 30:=Int.mul_le_mul_of_nonneg_right h1 (by decide);omega
   rw[Si h1 (i:=30) (by omega) (by omega)];exact⟨_,⟨rfl,rfl⟩,hS⟩
  have hp:(0:Int)<2 ^ n:=Int.pow_pos (by decide);refine cAw (by omega) ?_;refine bZ (λhg=>?_) (λhg=>?_)
  ·have:m<b*2 ^ n:=(Int.ediv_lt_iff_lt_mul hp).1 hg;rw[Si h1 (zzj n) (by omega)];exact⟨_,⟨rfl,rfl⟩,hS⟩
  have hle:b*2 ^ n<=m:=(Int.le_ediv_iff_mul_le hp).1 (by omega);have h0:=Kk b (by omega) (zz9 n);rw[Int.pow_zero,Int.mul_one]at h0
  refine cAu (by omega) (by omega) ?_;have e:wO n b m=b*2 ^ n:=by unfold wO;exact Int.min_eq_left hle
  rw[e];exact⟨_,⟨rfl,rfl⟩,hS⟩
 rw[zzb hm,zz2 hm];refine Gp ?_;refine zq ?_;exact⟨_,⟨rfl,rfl⟩,hS⟩
def X3{k b m j draw:Int}:0<=rT k b m j draw/\rT k b m j draw<=2147483648:=by
 unfold rT;split
 ·rename_i h;obtain⟨_,_,_,_,h5,h6⟩:=h;have h1:=@Sj k b m;have h2:=vve (max draw 0) (b:=j+1) (by omega);have h3:=uuc (max draw 0) (b:=j+1) (by omega);omega
 omega
def cMa(k b m j draw:Int):SP 345 [Γ k,Γ b,Γ m,Γ j,Γ draw] [] (cE (Γ (rT k b m j draw)) []):=by
 refine Enzz λW F w hS=>?_;apply cJ7;delta O1 cL ai;refine Cc (yZ b m j) ?_;clear hS;rintro v post ⟨rfl,rfl⟩ w hS;try simp only[app]at hS
 unfold rT;by_cases hm:p' b m j
 ·rw[zzd hm,zzm hm];obtain⟨h1,h2,h3,h4,h5,h6⟩:=hm;refine Gp ?_;refine zp ?_;refine Gn λw hS=>?_;refine ZK (by omega) ?_;rw[xx0 (by omega)];have h7:=vve (max draw 0) (b:=j+1) (by omega);have h8:=uuc (max draw 0) (b:=j+1) (by omega);have h9:=@Sj k b m;generalize max draw 0 % (j+1)=r at *
  refine Cg (Qr k b m) λw hS=>?_;(exact cC hS)
 rw[zzb hm,zz2 hm];refine Gp ?_;refine zq ?_;exact⟨_,⟨rfl,rfl⟩,hS⟩
def sf(now:Int):Int:=max 0 (min now 1125899906842624)
def RI(now:Int):0<=sf now/\sf now<=1125899906842624:=by unfold sf;omega
abbrev rtc(b m j f u:Int):Ξ:=[Γ b,Γ m,Γ j,Γ f,Γ u]
abbrev kq(p:Nat)(b m j f u:Int):Μ:=.pt p (rtc b m j f u) 197
def cDl(b m j:Int):SP 146 [Γ b,Γ m,Γ j] [] (λv post=>if p' b m j then ∃p:Nat,v= .tuple #[Δ p,Γ 0]/\post=[kq p b m j 0 0] else v= .tuple #[.pointer none,Γ 1]/\post=[]):=by
 refine Enzz λW F w hS=>?_;apply cFc;delta Ma cL ai cT;refine Cc (yZ b m j) ?_;clear hS;rintro v post ⟨rfl,rfl⟩ w hS;try simp only[app]at hS
 by_cases hm:p' b m j
 ·rw[zzm hm];refine Gp ?_;refine zp ?_;refine Gp ?_;refine⟨_,rfl,zC hS λp w hS=>?_⟩;exact⟨[kq p b m j 0 0],(zzd hm).mpr ⟨p,rfl,rfl⟩,hS⟩
 rw[zz2 hm];refine Gp ?_;refine zq ?_;exact⟨[],(zzb hm).mpr ⟨rfl,rfl⟩,hS⟩
def cDy(b m j k draw:Int):SP 302 [agg [Γ b,Γ m,Γ j],Γ k,Γ draw] [] (cE (Γ (rT k b m j draw)) []):=by
 refine Enzz λW F w hS=>?_;apply cI9;delta Ox a_;refine⟨_,rfl,zC hS λp w hS=>?_⟩;refine Gp ?_;refine Cg (cMa k b m j draw) λw hS=>?_;(exact cC hS)
def Q8(p:Nat)(b m j f u now draw:Int)(hf:0<=f/\f<=1000000000):SP 241 [Δ p,Γ now,Γ draw] [kq p b m j f u] (cE (Γ (sf now+rT (f+1) b m j draw)) [kq p b m j (f+1) (sf now+rT (f+1) b m j draw)]):=by
 refine Enzz λW F w hS=>?_;apply cHy;delta NK bU cV bV ai;have h1:=RI now;have h2:=@X3 (f+1) b m j draw;have e:min (max now 0) 1125899906842624=sf now:=by unfold sf;omega
 refine Gn λw hS=>?_;rw[e];refine yG (vs:=[Γ b,Γ m,Γ j]) hS Xh rfl (λi v h=>?_) ?_
 ·match i,h with
  | 0,h=>exact h
  | 1,h=>exact h
  | 2,h=>exact h
  | i+3,h=>simp at h
 refine Gp ?_;refine Cg (cDy b m j (f+1) draw) λw hS=>?_;(exact cC hS)
def Q6(p:Nat)(b m j f u:Int):SP 240 [Δ p] [kq p b m j f u] (cE (.tuple #[]) [kq p b m j 0 0]):=by
 refine Enzz λW F w hS=>?_;apply cHx;delta NJ cV ai;refine Gn λw hS=>?_;(exact cC hS)
def qX(p:Nat)(b m j f u now:Int):SP 107 [Δ p,Γ now] [kq p b m j f u] (cE (.bool (decide (u<=now))) [kq p b m j f u]):=by
 refine Enzz λW F w hS=>?_;apply cEh;delta Lz bU;refine Gp ?_;(exact cC hS)
def qW(p:Nat)(b m j f u:Int):SP 57 [Δ p] [kq p b m j f u] (cE (Γ f) [kq p b m j f u]):=by
 refine Enzz λW F w hS=>?_;apply cK9;delta Pz bU;refine Gp ?_;(exact cC hS)
def ZM(p:Nat)(b m j f u:Int):SP 58 [Δ p] [kq p b m j f u] (cE (Γ u) [kq p b m j f u]):=by
 refine Enzz λW F w hS=>?_;apply cLa;delta PA bU;refine Gp ?_;(exact cC hS)
def nR:cD:=⟨0,[],[]⟩
def jn(a x:cD):cD:=⟨x.aw,a.ops++x.ops,a.notes++x.notes⟩
def j8(l:List cD):cD:=l.foldl jn nR
structure vd(n:Nat)(x:cD):Prop where
 may:eC x=true
 cO:sS n x=true
 ops:x.ops.length<=64
 iS:x.notes.length<=4
def fK:Int->List cD->Prop
 | _,[]=>True
 | b,x::l=>b<x.aw/\fK x.aw l
def fK.mono{b c:Int}(h:c<=b):∀{l:List cD},fK b l->fK c l
 | [],_=>trivial
 | _::_,⟨h1,h2⟩=>⟨by omega,h2⟩
def iR(b:Int)(l:List cD):Int:=l.foldl (λ_ x=>x.aw) b
def bYp(b:Int)(l:List cD)(x:cD):iR b (l++[x])=x.aw:=by simp[iR]
def JJ(b:Int)(l l':List cD):iR b (l++l')=iR (iR b l) l':=by simp[iR]
def fK.append{l':List cD}:∀{l:List cD} {b:Int},fK b (l++l')↔fK b l/\fK (iR b l) l'
 | [],b=>⟨λh=>⟨trivial,h⟩,λh=>h.2⟩
 | x::l,b=>by
  show b<x.aw/\fK x.aw (l++l')↔(b<x.aw/\fK x.aw l)/\fK (iR x.aw l) l';rw[fK.append (l:=l) (b:=x.aw)];exact⟨λ⟨a,b,c⟩=>⟨⟨a,b⟩,c⟩,λ⟨⟨a,b⟩,c⟩=>⟨a,b,c⟩⟩
def fK.last{b:Int}:∀{l:List cD},fK b l->b<=iR b l:=λ{l}=>by
 induction l generalizing b with
 | nil=>intro _;exact yyf _
 | cons x l ih=>rintro ⟨h1,h2⟩;have:=ih h2;show b<=iR x.aw l;omega
def fK.snoc{b:Int}{l:List cD}{x:cD}(h:fK b l)(hx:iR b l<x.aw):fK b (l++[x]):=fK.append.2 ⟨h,hx,trivial⟩
structure nA(n:Nat)(a:cD)(k:Nat):Prop where
 l0:0<=a.aw
 l1:a.aw<=1099511627776
 pos:0<k->1<=a.aw
 iS:a.notes.length<=4*k
 J1:∀m∈a.notes,jm m a.aw=true
 len:a.ops.length<=64*k
 ops:∀o∈a.ops,kU o a.aw=true
 mP:∀o∈a.ops,o.table<(n:Int)
def bZr{o:gr}{l l':Int}(h:kU o l=true)(hl:l<=l'):kU o l'=true:=by
 unfold kU at *
 rw[zzw]at *
 exact⟨h.1,by omega,h.2.2⟩
def bZq{m:ix}{l l':Int}(h:jm m l=true)(hl:l<=l'):jm m l'=true:=by
 unfold jm at *
 rw[zzw]at *
 obtain⟨h1,h2,⟨a1,a2,a3,a4,a5,a6,a7,a8⟩|h3⟩:=h
 ·exact⟨h1,h2,.inl ⟨a1,a2,a3,a4,a5,a6,by omega,a8⟩⟩
 exact⟨h1,h2,.inr h3⟩
def vd.iff{n:Nat}{x:cD}(h:vd n x):(1<=x.aw/\x.aw<=1099511627776)/\(∀o∈x.ops,kU o x.aw=true)/\(∀m∈x.notes,jm m x.aw=true)/\∀o∈x.ops,o.table<(n:Int):=by
 obtain⟨⟨h1,h2,_⟩,h3,h4⟩:=oF.1 h.may;have ht:=h.cO;unfold sS at ht;rw[zz3]at ht
 exact⟨⟨h1,h2⟩,h3,h4,λo ho=>zzp (ht o ho)⟩
def nA.zero(n:Nat):nA n nR 0:=⟨yyf _,by show (0:Int)<=_;decide,λh=>by omega,zzj _,λo h=>(by cases h),zzj _,λo h=>(by cases h),λo h=>(by cases h)⟩
def nA.step{n:Nat}{a x:cD}{k:Nat}(h:nA n a k)(hx:vd n x)(hl:a.aw<x.aw):nA n (jn a x) (k+1):=by
 obtain⟨⟨h1,h2⟩,h3,uu,h4⟩:=hx.iff;have h5:=hx.ops;have h6:=h.len;have h7:=hx.iS;have h8:=h.iS;refine⟨by show 0<=x.aw;omega,h2,λ_=>h1,by show (a.notes++x.notes).length<=_;rw[zza];omega,λm hm=>?_,by show (a.ops++x.ops).length<=_;rw[zza];omega,λo ho=>?_,λo ho=>?_⟩
 ·rcases zz5.1 hm with hm|hm
  ·exact bZq (h.J1 m hm) (by show a.aw<=x.aw;omega)
  exact uu m hm
 ·rcases zz5.1 ho with ho|ho
  ·exact bZr (h.ops o ho) (by show a.aw<=x.aw;omega)
  exact h3 o ho
 rcases zz5.1 ho with ho|ho
 ·exact h.mP o ho
 exact h4 o ho
def bX8(l:List cD)(x:cD):j8 (l++[x])=jn (j8 l) x:=by simp[j8]
def bX9{l:List cD}{i:Nat}(h:i<l.length):j8 (l.take (i+1))=jn (j8 (l.take i)) l[i]:=by
 rw[zze h,bX8]
def nA.fold{n:Nat}:∀(l:List cD) {a:cD} {k:Nat},nA n a k->(∀x∈l,vd n x)->fK a.aw l->nA n (l.foldl jn a) (k+l.length)
 | [],a,k,h,_,_=>h
 | x::l,a,k,h,hx,⟨Di,xK⟩=>by
  have:=nA.fold l (h.step (hx x (.head _)) Di) (λy hy=>hx y (.tail _ hy)) xK;rw[zzi,show k+(l.length+1)=k+1+l.length by omega];exact this
def Dy{n:Nat}{l:List cD}(h:∀x∈l,vd n x)(hr:fK 0 l):nA n (j8 l) l.length:=by
 have:=nA.fold (n:=n) l (nA.zero n) h hr;rw[yye]at this
 exact this
def U8(l:List cD):(j8 l).aw=iR 0 l:=by
 suffices h:∀(l:List cD) (a:cD),(l.foldl jn a).aw=iR a.aw l from h l nR
 intro l;induction l with
 | nil=>intro a;rfl
 | cons x l ih=>intro a;exact ih (jn a x)
def nA.may{n k:Nat}{a:cD}(h:nA n a k)(hk:0<k)(Is:k<=64):eC a=true/\sS n a=true:=by
 have h1:=h.pos hk;have h2:=h.l1;have h3:=h.len;have h4:=h.iS;refine⟨oF.2 ⟨⟨h1,h2,by omega,by omega⟩,h.ops,h.J1⟩,?_⟩;unfold sS;rw[zz3];exact λo ho=>zzm (h.mP o ho)
structure eX where
 k:cM
 L:List cD
 out:Nat
 fL:Int
 eI:Int
 held:cD
 n:Nat
structure dM where
 cap:Nat
 cJ:Nat
 b:Int
 m:Int
 j:Int
def eX.ready(s:eX)(now:Int):Bool:=if 0<s.n then decide (s.eI<=now) else decide (0<s.L.length)
def eX.hold(s:eX)(cJ:Nat):eX:=if s.n=0 then {s with L:=s.L.drop cJ,out:=s.out+min cJ s.L.length,held:=j8 (s.L.take cJ),n:=min cJ s.L.length} else s
def eX.hand(c:dM)(s:eX)(now draw:Int):eX × Int × Int:=
 if (s.k.fx s.held).2=0 then ({s with k:=(s.k.fx s.held).1,out:=s.out-oy s.n s.out,fL:=0,eI:=0,held:=nR,n:=0},6,0)
 else if (s.k.fx s.held).2=9 then ({s with k:=(s.k.fx s.held).1,fL:=s.fL+1,eI:=sf now+rT (s.fL+1) c.b c.m c.j draw},7,0)
 else ({s with k:=(s.k.fx s.held).1},0,(s.k.fx s.held).2)
def eX.step(c:dM)(s:eX)(now draw:Int):eX × Int × Int:=if s.ready now=true then (s.hold c.cJ).hand c now draw else (s,0,0)
structure pC(c:dM)(cO:Nat)(s:eX)(f:Nat):Prop where
 Ax:1<=c.cap
 cap:c.cap<=64
 vW:1<=c.cJ
 cJ:c.cJ<=64
 it:∀x∈s.L,vd cO x
 jR:fK 0 s.L
 room:s.L.length+s.out<=c.cap
 out:s.out=s.n
 held:(s.n=0/\s.held=nR)\/(0<s.n/\nA cO s.held s.n)
 f0:0<=s.fL
 f1:s.fL<=f
def pC.mono{c:dM}{cO f f':Nat}{s:eX}(h:pC c cO s f)(hf:f<=f'):pC c cO s f':=⟨h.Ax,h.cap,h.vW,h.cJ,h.it,h.jR,h.room,h.out,h.held,h.f0,by have:=h.f1;omega⟩
def fK.take{b:Int}{l:List cD}(h:fK b l)(i:Nat):fK b (l.take i):=(fK.append.1 ((yyk i l).symm▸h:fK b (l.take i++l.drop i))).1
def fK.drop{b:Int}{l:List cD}(h:fK b l)(i:Nat):fK b (l.drop i):=by
 have:=fK.append.1 ((yyk i l).symm▸h:fK b (l.take i++l.drop i));exact this.2.mono this.1.last
def pC.hold{c:dM}{cO f:Nat}{s:eX}(h:pC c cO s f){now:Int}(hr:s.ready now=true):pC c cO (s.hold c.cJ) f/\0<(s.hold c.cJ).n:=by
 have h1:=h.room;have h2:=h.out;have h3:=h.cap;have h4:=h.vW;unfold eX.hold;by_cases hn:s.n=0
 ·rw[zzd hn];unfold eX.ready at hr;rw[zzb (by omega),zzw]at hr
  have hj:=Dy (n:=cO) (l:=s.L.take c.cJ) (λx hx=>h.it x (yyr hx)) (h.jR.take _);rw[zzg]at hj
  refine⟨⟨h.Ax,h.cap,h.vW,h.cJ,λx hx=>h.it x (vvx hx),h.jR.drop _,?_,?_,.inr ⟨?_,hj⟩,h.f0,h.f1⟩,?_⟩
  ·show (s.L.drop c.cJ).length+(s.out+min c.cJ s.L.length)<=c.cap;rw[zzq];omega
  ·show s.out+min c.cJ s.L.length=min c.cJ s.L.length;omega
  ·show 0<min c.cJ s.L.length;omega
  show 0<min c.cJ s.L.length;omega
 rw[zzb hn];exact⟨h,by omega⟩
structure dF where
 tables:Int
 late:Int
 size:Int
 queue:Int
 chunk:Int
 batch:Int
 base:Int
 cJ:Int
 sI:Int
 every:Int
def l8(c:dF):Ξ:=[Γ c.tables,Γ c.late,Γ c.size,Γ c.queue,Γ c.chunk,Γ c.batch,Γ c.base,Γ c.cJ,Γ c.sI,Γ c.every]
def bFb(c:dF):∀v∈l8 c,v.oneCell'=true:=by simp[l8,Value.oneCell']
def uh(j:Nat):Int:=([64,128,256,1024]:Ω)[j]!
def aWf{j:Nat}(h:j<4):([Γ 64,Γ 128,Γ 256,Γ 1024]:Ξ)[0+j*1]?=some (Γ (uh j)):=by
 match j,h with
 | 0,_=>rfl
 | 1,_=>rfl
 | 2,_=>rfl
 | 3,_=>rfl
def aWg{j:Nat}(h:j<4):64<=uh j/\uh j<=1024:=by
 match j,h with
 | 0,_=>decide
 | 1,_=>decide
 | 2,_=>decide
 | 3,_=>decide
def Cp(c:dF):dF:=
 ⟨1+(md c.tables 4:Int),(md c.late (2 ^ (1+md c.tables 4)):Int),uh (md c.size 4),1+(md c.queue 5:Int),1+(md c.chunk 4:Int),1+(md c.batch 4:Int),1+(md c.base 4:Int),1+(md c.base 4:Int)+(md c.cJ 12:Int),(md c.sI 4:Int),1+(md c.every 8:Int)⟩
def QX{a:Int}{k:IntKind}{n:Nat}{K:Ε->Prop}(hn:n<=60)(hr : -9223372036854775808<=a*2 ^ n/\a*2 ^ n<=9223372036854775807)(h:K (Γ (a*2 ^ n))):zc .shl (Γ a) (.int k (n:Int)) K:=by
 refine⟨Γ (a*2 ^ n),?_,h⟩;have xD:min n 64=n:=xxu (by omega);show (if ((n:Nat):Int)<0 then none else some (Γ (IntKind.i64.wrap (a*2 ^ (min ((n:Nat):Int).toNat 64)))))=_;rw[zzb (by omega),zzy,xD,xxz _ hr]
def czz{j:IntKind}{n:Nat}{K:Ε->Prop}(hr:n<=9223372036854775807)(h:K (.int .u64 (n:Int))):zK .u64 (.int j (n:Int)) K:=zW (by rw[show IntKind.u64.wrap (n:Int)=n by rw[ww7];omega];exact h)
def mz(v n:Int):Int:=(md v n.toNat:Int)
def b_e(v n:Int)(h:0<n/\n<=9223372036854775807):SP 15 [Γ v,Γ n] [] (cE (Γ (mz v n)) []):=by
 have:=ya v n.toNat (by omega) (by omega);rw[show ((n.toNat:Nat):Int)=n by omega]at this
 exact this
def cAe{b o len cap sz:Nat}{k:IntKind}{j:Int}{K:Ε->Prop}(h0:0<=j)(hj:j<len)(h:K (.pointer (some ⟨b,o+j.toNat*sz,none⟩))):zk sz (.slice (some ⟨b,o,none⟩) len cap) (.int k j) K:=by
 obtain⟨m,rfl⟩:∃m:Nat,j=m:=⟨j.toNat,by omega⟩;rw[zzy]at h
 exact zF (by omega) h
def aWe{j:Int}(h0:0<=j)(h:j<4):([Γ 64,Γ 128,Γ 256,Γ 1024]:Ξ)[0+j.toNat*1]?=some (Γ (uh j.toNat)):=aWf (by omega)
set_option maxHeartbeats 4000000 in
def qk(c:dF):SP 7 [agg (l8 c)] [] (cE (agg (l8 (Cp c))) []):=by
 refine Enzz λW F w hS=>?_;apply vc7;delta PL a_ aR vf Hj Hk Em Hl Hm Hn Ho Hp ai ir;refine zw hS λcb w hS=>?_;unfold l8 at hS;refine Gb λxb w hS=>?_;obtain⟨ct,cl,cs,cq,cc,uf,Ay,cm,cj,ce⟩:=c;simp only at hS;have h1:=h_ ct 4 (by decide);have h2:=h_ cs 4 (by decide);have h3:=h_ cq 5 (by decide);have h4:=h_ cc 4 (by decide);have h5:=h_ uf 4 (by decide);have h6:=h_ Ay 4 (by decide);have h7:=h_ cm 12 (by decide);have h8:=h_ cj 4 (by decide);have h9:=h_ ce 8 (by decide);have g1:0<=mz ct 4/\mz ct 4<4:=⟨vvs _,by show (md ct 4:Int)<4;omega⟩;have g2:0<=mz cs 4:=vvs _;have SV:mz cs 4<((4:Nat):Int):=by show (md cs 4:Int)<4;omega
 have bIx:mz cs 4<4:=SV;have g3:0<=mz cq 5/\mz cq 5<5:=⟨vvs _,by show (md cq 5:Int)<5;omega⟩;have g4:0<=mz cc 4/\mz cc 4<4:=⟨vvs _,by show (md cc 4:Int)<4;omega⟩;have g5:0<=mz uf 4/\mz uf 4<4:=⟨vvs _,by show (md uf 4:Int)<4;omega⟩;refine⟨λus w=>∃yb:Nat,us=[Δ yb]/\SL W (.pt yb [Γ (1+mz ct 4),Γ 0,Γ (uh (mz cs 4).toNat),Γ (1+mz cq 5),Γ (1+mz cc 4),Γ (1+mz uf 4),Γ 0,Γ 0,Γ 0,Γ 0] 23 ::
   .pt xb [Γ 0,Γ 0,Γ 0,Γ 0,Γ 0,Γ 0,Γ 0,Γ 0,Γ 0,Γ 0] 23::.pt cb [Γ ct,Γ cl,Γ cs,Γ cq,Γ cc,Γ uf,Γ Ay,Γ cm,Γ cj,Γ ce] 23::F) w,?_,?_⟩
 ·repeat' (first
   | refine Gp ?_
   | refine Gw λw hS=>?_
   | refine Gb λb w hS=>?_
   | ((with_reducible refine yH (b_e _ _ (by decide)) hS (.nil) ?_);clear hS;(rintro v post ⟨rfl,rfl⟩ w hS);(try simp only[app]at hS))
   | (with_reducible refine cAe (by assumption) (by assumption) ?_)
   | (with_reducible refine zV hS (t:=3) Xh (aWe (by assumption) (by assumption)) ?_)
   | with_reducible refine And.intro ?_ ?_
   | exact⟨_,rfl,aW hS⟩)
 clear hS;rintro _ w ⟨yb,cP,hS⟩;cases cP;clear g1 g2 SV bIx g3 g4 g5;have hS:SL W (.pt yb [Γ (1+(md ct 4:Int)),Γ 0,Γ (uh (md cs 4)),Γ (1+(md cq 5:Int)),Γ (1+(md cc 4:Int)),Γ (1+(md uf 4:Int)),Γ 0,Γ 0,Γ 0,Γ 0] 23::_) w:=hS;refine Gp ?_;rw[show (1:Int)+(md ct 4:Int)=((1+md ct 4:Nat):Int) by omega]at hS ⊢
 refine czz (by omega) ?_;have hp:2 ^ (1+md ct 4)<=16:=vv1 (by decide) (show 1+md ct 4<=4 by omega);have rB:0<2 ^ (1+md ct 4):=Nat.pow_pos (by decide);have Ue:(1:Int)*2 ^ (1+md ct 4)=((2 ^ (1+md ct 4):Nat):Int):=by simp
 refine QX (by omega) (by rw[Ue];omega) ?_;rw[Ue];have mg:=h_ cl (2 ^ (1+md ct 4)) rB;have e:Cp ⟨ct,cl,cs,cq,cc,uf,Ay,cm,cj,ce⟩=⟨((1+md ct 4:Nat):Int),(md cl (2 ^ (1+md ct 4)):Int),uh (md cs 4),1+(md cq 5:Int),1+(md cc 4:Int),1+(md uf 4:Int),1+(md Ay 4:Int),1+(md Ay 4:Int)+(md cm 12:Int),(md cj 4:Int),1+(md ce 8:Int)⟩:=by
  unfold Cp;simp only;rw[show (1:Int)+(md ct 4:Int)=((1+md ct 4:Nat):Int) by omega]
 rw[e];generalize hP:2 ^ (1+md ct 4)=P at *
 refine Cg (ya cl P rB (by omega)) λw hS=>?_;refine Cg (zO Ay 4 (by decide) (by decide)) λw hS=>?_;refine Cg (zO cm 12 (by decide) (by decide)) λw hS=>?_;refine Cg (zO cj 4 (by decide) (by decide)) λw hS=>?_;refine Cg (zO ce 8 (by decide) (by decide)) λw hS=>?_;(exact cC hS)
structure gB where
 kind:Int
 n:Int
 sg:Ψ
 l:List ep
 ft:fT
 keep:Ω
instance (a b:fT):Decidable (a=b):=decidable_of_iff (a.kind=b.kind/\a.keep=b.keep) (by obtain⟨a1,a2⟩:=a;obtain⟨b1,b2⟩:=b;simp)
def V3{α β:Type}(f:α->β):∀l:List α,(l.map λs=>[f s]).flatten=l.map f
 | []=>rfl
 | a::l=>by rw[zzo,zz8,V3 f l];rfl
def iQ:fT:=⟨0,0⟩
def po(k:Int):gB:=⟨k,0,[],[],iQ,[]⟩
structure oa where
 kind:Int
 n:Int
 sv:Ε
 cv:Ε
 ft:fT
 kv:Ε
def jX(x:oa):Ξ:=[Γ x.kind,Γ x.n,x.sv,x.cv,Γ x.ft.kind,Γ x.ft.keep,x.kv]
def AI(x:oa):(jX x).length=7:=rfl
structure kL(H:bw)(x:oa)(s:gB):Prop where
 kind:x.kind=s.kind
 n:x.n=s.n
 ft:x.ft=s.ft
 sv:dq H 1 x.sv s.sg.length (s.sg.map Value.string)
 cv:dq H 4 x.cv s.l.length (s.l.map fR).flatten
 kv:dq H 1 x.kv s.keep.length (s.keep.map (Value.int .i64))
def kL.mono{H H':bw}(hh:H.le H'){x:oa}{s:gB}(h:kL H x s):kL H' x s:=⟨h.kind,h.n,h.ft,h.sv.mono hh,h.cv.mono hh,h.kv.mono hh⟩
def Ea(H:bw)(v:Ε)(l:List gB):Prop:=∃xs:List oa,xs.length=l.length/\dq H 7 v l.length (xs.map jX).flatten/\∀i (h:i<l.length) (h':i<xs.length),kL H xs[i] l[i]
def bYc(l:Ω):Bool:=l.all λk=>decide (0<=k/\k<=2147483647)
def bZt(s:gB):Bool:=
 decide ((1<=s.kind/\s.kind<=8)/\(0<=s.n/\s.n<=1125899906842624)/\(s.n=0\/s.kind=2\/s.kind=4\/s.kind=5\/s.kind=7)/\(s.ft=iQ\/s.kind=3)/\(s.sg.length=0\/s.kind=1)/\(s.l.length=0\/s.kind=1)/\(s.keep.length=0\/s.kind=8)/\(s.kind=3->jc s.ft=true/\s.ft.keep<=2147483647)/\s.keep.length<=64) && eg ⟨1,1,s.l,s.sg,0⟩ && bYc s.keep
def bZu(l:List gB):Bool:=l.all bZt && decide (l.length<=1000)
def W2(x:(Int × List gB) × cY):Prop:=(x.2.bad=false/\x.2.l=[])/\bZu x.1.2=true
instance (x:(Int × List gB) × cY):Decidable (W2 x):=by unfold W2;infer_instance
